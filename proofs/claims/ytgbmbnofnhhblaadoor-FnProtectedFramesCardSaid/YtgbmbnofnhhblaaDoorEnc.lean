/- Encryption of bytes, both sides. -/
import Derived.Test.YtgbmbnofnhhblaaDoorSeal
import Derived.Test.YtgbmbnofnhhblaaDoorApp
import Derived.Test.YtgbmbnofnhhblaaDoorReg
import Derived.Test.YtgbmbnofnhhblaaDoorLay
namespace Go.Proofs.YtgbmbnofnhhblaaDoor.Seal
open Go.RowKit
open Go.Proofs.YtgbmbnofnhhblaaDoor.Num Go.Proofs.YtgbmbnofnhhblaaDoor.Mem Go.Proofs.YtgbmbnofnhhblaaDoor.Hsh Go.Proofs.YtgbmbnofnhhblaaDoor.Itoa Go.Proofs.YtgbmbnofnhhblaaDoor.Pass Go.Proofs.YtgbmbnofnhhblaaDoor.Sls Go.Proofs.YtgbmbnofnhhblaaDoor.Own
set_option linter.unusedSimpArgs false
set_option linter.unusedVariables false
/-- the bytes, each moved by a keyed hash of its index -/
def encL (key : Int) (bs : List Int) : List Int := (List.range bs.length).map fun i => (bs.getD i 0 + hashL (keyed key [((i : Nat) : Int)])) % 256
theorem encL_len (key : Int) (bs : List Int) : (encL key bs).length = bs.length := by simp [encL]
theorem encL_at {key : Int} {bs : List Int} {k : Nat} (h : k < bs.length) : (encL key bs).getD k 0 = (bs.getD k 0 + hashL (keyed key [(k : Int)])) % 256 := by
  simp [encL, List.getD_eq_getElem?_getD, h]
theorem encL_bytes (key : Int) (bs : List Int) : AllBytes (encL key bs) := by
  intro z hz
  unfold encL at hz
  obtain ⟨i, _, rfl⟩ := List.mem_map.1 hz
  omega
theorem one_wf (k : Nat) (h : k ≤ 2097152) : ∀ z ∈ ([(k : Int)] : List Int), -9223372036854775808 ≤ z ∧ z ≤ 9223372036854775807 := by
  intro z hz
  simp only [List.mem_singleton] at hz
  omega
theorem own_belowE {w w' : World} {base : Nat} {e : TypeId} {sz : Nat} {v : Value} {n : Nat} {xs : List Value} (h : w.ownsRow base e sz v n xs) (hb : Below w.heap.size w w') : w'.ownsRow base e sz v n xs :=
  h.kept (row := none) ⟨hb.os, hb.tape, hb.output, hb.size, fun k hk _ => hb.block k hk⟩ (by cases hv : v.ownBlock <;> simp)
theorem uInfoE : (Tryd.prog.info? 5).map (fun i => (i.zero, i.size, i.bytes)) = some (some (.int .u8 0), 1, 1) := by kernel_rfl
set_option maxHeartbeats 2000000 in
theorem encrypt_impl (key : Int) (A : Option Addr) (n c : Nat) (bs : List Int) (w : World) (hk : -9223372036854775808 ≤ key ∧ key ≤ 9223372036854775807) (hr : Rd w 1 A n c (bs.map (Value.int .u8))) (hb : AllBytes bs) (hn : n ≤ 2097152) :
    Calls Tryd.prog 38 #[.int .i64 key, .slice A n c] w (RetOwn w 5 1 n ((encL key bs).map (Value.int .u8))) := by
  obtain ⟨i0, hi, hz0, hz1, hz2⟩ := info_parts uInfoE
  have hl := Lib.hid (len_ints hr)
  have HR := Lib.hid hr
  have HB := Lib.hid hb
  have HK := Lib.hid hk
  have hle := Lib.hid (encL_len key bs)
  clear hr hb hk
  go_enter Tryd.func38, Tryd.ntmps38
  go_wp2_with (at_make; refine wpList_make_full _ rfl _ _ 25 rfl w.heap.size 5 i0 (.int .u8 0) 1 Tryd.underlying25 hi hz0 hz1 _ _ _ _ n rfl rfl rfl rfl ?b2 ?b3 (Nat.le_refl _) ?_)
  case b2 => rw [hz2]; omega
  case b3 => unfold maxLen; omega
  intro w0 hown0 hgrow0
  have hb0 : Below w.heap.size w w0 := (Below.refl _ _).grown hgrow0 (Nat.le_refl _) (fun k h => by cases h)
  clear hgrow0
  have hz' : ((madeCells #[Value.int IntKind.u8 0] n).toList).length = n := by simp [size_madeCells]
  generalize (madeCells #[Value.int IntKind.u8 0] n).toList = Z at hown0 hz'
  have HZ := Lib.hid hz'
  have HO := Lib.hid hown0
  clear hz' hown0
  go_wp2
  go_loopw [13] (fun v13 wr => ∃ k : Nat, k ≤ n ∧ v13 = .int .i64 (k : Int) ∧ wr.ownsRow w.heap.size 5 1 (.slice (some ⟨w.heap.size, 0, none⟩) n n) n (((encL key bs).take k).map (Value.int .u8) ++ Z.drop k) ∧ Below w.heap.size w wr) (fun v13 _ => n - (intOf v13).toNat)
  case atStart => exact ⟨0, Nat.zero_le _, rfl, HO.out, hb0⟩
  case round =>
    obtain ⟨k, hk, rfl, hown, hbr⟩ := hrel
    by_cases hlt : k < n
    · obtain ⟨g, o, rfl, hg, hc0⟩ := HR.out.int_at hlt
      have hc := (hbr.cell (p := ⟨g, o + k, none⟩) hg).trans hc0
      have hzb := HB.out.at_ (k := k) (by rw [hl.out]; omega)
      have hen := encL_at (key := key) (bs := bs) (k := k) (by rw [hl.out]; omega)
      have hhb := hashL_bd (keyed key [(k : Int)])
      have HOW := Lib.hid hown
      have HBR := Lib.hid hbr
      have HKH := Lib.hid (fun w h => keyedHash_impl key (some ⟨wr.heap.size, 0, none⟩) 1 1 [(k : Int)] w h (by omega) HK.out (one_wf k (by omega)))
      have hsp := Lib.hid (row_step (k := k) (zs := encL key bs) (Z := Z) (f := Value.int .u8) (by rw [hle.out, hl.out]; exact hlt) (by rw [HZ.out]; exact hlt))
      rw [hen] at hsp
      generalize bs.getD k 0 = z at hc hzb hsp
      generalize hashL (keyed key [(k : Int)]) = h at hhb hsp HKH
      obtain ⟨z0, z1⟩ := hzb
      obtain ⟨h0, h1⟩ := hhb
      clear hown hbr hb0 hc0 hen
      go_wp2_with fail
      refine (HKH.out _ (by exact Rd.one _ _ _)).mono ?_
      rintro x w1 ⟨rfl, hb⟩
      have hst0 : Below wr.heap.size wr w1 := Below.trans ((Below.refl _ _).alloc (Nat.le_refl _) _) (hb.mono (by simp))
      have hown := own_belowE HOW.out hst0
      have hbr := stepB HBR.out hst0 HBR.out.size
      have hcell := hown.cellAt k (by omega)
      have hfr := hown.frozenAt k
      have hst := Lib.hid (hown.stored k (.int .u8 ((z + h) % 256)))
      rw [row_at (by rw [hle.out, hl.out]; exact hlt) (by rw [HZ.out]; exact hlt)] at hcell
      obtain ⟨u, hu⟩ : ∃ u, Z.getD k (.int .i64 0) = u := ⟨_, rfl⟩
      rw [hu] at hcell
      have hbs := Lib.hid (hbr.setCell (p := ⟨w.heap.size, k, none⟩) (Nat.le_refl _) (.int .u8 ((z + h) % 256)))
      clear hown hu hbr hb hst0 HOW HBR hc hg
      go_wp2
      go_roundw
      case rel => exact ⟨k + 1, by omega, by go_num, by rw [← hsp.out]; exact hst.out.1, hbs.out⟩
      case measure => simp [intOf]; omega
    · obtain rfl : k = n := by omega
      have HA := Lib.hid (show ((encL key bs).take k).map (Value.int .u8) ++ Z.drop k = (encL key bs).map (Value.int .u8) by rw [List.take_of_length_le (by rw [hle.out, hl.out]; exact Nat.le_refl _), List.drop_of_length_le (by rw [HZ.out]; exact Nat.le_refl _), List.append_nil])
      have HW := Lib.hid hown
      clear hown
      go_wp2
      go_ret
      exact ⟨_, _, rfl, by have h := HW.out; rw [HA.out] at h; exact h, hbr⟩
theorem own_toE {W w' : World} {o : Obj} {base n : Nat} {e : TypeId} {sz : Nat} {v : Value} {xs : List Value} (h : W.ownsRow base e sz v n xs) (hW : W.alloc o = w') : w'.ownsRow base e sz v n xs := hW ▸ own_belowE h (Below.alloc (Below.refl _ _) (Nat.le_refl _) _)
theorem own_drewE {w : World} {base n : Nat} {e : TypeId} {sz : Nat} {v : Value} {xs : List Value} (h : w.ownsRow base e sz v n xs) : w.drew.ownsRow base e sz v n xs := h
theorem rd_oneE {W w' : World} {u : Value} {t : TypeId} (hW : W.alloc (.cells #[u] t) = w') : Rd w' 1 (some ⟨W.heap.size, 0, none⟩) 1 1 [u] := hW ▸ Rd.one W u t
theorem size_toE {W w' : World} {o : Obj} (hW : W.alloc o = w') : W.heap.size < w'.heap.size := by rw [← hW]; simp
theorem own_loE {w : World} {base n c : Nat} {e : TypeId} {sz : Nat} {A : Option Addr} {xs : List Value} (h : w.ownsRow base e sz (.slice A n c) n xs) : ∀ q, blk A = some q → base ≤ q := fun q hq => (blk_of_own h q hq).1
theorem take_snocE {l : List Int} {k : Nat} (h : k < l.length) : (l.take (k + 1)).map (Value.int .u8) = (l.take k).map (Value.int .u8) ++ [.int .u8 (l.getD k 0)] := by
  rw [List.take_add_one, List.map_append, List.getD_eq_getElem?_getD, List.getElem?_eq_getElem h]; rfl
theorem enc_val {z h : Int} (z0 : 0 ≤ z) (z1 : z ≤ 255) (h0 : 0 ≤ h) (h1 : h < 2147483647) : IntKind.u8.wrap ((IntKind.i64.wrap (IntKind.i64.wrap z + h.tmod 256)).tmod 256) = (z + h) % 256 := by
  have e1 : h.tmod 256 = h % 256 := Int.tmod_eq_emod_of_nonneg h0
  have e2 : IntKind.i64.wrap z = z := IntWalk.i64_in _ ⟨by omega, by omega⟩
  have e3 : IntKind.i64.wrap (z + h % 256) = z + h % 256 := IntWalk.i64_in _ ⟨by omega, by omega⟩
  rw [e1, e2, e3, Int.tmod_eq_emod_of_nonneg (by omega)]
  have e4 : (z + h % 256) % 256 = (z + h) % 256 := by omega
  rw [e4]
  have e5 : 0 ≤ (z + h) % 256 ∧ (z + h) % 256 < 256 := by omega
  generalize (z + h) % 256 = v at *
  exact IntWalk.u8_in _ ⟨by omega, by omega⟩
set_option maxHeartbeats 4000000 in
theorem encrypt_spec (key : Int) (A : Option Addr) (n c : Nat) (bs : List Int) (w : World) (hk : -9223372036854775808 ≤ key ∧ key ≤ 9223372036854775807) (hr : Rd w 1 A n c (bs.map (Value.int .u8))) (hb : AllBytes bs) (hn : n ≤ 2097152) :
    Calls Tryd.prog 33 #[.int .i64 key, .slice A n c] w (RetOwn w 5 1 n ((encL key bs).map (Value.int .u8))) := by
  obtain ⟨iu, hiu, hu0, hu1, hu2⟩ := info_parts uInfoE
  have hl := Lib.hid (len_ints hr)
  have HR := Lib.hid hr
  have HB := Lib.hid hb
  have HK := Lib.hid hk
  have hle := Lib.hid (encL_len key bs)
  clear hr hb hk
  go_enter Tryd.func33, Tryd.ntmps33
  go_wp2
  go_loopw [5, 6] (fun v5 v6 wr => ∃ (k : Nat) (A3 : Option Addr) (c3 : Nat), k ≤ n ∧ v5 = .slice A3 k c3 ∧ v6 = .int .i64 (k : Int) ∧ wr.ownsRow w.heap.size 5 1 (.slice A3 k c3) k (((encL key bs).take k).map (Value.int .u8)) ∧ Below w.heap.size w wr) (fun _ v6 _ => n - (intOf v6).toNat)
  case atStart => exact ⟨0, _, _, Nat.zero_le _, rfl, rfl, own_empty w w.heap.size w.heap.size 5 1 rfl (Nat.le_refl _), by go_grown⟩
  case round =>
    obtain ⟨k, A3, c3, hk, rfl, rfl, hown, B⟩ := hrel
    by_cases hlt : k < n
    · obtain ⟨g, o, rfl, hg, hc0⟩ := HR.out.int_at hlt
      have hzb := HB.out.at_ (k := k) (by rw [hl.out]; omega)
      have hen := encL_at (key := key) (bs := bs) (k := k) (by rw [hl.out]; omega)
      have hhb := hashL_bd (keyed key [(k : Int)])
      have HP := hown
      have HKH := Lib.hid (fun w B h => keyedHash_spec key B 1 1 [(k : Int)] w h (by omega) HK.out (one_wf k (by omega)))
      have hsn := take_snocE (l := encL key bs) (k := k) (by rw [hle.out, hl.out]; exact hlt)
      rw [hen] at hsn
      generalize bs.getD k 0 = z at hc0 hzb hsn
      generalize hashL (keyed key [(k : Int)]) = h at hhb hsn HKH
      have HSN := Lib.hid hsn
      obtain ⟨z0, zb1⟩ := hzb
      obtain ⟨h0, h1⟩ := hhb
      have HEV := Lib.hid (enc_val z0 zb1 h0 h1)
      have HC := Lib.hid (fun (w' : World) (b : Below w.heap.size w w') => (b.cell (p := ⟨g, o + k, none⟩) hg).trans hc0)
      have zr := B.size
      clear hown hc0 hen hsn
      go_wp2_with fail
      refine wp_region_held_drew (S := (fun w' => w'.cell? ⟨g, o + k, none⟩ = some (.int .u8 z))) (by kernel_rfl) ?_ (fun hHeld => ?_)
      · (try dsimp only); exact HC.out _ (by go_grown)
      first | (refine wpAnyH_take (i := 0) (v := ?_) (Reg.get rfl) (by kernel_rfl) (by kernel_rfl) (by kernel_rfl) (fun _ _ _ h => h) (Or.inl ⟨by rfl, ?_⟩) hHeld ?_; rotate_left 1; (focus (intro wq hSw; (try dsimp only at hSw);  go_simp <;> with_reducible rfl))) | (refine wpAnyH_take (i := 0) (v := undef) (Reg.get rfl) (by kernel_rfl) (by kernel_rfl) (by kernel_rfl) (fun _ _ _ h => h) (Or.inr ⟨by rfl, rfl⟩) hHeld ?_)
      try simp only [Act.put, List.setIfInBounds_toArray, List.set_cons_zero, List.set_cons_succ]
      first | (refine wpAnyH_take (i := 1) (v := ?_) (Reg.get rfl) (by kernel_rfl) (by kernel_rfl) (by kernel_rfl) (fun _ _ _ h => h) (Or.inl ⟨by rfl, ?_⟩) hHeld ?_; rotate_left 1; (focus (intro wq hSw; (try dsimp only at hSw);  go_simp <;> with_reducible rfl))) | (refine wpAnyH_take (i := 1) (v := undef) (Reg.get rfl) (by kernel_rfl) (by kernel_rfl) (by kernel_rfl) (fun _ _ _ h => h) (Or.inr ⟨by rfl, rfl⟩) hHeld ?_)
      try simp only [Act.put, List.setIfInBounds_toArray, List.set_cons_zero, List.set_cons_succ]
      first | (refine wpAnyH_take (i := 2) (v := ?_) (Reg.get rfl) (by kernel_rfl) (by kernel_rfl) (by kernel_rfl) (fun _ _ _ h => h) (Or.inl ⟨by rfl, ?_⟩) hHeld ?_; rotate_left 1; (focus (intro wq hSw; (try dsimp only at hSw);  go_simp <;> with_reducible rfl))) | (refine wpAnyH_take (i := 2) (v := undef) (Reg.get rfl) (by kernel_rfl) (by kernel_rfl) (by kernel_rfl) (fun _ _ _ h => h) (Or.inr ⟨by rfl, rfl⟩) hHeld ?_)
      try simp only [Act.put, List.setIfInBounds_toArray, List.set_cons_zero, List.set_cons_succ]
      first | (refine wpAnyH_take (i := 3) (v := ?_) (Reg.get rfl) (by kernel_rfl) (by kernel_rfl) (by kernel_rfl) (fun _ _ _ h => h) (Or.inl ⟨by rfl, ?_⟩) hHeld ?_; rotate_left 1; (focus (intro wq hSw; (try dsimp only at hSw);  go_simp <;> with_reducible rfl))) | (refine wpAnyH_take (i := 3) (v := undef) (Reg.get rfl) (by kernel_rfl) (by kernel_rfl) (by kernel_rfl) (fun _ _ _ h => h) (Or.inr ⟨by rfl, rfl⟩) hHeld ?_)
      try simp only [Act.put, List.setIfInBounds_toArray, List.set_cons_zero, List.set_cons_succ]
      first | (refine wpAnyH_take (i := 4) (v := ?_) (Reg.get rfl) (by kernel_rfl) (by kernel_rfl) (by kernel_rfl) (fun _ _ _ h => h) (Or.inl ⟨by rfl, ?_⟩) hHeld ?_; rotate_left 1; (focus (intro wq hSw; (try dsimp only at hSw);  go_simp <;> with_reducible rfl))) | (refine wpAnyH_take (i := 4) (v := undef) (Reg.get rfl) (by kernel_rfl) (by kernel_rfl) (by kernel_rfl) (fun _ _ _ h => h) (Or.inr ⟨by rfl, rfl⟩) hHeld ?_)
      try simp only [Act.put, List.setIfInBounds_toArray, List.set_cons_zero, List.set_cons_succ]
      first | (refine wpAnyH_take (i := 5) (v := ?_) (Reg.get rfl) (by kernel_rfl) (by kernel_rfl) (by kernel_rfl) (fun _ _ _ h => h) (Or.inl ⟨by rfl, ?_⟩) hHeld ?_; rotate_left 1; (focus (intro wq hSw; (try dsimp only at hSw);  go_simp <;> with_reducible rfl))) | (refine wpAnyH_take (i := 5) (v := undef) (Reg.get rfl) (by kernel_rfl) (by kernel_rfl) (by kernel_rfl) (fun _ _ _ h => h) (Or.inr ⟨by rfl, rfl⟩) hHeld ?_)
      try simp only [Act.put, List.setIfInBounds_toArray, List.set_cons_zero, List.set_cons_succ]
      first | (refine wpAnyH_take (i := 6) (v := ?_) (Reg.get rfl) (by kernel_rfl) (by kernel_rfl) (by kernel_rfl) (fun _ _ _ h => h) (Or.inl ⟨by rfl, ?_⟩) hHeld ?_; rotate_left 1; (focus (intro wq hSw; (try dsimp only at hSw);  go_simp <;> with_reducible rfl))) | (refine wpAnyH_take (i := 6) (v := undef) (Reg.get rfl) (by kernel_rfl) (by kernel_rfl) (by kernel_rfl) (fun _ _ _ h => h) (Or.inr ⟨by rfl, rfl⟩) hHeld ?_)
      try simp only [Act.put, List.setIfInBounds_toArray, List.set_cons_zero, List.set_cons_succ]
      first | (refine wpAnyH_take (i := 7) (v := ?_) (Reg.get rfl) (by kernel_rfl) (by kernel_rfl) (by kernel_rfl) (fun _ _ _ h => h) (Or.inl ⟨by rfl, ?_⟩) hHeld ?_; rotate_left 1; (focus (intro wq hSw; (try dsimp only at hSw);  go_simp <;> with_reducible rfl))) | (refine wpAnyH_take (i := 7) (v := undef) (Reg.get rfl) (by kernel_rfl) (by kernel_rfl) (by kernel_rfl) (fun _ _ _ h => h) (Or.inr ⟨by rfl, rfl⟩) hHeld ?_)
      try simp only [Act.put, List.setIfInBounds_toArray, List.set_cons_zero, List.set_cons_succ]
      first | ((refine wpAnyH_take (i := 8) (v := undef) (Reg.get rfl) (by kernel_rfl) (by kernel_rfl) (by kernel_rfl) (fun _ _ _ h => h) (Or.inr ⟨by rfl, rfl⟩) hHeld ?_)) | (refine wpAnyH_ready (rs := [8]) (by kernel_rfl) (by simp) ?_; refine AllReadyH.cons (Reg.get rfl) (fun K hK => ?_) AllReadyH.nil; clear hHeld; go_simp; ((generalize hW : World.alloc _ _ = w1; replace B : Below w.heap.size w w1 := (by rw [← hW]; go_grown); (first | replace HP := own_toE HP hW | replace HP := own_toE (own_drewE HP) hW); have re := rd_oneE hW; have z1 := size_toE hW; (try simp only [World.size_drew] at z1); clear hW)); refine hK.out _ _ ?_ (fun hHeld => ?_); ((try dsimp only); exact HC.out _ (by go_grown)); clear hK K)
      try simp only [Act.put, List.setIfInBounds_toArray, List.set_cons_zero, List.set_cons_succ]
      first | ((refine wpAnyH_take (i := 9) (v := undef) (Reg.get rfl) (by kernel_rfl) (by kernel_rfl) (by kernel_rfl) (fun _ _ _ h => h) (Or.inr ⟨by rfl, rfl⟩) hHeld ?_)) | (refine wpAnyH_ready (rs := [9]) (by kernel_rfl) (by simp) ?_; refine AllReadyH.cons (Reg.get rfl) (fun K hK => ?_) AllReadyH.nil; clear hHeld; go_simp; ((go_at_call 57; refine (HKH.out _ _ (by first | exact re | exact re.drew)).mono ?_; rintro x w2 ⟨rfl, hb0⟩; (first | replace HP := own_belowE HP hb0 | replace HP := own_belowE (own_drewE HP) hb0); replace B : Below w.heap.size w w2 := (by first | exact stepB B hb0 B.size | exact stepB B.drew hb0 B.size); have z2 := hb0.size; (try simp only [World.size_drew] at z2); clear hb0 re)); refine hK.out _ _ ?_ (fun hHeld => ?_); ((try dsimp only); exact HC.out _ (by go_grown)); clear hK K)
      try simp only [Act.put, List.setIfInBounds_toArray, List.set_cons_zero, List.set_cons_succ]
      first | (refine wpAnyH_take (i := 10) (v := ?_) (Reg.get rfl) (by kernel_rfl) (by kernel_rfl) (by kernel_rfl) (fun _ _ _ h => h) (Or.inl ⟨by rfl, ?_⟩) hHeld ?_; rotate_left 1; (focus (intro wq hSw; (try dsimp only at hSw);  go_simp <;> with_reducible rfl))) | (refine wpAnyH_take (i := 10) (v := undef) (Reg.get rfl) (by kernel_rfl) (by kernel_rfl) (by kernel_rfl) (fun _ _ _ h => h) (Or.inr ⟨by rfl, rfl⟩) hHeld ?_)
      try simp only [Act.put, List.setIfInBounds_toArray, List.set_cons_zero, List.set_cons_succ]
      first | (refine wpAnyH_take (i := 11) (v := ?_) (Reg.get rfl) (by kernel_rfl) (by kernel_rfl) (by kernel_rfl) (fun _ _ _ h => h) (Or.inl ⟨by rfl, ?_⟩) hHeld ?_; rotate_left 1; (focus (intro wq hSw; (try dsimp only at hSw);  go_simp <;> with_reducible rfl))) | (refine wpAnyH_take (i := 11) (v := undef) (Reg.get rfl) (by kernel_rfl) (by kernel_rfl) (by kernel_rfl) (fun _ _ _ h => h) (Or.inr ⟨by rfl, rfl⟩) hHeld ?_)
      try simp only [Act.put, List.setIfInBounds_toArray, List.set_cons_zero, List.set_cons_succ]
      first | (refine wpAnyH_take (i := 12) (v := ?_) (Reg.get rfl) (by kernel_rfl) (by kernel_rfl) (by kernel_rfl) (fun _ _ _ h => h) (Or.inl ⟨by rfl, ?_⟩) hHeld ?_; rotate_left 1; (focus (intro wq hSw; (try dsimp only at hSw);  go_simp <;> with_reducible rfl))) | (refine wpAnyH_take (i := 12) (v := undef) (Reg.get rfl) (by kernel_rfl) (by kernel_rfl) (by kernel_rfl) (fun _ _ _ h => h) (Or.inr ⟨by rfl, rfl⟩) hHeld ?_)
      try simp only [Act.put, List.setIfInBounds_toArray, List.set_cons_zero, List.set_cons_succ]
      first | (refine wpAnyH_take (i := 13) (v := ?_) (Reg.get rfl) (by kernel_rfl) (by kernel_rfl) (by kernel_rfl) (fun _ _ _ h => h) (Or.inl ⟨by rfl, ?_⟩) hHeld ?_; rotate_left 1; (focus (intro wq hSw; (try dsimp only at hSw);  go_simp <;> with_reducible rfl))) | (refine wpAnyH_take (i := 13) (v := undef) (Reg.get rfl) (by kernel_rfl) (by kernel_rfl) (by kernel_rfl) (fun _ _ _ h => h) (Or.inr ⟨by rfl, rfl⟩) hHeld ?_)
      try simp only [Act.put, List.setIfInBounds_toArray, List.set_cons_zero, List.set_cons_succ]
      first | ((refine wpAnyH_take (i := 14) (v := undef) (Reg.get rfl) (by kernel_rfl) (by kernel_rfl) (by kernel_rfl) (fun _ _ _ h => h) (Or.inr ⟨by rfl, rfl⟩) hHeld ?_)) | (refine wpAnyH_ready (rs := [14]) (by kernel_rfl) (by simp) ?_; refine AllReadyH.cons (Reg.get rfl) (fun K hK => ?_) AllReadyH.nil; clear hHeld; go_simp; ((generalize hW : World.alloc _ _ = w3; replace B : Below w.heap.size w w3 := (by rw [← hW]; go_grown); (first | replace HP := own_toE HP hW | replace HP := own_toE (own_drewE HP) hW); have re := rd_oneE hW; have z3 := size_toE hW; (try simp only [World.size_drew] at z3); clear hW)); refine hK.out _ _ ?_ (fun hHeld => ?_); ((try dsimp only); exact HC.out _ (by go_grown)); clear hK K)
      try simp only [Act.put, List.setIfInBounds_toArray, List.set_cons_zero, List.set_cons_succ]
      first | ((refine wpAnyH_take (i := 15) (v := undef) (Reg.get rfl) (by kernel_rfl) (by kernel_rfl) (by kernel_rfl) (fun _ _ _ h => h) (Or.inr ⟨by rfl, rfl⟩) hHeld ?_)) | (refine wpAnyH_ready (rs := [15]) (by kernel_rfl) (by simp) ?_; refine AllReadyH.cons (Reg.get rfl) (fun K hK => ?_) AllReadyH.nil; clear hHeld; ((refine App.wp_app _ _ _ 25 rfl w.heap.size 5 iu (.int .u8 0) 1 1 Tryd.underlying25 hiu hu0 hu1 hu2 rfl (by decide) _ _ _ _ rfl (by first | exact HP | exact own_drewE HP) _ 1 1 _ rfl (by first | exact re | exact re.drew) (fun u hu => by simp at hu; subst hu; rfl) (by unfold maxLen; omega) (by omega) (by first | omega | (simp; done) | (simp; omega)) ?_; intro A4 c4 w4 own4 hg0 _; have hP := own_loE HP; replace B : Below w.heap.size w w4 := Mem.below_app (by go_grown) hg0 (by first | omega | (simp; done) | (simp; omega)) (by intro q h; have := hP _ h; omega); clear hg0 hP re)); refine hK.out _ _ ?_ (fun hHeld => ?_); ((try dsimp only); exact HC.out _ (by go_grown)); clear hK K)
      try simp only [Act.put, List.setIfInBounds_toArray, List.set_cons_zero, List.set_cons_succ]
      first | (refine wpAnyH_take (i := 16) (v := ?_) (Reg.get rfl) (by kernel_rfl) (by kernel_rfl) (by kernel_rfl) (fun _ _ _ h => h) (Or.inl ⟨by rfl, ?_⟩) hHeld ?_; rotate_left 1; (focus (intro wq hSw; (try dsimp only at hSw);  go_simp <;> with_reducible rfl))) | (refine wpAnyH_take (i := 16) (v := undef) (Reg.get rfl) (by kernel_rfl) (by kernel_rfl) (by kernel_rfl) (fun _ _ _ h => h) (Or.inr ⟨by rfl, rfl⟩) hHeld ?_)
      try simp only [Act.put, List.setIfInBounds_toArray, List.set_cons_zero, List.set_cons_succ]
      refine wpAnyH_done (by kernel_rfl) ?_ _
      go_wp2
      go_roundw
      case rel => exact ⟨k + 1, A4, c4, by omega, rfl, by go_num, by rw [HSN.out, ← HEV.out]; simpa using own4, by first | exact B | exact B.drew⟩
      case measure => simp [intOf]; omega
    · obtain rfl : k = n := by omega
      have HA := Lib.hid (show ((encL key bs).take k) = encL key bs from List.take_of_length_le (by rw [hle.out, hl.out]; exact Nat.le_refl _))
      have HW := Lib.hid hown
      clear hown
      go_wp2
      go_ret
      exact ⟨_, _, rfl, by have h := HW.out; rw [HA.out] at h; exact h, B⟩
end Go.Proofs.YtgbmbnofnhhblaaDoor.Seal
