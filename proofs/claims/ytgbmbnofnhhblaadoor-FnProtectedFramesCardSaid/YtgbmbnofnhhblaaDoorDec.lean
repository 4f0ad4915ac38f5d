/- Decryption of bytes, both sides. -/
import Derived.Test.YtgbmbnofnhhblaaDoorEnc
namespace Go.Proofs.YtgbmbnofnhhblaaDoor.Seal
open Go.RowKit
open Go.Proofs.YtgbmbnofnhhblaaDoor.Num Go.Proofs.YtgbmbnofnhhblaaDoor.Mem Go.Proofs.YtgbmbnofnhhblaaDoor.Hsh Go.Proofs.YtgbmbnofnhhblaaDoor.Itoa Go.Proofs.YtgbmbnofnhhblaaDoor.Pass Go.Proofs.YtgbmbnofnhhblaaDoor.Sls Go.Proofs.YtgbmbnofnhhblaaDoor.Own
set_option linter.unusedSimpArgs false
set_option linter.unusedVariables false
/-- a byte less a keyed hash, as a byte -/
def decV (z h : Int) : Int := modI (z - h) 256
theorem decV_eq (z h : Int) : decV z h = (z - h) % 256 := by unfold decV modI; rw [if_pos (by omega)]
theorem decV_bd (z h : Int) : 0 ≤ decV z h ∧ decV z h < 256 := by rw [decV_eq]; omega
/-- the bytes, each moved back by a keyed hash of its index -/
def decL (key : Int) (bs : List Int) : List Int := (List.range bs.length).map fun i => decV (bs.getD i 0) (hashL (keyed key [((i : Nat) : Int)]))
theorem decL_len (key : Int) (bs : List Int) : (decL key bs).length = bs.length := by simp [decL]
theorem decL_at {key : Int} {bs : List Int} {k : Nat} (h : k < bs.length) : (decL key bs).getD k 0 = decV (bs.getD k 0) (hashL (keyed key [(k : Int)])) := by
  rw [List.getD_eq_getElem?_getD, List.getElem?_eq_getElem (by rw [decL_len]; exact h)]; simp [decL]
theorem decL_bytes (key : Int) (bs : List Int) : AllBytes (decL key bs) := by
  intro z hz
  simp only [decL, List.mem_map] at hz
  obtain ⟨i, _, rfl⟩ := hz
  have := decV_bd (bs.getD i 0) (hashL (keyed key [((i : Nat) : Int)]))
  omega
theorem dec_enc (key : Int) (bs : List Int) (hb : AllBytes bs) : decL key (encL key bs) = bs := by
  apply List.ext_getElem
  · rw [decL_len, encL_len]
  · intro k h1 h2
    have e1 := decL_at (key := key) (bs := encL key bs) (k := k) (by rw [encL_len]; exact h2)
    rw [encL_at h2, decV_eq] at e1
    have hz := hb.at_ (k := k) h2
    have e2 : (decL key (encL key bs))[k] = (decL key (encL key bs)).getD k 0 := by rw [List.getD_eq_getElem?_getD, List.getElem?_eq_getElem h1]; rfl
    have e3 : bs[k] = bs.getD k 0 := by rw [List.getD_eq_getElem?_getD, List.getElem?_eq_getElem h2]; rfl
    rw [e2, e3, e1]
    omega
theorem dmod_impl (z h : Int) (z0 : 0 ≤ z) (z1 : z ≤ 255) (h0 : 0 ≤ h) (h1 : h < 2147483647) (w : World) : Calls Tryd.prog 69 #[.int .i64 (z - h), .int .i64 256] w fun e w' => e = .returned (.int .i64 (decV z h)) ∧ w = w' :=
  mod_impl (z - h) 256 w (by omega) (by omega)
theorem dmod_spec (z h : Int) (z0 : 0 ≤ z) (z1 : z ≤ 255) (h0 : 0 ≤ h) (h1 : h < 2147483647) (w : World) : Calls Tryd.prog 78 #[.int .i64 (IntKind.i64.wrap (IntKind.i64.wrap z - h.tmod 256)), .int .i64 256] w fun e w' => e = .returned (.int .i64 (decV z h)) ∧ w = w' := by
  have e1 : h.tmod 256 = h % 256 := Int.tmod_eq_emod_of_nonneg h0
  have e2 : IntKind.i64.wrap z = z := IntWalk.i64_in _ ⟨by omega, by omega⟩
  have e3 : IntKind.i64.wrap (z - h % 256) = z - h % 256 := IntWalk.i64_in _ ⟨by omega, by omega⟩
  rw [e1, e2, e3]
  have e4 : decV z h = modI (z - h % 256) 256 := by rw [decV_eq]; unfold modI; rw [if_pos (by omega)]; omega
  rw [e4]
  exact mod_spec _ _ w (by omega) (by omega)
theorem wrap8 {d : Int} (h0 : 0 ≤ d) (h1 : d < 256) : IntKind.u8.wrap d = d := IntWalk.u8_in _ ⟨by omega, by omega⟩
set_option maxHeartbeats 2000000 in
theorem decrypt_impl (key : Int) (A : Option Addr) (n c : Nat) (bs : List Int) (w : World) (hk : -9223372036854775808 ≤ key ∧ key ≤ 9223372036854775807) (hr : Rd w 1 A n c (bs.map (Value.int .u8))) (hb : AllBytes bs) (hn : n ≤ 2097152) :
    Calls Tryd.prog 56 #[.int .i64 key, .slice A n c] w (RetOwn w 5 1 n ((decL key bs).map (Value.int .u8))) := by
  obtain ⟨i0, hi, hz0, hz1, hz2⟩ := info_parts uInfoE
  have hl := Lib.hid (len_ints hr)
  have HR := Lib.hid hr
  have HB := Lib.hid hb
  have HK := Lib.hid hk
  have hle := Lib.hid (decL_len key bs)
  clear hr hb hk
  go_enter Tryd.func56, Tryd.ntmps56
  go_wp2_with (at_make; refine wpList_make_full _ rfl _ _ 25 rfl w.heap.size 5 i0 (.int .u8 0) 1 Tryd.underlying25 hi hz0 hz1 _ _ _ _ n rfl rfl rfl rfl ?b2 ?b3 (Nat.le_refl _) ?_)
  case b2 => rw [hz2]; omega
  case b3 => unfold maxLen; omega
  intro w0 hown0 hgrow0
  have hb0 : Below w.heap.size w w0 := (Below.refl _ _).grown hgrow0 (Nat.le_refl _) (fun k h => by cases h)
  clear hgrow0
  have hz' : ((madeCells #[Value.int IntKind.u8 0] n).toList).length = n := by simp [size_madeCells]
  generalize (madeCells #[Value.int IntKind.u8 0] n).toList = Z at hown0 hz'
  have HZ := Lib.hid hz'
  have HO := Lib.hid hown0
  clear hz' hown0
  go_wp2
  go_loopw [13] (fun v13 wr => ∃ k : Nat, k ≤ n ∧ v13 = .int .i64 (k : Int) ∧ wr.ownsRow w.heap.size 5 1 (.slice (some ⟨w.heap.size, 0, none⟩) n n) n (((decL key bs).take k).map (Value.int .u8) ++ Z.drop k) ∧ Below w.heap.size w wr) (fun v13 _ => n - (intOf v13).toNat)
  case atStart => exact ⟨0, Nat.zero_le _, rfl, HO.out, hb0⟩
  case round =>
    obtain ⟨k, hk, rfl, hown, hbr⟩ := hrel
    by_cases hlt : k < n
    · obtain ⟨g, o, rfl, hg, hc0⟩ := HR.out.int_at hlt
      have hc := (hbr.cell (p := ⟨g, o + k, none⟩) hg).trans hc0
      have hzb := HB.out.at_ (k := k) (by rw [hl.out]; omega)
      have hen := decL_at (key := key) (bs := bs) (k := k) (by rw [hl.out]; omega)
      have hhb := hashL_bd (keyed key [(k : Int)])
      have HOW := Lib.hid hown
      have HBR := Lib.hid hbr
      have HKH := Lib.hid (fun w h => keyedHash_impl key (some ⟨wr.heap.size, 0, none⟩) 1 1 [(k : Int)] w h (by omega) HK.out (one_wf k (by omega)))
      have HMD := Lib.hid (fun z h a b c d w => dmod_impl z h a b c d w)
      have hdv := decV_bd (bs.getD k 0) (hashL (keyed key [(k : Int)]))
      have hsp := Lib.hid (row_step (k := k) (zs := decL key bs) (Z := Z) (f := Value.int .u8) (by rw [hle.out, hl.out]; exact hlt) (by rw [HZ.out]; exact hlt))
      rw [hen] at hsp
      have HMD2 := Lib.hid (fun w => HMD.out (bs.getD k 0) (hashL (keyed key [(k : Int)])) (by omega) (by omega) (by omega) (by omega) w)
      clear HMD
      generalize decV (bs.getD k 0) (hashL (keyed key [(k : Int)])) = d at hdv hsp HMD2
      generalize bs.getD k 0 = z at hc hzb HMD2
      generalize hashL (keyed key [(k : Int)]) = h at hhb HKH HMD2
      obtain ⟨z0, z1⟩ := hzb
      obtain ⟨h0, h1⟩ := hhb
      obtain ⟨d0, d1⟩ := hdv
      clear hown hbr hb0 hc0 hen
      go_wp2_with fail
      refine (HKH.out _ (by exact Rd.one _ _ _)).mono ?_
      rintro x w1 ⟨rfl, hb⟩
      have hst0 : Below wr.heap.size wr w1 := Below.trans ((Below.refl _ _).alloc (Nat.le_refl _) _) (hb.mono (by simp))
      have hown := own_belowE HOW.out hst0
      have hbr := stepB HBR.out hst0 HBR.out.size
      have hcell := hown.cellAt k (by omega)
      have hfr := hown.frozenAt k
      have hst := Lib.hid (hown.stored k (.int .u8 (d)))
      rw [row_at (by rw [hle.out, hl.out]; exact hlt) (by rw [HZ.out]; exact hlt)] at hcell
      obtain ⟨u, hu⟩ : ∃ u, Z.getD k (.int .i64 0) = u := ⟨_, rfl⟩
      rw [hu] at hcell
      have hbs := Lib.hid (hbr.setCell (p := ⟨w.heap.size, k, none⟩) (Nat.le_refl _) (.int .u8 (d)))
      clear hown hu hbr hb hst0 HOW HBR hc hg
      go_wp2_with fail
      refine (HMD2.out _).mono ?_
      rintro x w2 ⟨rfl, rfl⟩
      go_wp2
      go_roundw
      case rel => exact ⟨k + 1, by omega, by go_num, by rw [← hsp.out]; exact hst.out.1, hbs.out⟩
      case measure => simp [intOf]; omega
    · obtain rfl : k = n := by omega
      have HA := Lib.hid (show ((decL key bs).take k).map (Value.int .u8) ++ Z.drop k = (decL key bs).map (Value.int .u8) by rw [List.take_of_length_le (by rw [hle.out, hl.out]; exact Nat.le_refl _), List.drop_of_length_le (by rw [HZ.out]; exact Nat.le_refl _), List.append_nil])
      have HW := Lib.hid hown
      clear hown
      go_wp2
      go_ret
      exact ⟨_, _, rfl, by have h := HW.out; rw [HA.out] at h; exact h, hbr⟩
set_option maxHeartbeats 4000000 in
theorem decrypt_spec (key : Int) (A : Option Addr) (n c : Nat) (bs : List Int) (w : World) (hk : -9223372036854775808 ≤ key ∧ key ≤ 9223372036854775807) (hr : Rd w 1 A n c (bs.map (Value.int .u8))) (hb : AllBytes bs) (hn : n ≤ 2097152) :
    Calls Tryd.prog 81 #[.int .i64 key, .slice A n c] w (RetOwn w 5 1 n ((decL key bs).map (Value.int .u8))) := by
  obtain ⟨iu, hiu, hu0, hu1, hu2⟩ := info_parts uInfoE
  have hl := Lib.hid (len_ints hr)
  have HR := Lib.hid hr
  have HB := Lib.hid hb
  have HK := Lib.hid hk
  have hle := Lib.hid (decL_len key bs)
  clear hr hb hk
  go_enter Tryd.func81, Tryd.ntmps81
  go_wp2
  go_loopw [5, 6] (fun v5 v6 wr => ∃ (k : Nat) (A3 : Option Addr) (c3 : Nat), k ≤ n ∧ v5 = .slice A3 k c3 ∧ v6 = .int .i64 (k : Int) ∧ wr.ownsRow w.heap.size 5 1 (.slice A3 k c3) k (((decL key bs).take k).map (Value.int .u8)) ∧ Below w.heap.size w wr) (fun _ v6 _ => n - (intOf v6).toNat)
  case atStart => exact ⟨0, _, _, Nat.zero_le _, rfl, rfl, own_empty w w.heap.size w.heap.size 5 1 rfl (Nat.le_refl _), by go_grown⟩
  case round =>
    obtain ⟨k, A3, c3, hk, rfl, rfl, hown, B⟩ := hrel
    by_cases hlt : k < n
    · obtain ⟨g, o, rfl, hg, hc0⟩ := HR.out.int_at hlt
      have hzb := HB.out.at_ (k := k) (by rw [hl.out]; omega)
      have hen := decL_at (key := key) (bs := bs) (k := k) (by rw [hl.out]; omega)
      have hhb := hashL_bd (keyed key [(k : Int)])
      have HP := hown
      have hdv := decV_bd (bs.getD k 0) (hashL (keyed key [(k : Int)]))
      have HMD := Lib.hid (fun w => dmod_spec (bs.getD k 0) (hashL (keyed key [(k : Int)])) (by omega) (by omega) (by omega) (by omega) w)
      have HKH := Lib.hid (fun w B h => keyedHash_spec key B 1 1 [(k : Int)] w h (by omega) HK.out (one_wf k (by omega)))
      have hsn := take_snocE (l := decL key bs) (k := k) (by rw [hle.out, hl.out]; exact hlt)
      rw [hen] at hsn
      generalize decV (bs.getD k 0) (hashL (keyed key [(k : Int)])) = d at hdv hsn HMD
      generalize bs.getD k 0 = z at hc0 hzb HMD
      generalize hashL (keyed key [(k : Int)]) = h at hhb HKH HMD
      have HSN := Lib.hid hsn
      obtain ⟨z0, zb1⟩ := hzb
      obtain ⟨h0, h1⟩ := hhb
      obtain ⟨d0, d1⟩ := hdv
      have HEV := Lib.hid (wrap8 d0 d1)
      have HC := Lib.hid (fun (w' : World) (b : Below w.heap.size w w') => (b.cell (p := ⟨g, o + k, none⟩) hg).trans hc0)
      have zr := B.size
      clear hown hc0 hen hsn
      go_wp2_with fail
      refine wp_region_held_drew (S := (fun w' => w'.cell? ⟨g, o + k, none⟩ = some (.int .u8 z))) (by kernel_rfl) ?_ (fun hHeld => ?_)
      · (try dsimp only); exact HC.out _ (by go_grown)
      first | (refine wpAnyH_take (i := 0) (v := ?_) (Reg.get rfl) (by kernel_rfl) (by kernel_rfl) (by kernel_rfl) (fun _ _ _ h => h) (Or.inl ⟨by rfl, ?_⟩) hHeld ?_; rotate_left 1; (focus (intro wq hSw; (try dsimp only at hSw);  go_simp <;> with_reducible rfl))) | (refine wpAnyH_take (i := 0) (v := undef) (Reg.get rfl) (by kernel_rfl) (by kernel_rfl) (by kernel_rfl) (fun _ _ _ h => h) (Or.inr ⟨by rfl, rfl⟩) hHeld ?_)
      try simp only [Act.put, List.setIfInBounds_toArray, List.set_cons_zero, List.set_cons_succ]
      first | (refine wpAnyH_take (i := 1) (v := ?_) (Reg.get rfl) (by kernel_rfl) (by kernel_rfl) (by kernel_rfl) (fun _ _ _ h => h) (Or.inl ⟨by rfl, ?_⟩) hHeld ?_; rotate_left 1; (focus (intro wq hSw; (try dsimp only at hSw);  go_simp <;> with_reducible rfl))) | (refine wpAnyH_take (i := 1) (v := undef) (Reg.get rfl) (by kernel_rfl) (by kernel_rfl) (by kernel_rfl) (fun _ _ _ h => h) (Or.inr ⟨by rfl, rfl⟩) hHeld ?_)
      try simp only [Act.put, List.setIfInBounds_toArray, List.set_cons_zero, List.set_cons_succ]
      first | (refine wpAnyH_take (i := 2) (v := ?_) (Reg.get rfl) (by kernel_rfl) (by kernel_rfl) (by kernel_rfl) (fun _ _ _ h => h) (Or.inl ⟨by rfl, ?_⟩) hHeld ?_; rotate_left 1; (focus (intro wq hSw; (try dsimp only at hSw);  go_simp <;> with_reducible rfl))) | (refine wpAnyH_take (i := 2) (v := undef) (Reg.get rfl) (by kernel_rfl) (by kernel_rfl) (by kernel_rfl) (fun _ _ _ h => h) (Or.inr ⟨by rfl, rfl⟩) hHeld ?_)
      try simp only [Act.put, List.setIfInBounds_toArray, List.set_cons_zero, List.set_cons_succ]
      first | (refine wpAnyH_take (i := 3) (v := ?_) (Reg.get rfl) (by kernel_rfl) (by kernel_rfl) (by kernel_rfl) (fun _ _ _ h => h) (Or.inl ⟨by rfl, ?_⟩) hHeld ?_; rotate_left 1; (focus (intro wq hSw; (try dsimp only at hSw);  go_simp <;> with_reducible rfl))) | (refine wpAnyH_take (i := 3) (v := undef) (Reg.get rfl) (by kernel_rfl) (by kernel_rfl) (by kernel_rfl) (fun _ _ _ h => h) (Or.inr ⟨by rfl, rfl⟩) hHeld ?_)
      try simp only [Act.put, List.setIfInBounds_toArray, List.set_cons_zero, List.set_cons_succ]
      first | (refine wpAnyH_take (i := 4) (v := ?_) (Reg.get rfl) (by kernel_rfl) (by kernel_rfl) (by kernel_rfl) (fun _ _ _ h => h) (Or.inl ⟨by rfl, ?_⟩) hHeld ?_; rotate_left 1; (focus (intro wq hSw; (try dsimp only at hSw);  go_simp <;> with_reducible rfl))) | (refine wpAnyH_take (i := 4) (v := undef) (Reg.get rfl) (by kernel_rfl) (by kernel_rfl) (by kernel_rfl) (fun _ _ _ h => h) (Or.inr ⟨by rfl, rfl⟩) hHeld ?_)
      try simp only [Act.put, List.setIfInBounds_toArray, List.set_cons_zero, List.set_cons_succ]
      first | (refine wpAnyH_take (i := 5) (v := ?_) (Reg.get rfl) (by kernel_rfl) (by kernel_rfl) (by kernel_rfl) (fun _ _ _ h => h) (Or.inl ⟨by rfl, ?_⟩) hHeld ?_; rotate_left 1; (focus (intro wq hSw; (try dsimp only at hSw);  go_simp <;> with_reducible rfl))) | (refine wpAnyH_take (i := 5) (v := undef) (Reg.get rfl) (by kernel_rfl) (by kernel_rfl) (by kernel_rfl) (fun _ _ _ h => h) (Or.inr ⟨by rfl, rfl⟩) hHeld ?_)
      try simp only [Act.put, List.setIfInBounds_toArray, List.set_cons_zero, List.set_cons_succ]
      first | (refine wpAnyH_take (i := 6) (v := ?_) (Reg.get rfl) (by kernel_rfl) (by kernel_rfl) (by kernel_rfl) (fun _ _ _ h => h) (Or.inl ⟨by rfl, ?_⟩) hHeld ?_; rotate_left 1; (focus (intro wq hSw; (try dsimp only at hSw);  go_simp <;> with_reducible rfl))) | (refine wpAnyH_take (i := 6) (v := undef) (Reg.get rfl) (by kernel_rfl) (by kernel_rfl) (by kernel_rfl) (fun _ _ _ h => h) (Or.inr ⟨by rfl, rfl⟩) hHeld ?_)
      try simp only [Act.put, List.setIfInBounds_toArray, List.set_cons_zero, List.set_cons_succ]
      first | (refine wpAnyH_take (i := 7) (v := ?_) (Reg.get rfl) (by kernel_rfl) (by kernel_rfl) (by kernel_rfl) (fun _ _ _ h => h) (Or.inl ⟨by rfl, ?_⟩) hHeld ?_; rotate_left 1; (focus (intro wq hSw; (try dsimp only at hSw);  go_simp <;> with_reducible rfl))) | (refine wpAnyH_take (i := 7) (v := undef) (Reg.get rfl) (by kernel_rfl) (by kernel_rfl) (by kernel_rfl) (fun _ _ _ h => h) (Or.inr ⟨by rfl, rfl⟩) hHeld ?_)
      try simp only [Act.put, List.setIfInBounds_toArray, List.set_cons_zero, List.set_cons_succ]
      first | ((refine wpAnyH_take (i := 8) (v := undef) (Reg.get rfl) (by kernel_rfl) (by kernel_rfl) (by kernel_rfl) (fun _ _ _ h => h) (Or.inr ⟨by rfl, rfl⟩) hHeld ?_)) | (refine wpAnyH_ready (rs := [8]) (by kernel_rfl) (by simp) ?_; refine AllReadyH.cons (Reg.get rfl) (fun K hK => ?_) AllReadyH.nil; clear hHeld; go_simp; ((generalize hW : World.alloc _ _ = w1; replace B : Below w.heap.size w w1 := (by rw [← hW]; go_grown); (first | replace HP := own_toE HP hW | replace HP := own_toE (own_drewE HP) hW); have re := rd_oneE hW; have z1 := size_toE hW; (try simp only [World.size_drew] at z1); clear hW)); refine hK.out _ _ ?_ (fun hHeld => ?_); ((try dsimp only); exact HC.out _ (by go_grown)); clear hK K)
      try simp only [Act.put, List.setIfInBounds_toArray, List.set_cons_zero, List.set_cons_succ]
      first | ((refine wpAnyH_take (i := 9) (v := undef) (Reg.get rfl) (by kernel_rfl) (by kernel_rfl) (by kernel_rfl) (fun _ _ _ h => h) (Or.inr ⟨by rfl, rfl⟩) hHeld ?_)) | (refine wpAnyH_ready (rs := [9]) (by kernel_rfl) (by simp) ?_; refine AllReadyH.cons (Reg.get rfl) (fun K hK => ?_) AllReadyH.nil; clear hHeld; go_simp; ((go_at_call 57; refine (HKH.out _ _ (by first | exact re | exact re.drew)).mono ?_; rintro x w2 ⟨rfl, hb0⟩; (first | replace HP := own_belowE HP hb0 | replace HP := own_belowE (own_drewE HP) hb0); replace B : Below w.heap.size w w2 := (by first | exact stepB B hb0 B.size | exact stepB B.drew hb0 B.size); have z2 := hb0.size; (try simp only [World.size_drew] at z2); clear hb0 re)); refine hK.out _ _ ?_ (fun hHeld => ?_); ((try dsimp only); exact HC.out _ (by go_grown)); clear hK K)
      try simp only [Act.put, List.setIfInBounds_toArray, List.set_cons_zero, List.set_cons_succ]
      first | (refine wpAnyH_take (i := 10) (v := ?_) (Reg.get rfl) (by kernel_rfl) (by kernel_rfl) (by kernel_rfl) (fun _ _ _ h => h) (Or.inl ⟨by rfl, ?_⟩) hHeld ?_; rotate_left 1; (focus (intro wq hSw; (try dsimp only at hSw);  go_simp <;> with_reducible rfl))) | (refine wpAnyH_take (i := 10) (v := undef) (Reg.get rfl) (by kernel_rfl) (by kernel_rfl) (by kernel_rfl) (fun _ _ _ h => h) (Or.inr ⟨by rfl, rfl⟩) hHeld ?_)
      try simp only [Act.put, List.setIfInBounds_toArray, List.set_cons_zero, List.set_cons_succ]
      first | (refine wpAnyH_take (i := 11) (v := ?_) (Reg.get rfl) (by kernel_rfl) (by kernel_rfl) (by kernel_rfl) (fun _ _ _ h => h) (Or.inl ⟨by rfl, ?_⟩) hHeld ?_; rotate_left 1; (focus (intro wq hSw; (try dsimp only at hSw);  go_simp <;> with_reducible rfl))) | (refine wpAnyH_take (i := 11) (v := undef) (Reg.get rfl) (by kernel_rfl) (by kernel_rfl) (by kernel_rfl) (fun _ _ _ h => h) (Or.inr ⟨by rfl, rfl⟩) hHeld ?_)
      try simp only [Act.put, List.setIfInBounds_toArray, List.set_cons_zero, List.set_cons_succ]
      first | ((refine wpAnyH_take (i := 12) (v := undef) (Reg.get rfl) (by kernel_rfl) (by kernel_rfl) (by kernel_rfl) (fun _ _ _ h => h) (Or.inr ⟨by rfl, rfl⟩) hHeld ?_)) | (refine wpAnyH_ready (rs := [12]) (by kernel_rfl) (by simp) ?_; refine AllReadyH.cons (Reg.get rfl) (fun K hK => ?_) AllReadyH.nil; clear hHeld; go_simp; ((go_at_call 78; refine (HMD.out _).mono ?_; rintro x w9 ⟨rfl, rfl⟩)); refine hK.out _ _ ?_ (fun hHeld => ?_); ((try dsimp only); exact HC.out _ (by go_grown)); clear hK K)
      try simp only [Act.put, List.setIfInBounds_toArray, List.set_cons_zero, List.set_cons_succ]
      first | (refine wpAnyH_take (i := 13) (v := ?_) (Reg.get rfl) (by kernel_rfl) (by kernel_rfl) (by kernel_rfl) (fun _ _ _ h => h) (Or.inl ⟨by rfl, ?_⟩) hHeld ?_; rotate_left 1; (focus (intro wq hSw; (try dsimp only at hSw);  go_simp <;> with_reducible rfl))) | (refine wpAnyH_take (i := 13) (v := undef) (Reg.get rfl) (by kernel_rfl) (by kernel_rfl) (by kernel_rfl) (fun _ _ _ h => h) (Or.inr ⟨by rfl, rfl⟩) hHeld ?_)
      try simp only [Act.put, List.setIfInBounds_toArray, List.set_cons_zero, List.set_cons_succ]
      first | ((refine wpAnyH_take (i := 14) (v := undef) (Reg.get rfl) (by kernel_rfl) (by kernel_rfl) (by kernel_rfl) (fun _ _ _ h => h) (Or.inr ⟨by rfl, rfl⟩) hHeld ?_)) | (refine wpAnyH_ready (rs := [14]) (by kernel_rfl) (by simp) ?_; refine AllReadyH.cons (Reg.get rfl) (fun K hK => ?_) AllReadyH.nil; clear hHeld; go_simp; ((generalize hW : World.alloc _ _ = w3; replace B : Below w.heap.size w w3 := (by rw [← hW]; go_grown); (first | replace HP := own_toE HP hW | replace HP := own_toE (own_drewE HP) hW); have re := rd_oneE hW; have z3 := size_toE hW; (try simp only [World.size_drew] at z3); clear hW)); refine hK.out _ _ ?_ (fun hHeld => ?_); ((try dsimp only); exact HC.out _ (by go_grown)); clear hK K)
      try simp only [Act.put, List.setIfInBounds_toArray, List.set_cons_zero, List.set_cons_succ]
      first | ((refine wpAnyH_take (i := 15) (v := undef) (Reg.get rfl) (by kernel_rfl) (by kernel_rfl) (by kernel_rfl) (fun _ _ _ h => h) (Or.inr ⟨by rfl, rfl⟩) hHeld ?_)) | (refine wpAnyH_ready (rs := [15]) (by kernel_rfl) (by simp) ?_; refine AllReadyH.cons (Reg.get rfl) (fun K hK => ?_) AllReadyH.nil; clear hHeld; ((refine App.wp_app _ _ _ 25 rfl w.heap.size 5 iu (.int .u8 0) 1 1 Tryd.underlying25 hiu hu0 hu1 hu2 rfl (by decide) _ _ _ _ rfl (by first | exact HP | exact own_drewE HP) _ 1 1 _ rfl (by first | exact re | exact re.drew) (fun u hu => by simp at hu; subst hu; rfl) (by unfold maxLen; omega) (by omega) (by first | omega | (simp; done) | (simp; omega)) ?_; intro A4 c4 w4 own4 hg0 _; have hP := own_loE HP; replace B : Below w.heap.size w w4 := Mem.below_app (by go_grown) hg0 (by first | omega | (simp; done) | (simp; omega)) (by intro q h; have := hP _ h; omega); clear hg0 hP re)); refine hK.out _ _ ?_ (fun hHeld => ?_); ((try dsimp only); exact HC.out _ (by go_grown)); clear hK K)
      try simp only [Act.put, List.setIfInBounds_toArray, List.set_cons_zero, List.set_cons_succ]
      first | (refine wpAnyH_take (i := 16) (v := ?_) (Reg.get rfl) (by kernel_rfl) (by kernel_rfl) (by kernel_rfl) (fun _ _ _ h => h) (Or.inl ⟨by rfl, ?_⟩) hHeld ?_; rotate_left 1; (focus (intro wq hSw; (try dsimp only at hSw);  go_simp <;> with_reducible rfl))) | (refine wpAnyH_take (i := 16) (v := undef) (Reg.get rfl) (by kernel_rfl) (by kernel_rfl) (by kernel_rfl) (fun _ _ _ h => h) (Or.inr ⟨by rfl, rfl⟩) hHeld ?_)
      try simp only [Act.put, List.setIfInBounds_toArray, List.set_cons_zero, List.set_cons_succ]
      refine wpAnyH_done (by kernel_rfl) ?_ _
      go_wp2
      go_roundw
      case rel => exact ⟨k + 1, A4, c4, by omega, rfl, by go_num, by rw [HSN.out]; simpa [HEV.out] using own4, by first | exact B | exact B.drew⟩
      case measure => simp [intOf]; omega
    · obtain rfl : k = n := by omega
      have HA := Lib.hid (show ((decL key bs).take k) = decL key bs from List.take_of_length_le (by rw [hle.out, hl.out]; exact Nat.le_refl _))
      have HW := Lib.hid hown
      clear hown
      go_wp2
      go_ret
      exact ⟨_, _, rfl, by have h := HW.out; rw [HA.out] at h; exact h, B⟩
end Go.Proofs.YtgbmbnofnhhblaaDoor.Seal
