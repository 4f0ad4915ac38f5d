/- The draws of a client and of what StartJoining is given. -/
import Derived.Test.YtikolopdkjocgaaScans
import Derived.Test.YtikolopdkjocgaaSto
namespace Go.Proofs.Ytikolopdkjocgaa.Cl
open Go.RowKit
open Go.Proofs.Ytikolopdkjocgaa.Num Go.Proofs.Ytikolopdkjocgaa.Mem Go.Proofs.Ytikolopdkjocgaa.Hsh Go.Proofs.Ytikolopdkjocgaa.Sls Go.Proofs.Ytikolopdkjocgaa.Scn Go.Proofs.Ytikolopdkjocgaa.Own Go.Proofs.Ytikolopdkjocgaa.Cur
set_option linter.unusedSimpArgs false
set_option linter.unusedVariables false
/-- a client has been drawn, its scan in new memory -/
def DrewK (w : World) (g : Nat) (A : Option Addr) (n c : Nat) (bs : List Int) (e : Ending) (w' : World) : Prop :=
  ∃ (s a t : Int) (m : Nat) (ys : List Int) (L : Option Addr) (d : Nat), (0 ≤ s ∧ s < 5) ∧ (0 ≤ a ∧ a < 4) ∧ (0 ≤ t ∧ t < 30) ∧ m ≤ 6 ∧ EntsIn ys m ∧ w'.ownsRow w.heap.size 30 4 (.slice L m d) m (ys.map (Value.int .i64)) ∧ e = .returned (.agg #[.int .i64 s, .int .i64 a, .int .i64 t, .slice L m d]) ∧ Cur w' g A n c bs ∧ w.grownBy w' (some g)
set_option maxHeartbeats 4000000 in
theorem l32Client_any (A : Option Addr) (n c : Nat) (bs : List Int) (g : Nat) (w : World) (hcur : Cur w g A n c bs) :
    Calls Try.prog 32 #[.pointer (some ⟨g, 0, none⟩)] w (DrewK w g A n c bs) := by
  have HAL := Lib.hid (CurB.old_cur hcur)
  have hgl := hcur.lt
  have C := hcur
  have G : w.grownBy w (some g) := World.grownBy.refl _ _
  clear hcur
  go_enter Try.func32, Try.ntmps32
  go_wp2_with fail
  generalize hW : World.alloc _ _ = w1
  have rc : Bk.Blk w1 (w.heap.size) 38 #[.int .i64 0, .int .i64 0, .int .i64 0, .slice none 0 0] := (by rw [← hW]; apply Bk.Blk.to; (focus ((repeat (first | with_reducible assumption | (with_reducible apply Bk.Blk.newAt; focus (first | (simp [Bk.size_set]; done) | (simp [Bk.size_set]; omega))) | with_reducible apply Bk.Blk.drewN | with_reducible apply Bk.Blk.drew | with_reducible apply Bk.Blk.set_ | (with_reducible apply Bk.Blk.far; focus (dsimp only; first | omega | (simp; omega) | (simp; done))) | with_reducible apply Bk.Blk.alloc)))); rfl)
  replace C : Cur.Cur w1 (g) A n c bs := (by rw [← hW]; (repeat (first | with_reducible assumption | with_reducible apply Cur.Cur.alloc | with_reducible apply CurB.cur_drewN | with_reducible apply CurB.cur_drew | ((with_reducible refine CurB.cur_set HAL.out ?_ ?_ ?_ _); (focus (first | omega | (dsimp only; done) | (dsimp only; omega))); (focus (first | omega | (dsimp only; omega)))))))
  replace G : w.grownBy w1 (some (g)) := (by rw [← hW]; (repeat (first | with_reducible assumption | with_reducible exact World.grownBy.refl _ _ | with_reducible apply CurB.gr_alloc | with_reducible apply CurB.gr_drewN | with_reducible apply CurB.gr_drew | (with_reducible apply CurB.gr_set; focus (first | omega | (dsimp only; done) | (dsimp only; omega))))))
  have z1 : w1.heap.size = _ := congrArg (fun W : World => W.heap.size) hW.symm
  (try simp only [World.size_alloc, Bk.size_set, World.size_drew, World.drewN] at z1)
  clear hW
  go_wp2_with fail
  refine (l1Below_any A n c bs g _ _ (by (repeat (first | with_reducible assumption | with_reducible apply Cur.Cur.alloc | with_reducible apply CurB.cur_drewN | with_reducible apply CurB.cur_drew | ((with_reducible refine CurB.cur_set HAL.out ?_ ?_ ?_ _); (focus (first | omega | (dsimp only; done) | (dsimp only; omega))); (focus (first | omega | (dsimp only; omega))))))) (by omega) (by omega)).mono ?_
  rintro x w2 ⟨s, hs, rfl, C0, hg0⟩
  have HS := Lib.hid hs
  replace rc : Bk.Blk w2 (w.heap.size) 38 #[.int .i64 0, .int .i64 0, .int .i64 0, .slice none 0 0] := Bk.Blk.grown hg0 (by omega) (by (repeat (first | with_reducible assumption | (with_reducible apply Bk.Blk.newAt; focus (first | (simp [Bk.size_set]; done) | (simp [Bk.size_set]; omega))) | with_reducible apply Bk.Blk.drewN | with_reducible apply Bk.Blk.drew | with_reducible apply Bk.Blk.set_ | (with_reducible apply Bk.Blk.far; focus (dsimp only; first | omega | (simp; omega) | (simp; done))) | with_reducible apply Bk.Blk.alloc)))
  replace C := C0
  replace G : w.grownBy w2 (some (g)) := World.grownBy.trans (by (repeat (first | with_reducible assumption | with_reducible exact World.grownBy.refl _ _ | with_reducible apply CurB.gr_alloc | with_reducible apply CurB.gr_drewN | with_reducible apply CurB.gr_drew | (with_reducible apply CurB.gr_set; focus (first | omega | (dsimp only; done) | (dsimp only; omega)))))) hg0
  have z2 := hg0.size
  (try simp only [World.size_alloc, Bk.size_set, World.size_drew, World.drewN] at z2)
  clear hg0
  clear hs
  go_wp2_with fail
  refine (l1Below_any A n c bs g _ _ (by (repeat (first | with_reducible assumption | with_reducible apply Cur.Cur.alloc | with_reducible apply CurB.cur_drewN | with_reducible apply CurB.cur_drew | ((with_reducible refine CurB.cur_set HAL.out ?_ ?_ ?_ _); (focus (first | omega | (dsimp only; done) | (dsimp only; omega))); (focus (first | omega | (dsimp only; omega))))))) (by omega) (by omega)).mono ?_
  rintro x w3 ⟨a, ha, rfl, C0, hg0⟩
  have HA := Lib.hid ha
  replace rc : Bk.Blk w3 (w.heap.size) 38 #[.int .i64 0, .int .i64 0, .int .i64 0, .slice none 0 0] := Bk.Blk.grown hg0 (by omega) (by (repeat (first | with_reducible assumption | (with_reducible apply Bk.Blk.newAt; focus (first | (simp [Bk.size_set]; done) | (simp [Bk.size_set]; omega))) | with_reducible apply Bk.Blk.drewN | with_reducible apply Bk.Blk.drew | with_reducible apply Bk.Blk.set_ | (with_reducible apply Bk.Blk.far; focus (dsimp only; first | omega | (simp; omega) | (simp; done))) | with_reducible apply Bk.Blk.alloc)))
  replace C := C0
  replace G : w.grownBy w3 (some (g)) := World.grownBy.trans (by (repeat (first | with_reducible assumption | with_reducible exact World.grownBy.refl _ _ | with_reducible apply CurB.gr_alloc | with_reducible apply CurB.gr_drewN | with_reducible apply CurB.gr_drew | (with_reducible apply CurB.gr_set; focus (first | omega | (dsimp only; done) | (dsimp only; omega)))))) hg0
  have z3 := hg0.size
  (try simp only [World.size_alloc, Bk.size_set, World.size_drew, World.drewN] at z3)
  clear hg0
  clear ha
  go_wp2_with fail
  refine (l1Below_any A n c bs g _ _ (by (repeat (first | with_reducible assumption | with_reducible apply Cur.Cur.alloc | with_reducible apply CurB.cur_drewN | with_reducible apply CurB.cur_drew | ((with_reducible refine CurB.cur_set HAL.out ?_ ?_ ?_ _); (focus (first | omega | (dsimp only; done) | (dsimp only; omega))); (focus (first | omega | (dsimp only; omega))))))) (by omega) (by omega)).mono ?_
  rintro x w4 ⟨t, ht, rfl, C0, hg0⟩
  have HT := Lib.hid ht
  replace rc : Bk.Blk w4 (w.heap.size) 38 #[.int .i64 0, .int .i64 0, .int .i64 0, .slice none 0 0] := Bk.Blk.grown hg0 (by omega) (by (repeat (first | with_reducible assumption | (with_reducible apply Bk.Blk.newAt; focus (first | (simp [Bk.size_set]; done) | (simp [Bk.size_set]; omega))) | with_reducible apply Bk.Blk.drewN | with_reducible apply Bk.Blk.drew | with_reducible apply Bk.Blk.set_ | (with_reducible apply Bk.Blk.far; focus (dsimp only; first | omega | (simp; omega) | (simp; done))) | with_reducible apply Bk.Blk.alloc)))
  replace C := C0
  replace G : w.grownBy w4 (some (g)) := World.grownBy.trans (by (repeat (first | with_reducible assumption | with_reducible exact World.grownBy.refl _ _ | with_reducible apply CurB.gr_alloc | with_reducible apply CurB.gr_drewN | with_reducible apply CurB.gr_drew | (with_reducible apply CurB.gr_set; focus (first | omega | (dsimp only; done) | (dsimp only; omega)))))) hg0
  have z4 := hg0.size
  (try simp only [World.size_alloc, Bk.size_set, World.size_drew, World.drewN] at z4)
  clear hg0
  clear ht
  go_wp2_with fail
  refine (l32Scan_any A n c bs g _ (by (repeat (first | with_reducible assumption | with_reducible apply Cur.Cur.alloc | with_reducible apply CurB.cur_drewN | with_reducible apply CurB.cur_drew | ((with_reducible refine CurB.cur_set HAL.out ?_ ?_ ?_ _); (focus (first | omega | (dsimp only; done) | (dsimp only; omega))); (focus (first | omega | (dsimp only; omega)))))))).mono ?_
  rintro x w5 ⟨m, ys, L, d, hm, hys, ho, rfl, C0, hg0⟩
  have HO := Lib.hid ho
  have HY := Lib.hid hys
  replace rc : Bk.Blk w5 (w.heap.size) 38 #[.int .i64 0, .int .i64 0, .int .i64 0, .slice none 0 0] := Bk.Blk.grown hg0 (by omega) (by (repeat (first | with_reducible assumption | (with_reducible apply Bk.Blk.newAt; focus (first | (simp [Bk.size_set]; done) | (simp [Bk.size_set]; omega))) | with_reducible apply Bk.Blk.drewN | with_reducible apply Bk.Blk.drew | with_reducible apply Bk.Blk.set_ | (with_reducible apply Bk.Blk.far; focus (dsimp only; first | omega | (simp; omega) | (simp; done))) | with_reducible apply Bk.Blk.alloc)))
  replace C := C0
  replace G : w.grownBy w5 (some (g)) := World.grownBy.trans (by (repeat (first | with_reducible assumption | with_reducible exact World.grownBy.refl _ _ | with_reducible apply CurB.gr_alloc | with_reducible apply CurB.gr_drewN | with_reducible apply CurB.gr_drew | (with_reducible apply CurB.gr_set; focus (first | omega | (dsimp only; done) | (dsimp only; omega)))))) hg0
  have z5 := hg0.size
  (try simp only [World.size_alloc, Bk.size_set, World.size_drew, World.drewN] at z5)
  clear hg0
  clear ho hys
  have L_rc := Lay.f4 rc
  go_wp2
  clear L_rc
  generalize hW : World.setCell _ _ _ = w6
  replace rc : Bk.Blk w6 (w.heap.size) 38 #[.int .i64 s, .int .i64 a, .int .i64 t, .slice L m d] := (by rw [← hW]; apply Bk.Blk.to; (focus ((repeat (first | with_reducible assumption | (with_reducible apply Bk.Blk.newAt; focus (first | (simp [Bk.size_set]; done) | (simp [Bk.size_set]; omega))) | with_reducible apply Bk.Blk.drewN | with_reducible apply Bk.Blk.drew | with_reducible apply Bk.Blk.set_ | (with_reducible apply Bk.Blk.far; focus (dsimp only; first | omega | (simp; omega) | (simp; done))) | with_reducible apply Bk.Blk.alloc)))); rfl)
  have HO6 : Hid (w6.ownsRow w.heap.size 30 4 (.slice L m d) m (ys.map (Value.int .i64))) := by
    refine Lib.hid ?_
    rw [← hW]
    exact ownsRow_mono (own_set4 HO.out (by omega) _ _ _ _) (by omega)
  replace C : Cur.Cur w6 (g) A n c bs := (by rw [← hW]; (repeat (first | with_reducible assumption | with_reducible apply Cur.Cur.alloc | with_reducible apply CurB.cur_drewN | with_reducible apply CurB.cur_drew | ((with_reducible refine CurB.cur_set HAL.out ?_ ?_ ?_ _); (focus (first | omega | (dsimp only; done) | (dsimp only; omega))); (focus (first | omega | (dsimp only; omega)))))))
  replace G : w.grownBy w6 (some (g)) := (by rw [← hW]; (repeat (first | with_reducible assumption | with_reducible exact World.grownBy.refl _ _ | with_reducible apply CurB.gr_alloc | with_reducible apply CurB.gr_drewN | with_reducible apply CurB.gr_drew | (with_reducible apply CurB.gr_set; focus (first | omega | (dsimp only; done) | (dsimp only; omega))))))
  have z6 : w6.heap.size = _ := congrArg (fun W : World => W.heap.size) hW.symm
  (try simp only [World.size_alloc, Bk.size_set, World.size_drew, World.drewN] at z6)
  clear hW
  have L_rc := Lay.c4 rc
  refine bodyPost_ret (v := .agg #[.int .i64 s, .int .i64 a, .int .i64 t, .slice L m d]) (by simp [results, Try.results32, go_sem, L_rc]) rfl (⟨s, a, t, m, ys, L, d, HS.out, HA.out, HT.out, hm, HY.out, HO6.out, rfl, C, G⟩)
theorem own_setne {w : World} {base n : Nat} {e : TypeId} {sz : Nat} {v : Value} {xs : List Value} (h : w.ownsRow base e sz v n xs) (a : Addr) (u : Value) (hne : ∀ k, v.ownBlock = some k → k ≠ a.block) : (w.setCell a u).ownsRow base e sz v n xs :=
  own_grown2 h (g := a.block) ⟨rfl, rfl, rfl, by simp [World.setCell], fun k hk hne => Below.heap_setCell w a u k (fun e => hne (by rw [e]))⟩ hne
/-- a client and two numbers have been drawn -/
def DrewJ (w : World) (e : Ending) (w' : World) : Prop :=
  ∃ (s a t x y : Int) (m : Nat) (ys : List Int) (L : Option Addr) (d : Nat), (0 ≤ s ∧ s < 5) ∧ (0 ≤ a ∧ a < 4) ∧ (0 ≤ t ∧ t < 30) ∧ (0 ≤ x ∧ x < 40) ∧ (0 ≤ y ∧ y ≤ 100) ∧ m ≤ 6 ∧ EntsIn ys m ∧ w'.ownsRow w.heap.size 30 4 (.slice L m d) m (ys.map (Value.int .i64)) ∧ e = .returned (.tuple #[.agg #[.int .i64 s, .int .i64 a, .int .i64 t, .slice L m d], .int .i64 x, .int .i64 y]) ∧ Below w.heap.size w w'
set_option maxHeartbeats 4000000 in
theorem drawJoin_any (A : Option Addr) (n c : Nat) (bs : List Int) (w : World) (hr : Rd w 1 A n c (bs.map (Value.int .u8))) (hb : AllBytes bs) (hn : n ≤ 2097152) :
    Calls Try.prog 16 #[.slice A n c] w (DrewJ w) := by
  have HAL := Lib.hid (CurB.old_of hr)
  have HR := Lib.hid hr
  have HB := Lib.hid hb
  have HN := Lib.hid hn
  have B : Below w.heap.size w w := Below.refl _ _
  clear hr hb
  go_enter Try.func16, Try.ntmps16
  go_wp2_with fail
  refine (l1New_any A n c bs _ (HR.out.alloc _) HB.out hn).mono ?_
  rintro e w1 ⟨h, rfl, rfl⟩
  simp only [World.size_alloc]
  generalize hW : World.alloc _ _ = w1
  have rc : Bk.Blk w1 (w.heap.size) 38 #[.int .i64 0, .int .i64 0, .int .i64 0, .slice none 0 0] := (by rw [← hW]; apply Bk.Blk.to; (focus ((repeat (first | with_reducible assumption | (with_reducible apply Bk.Blk.newAt; focus (first | (simp [Bk.size_set]; done) | (simp [Bk.size_set]; omega))) | with_reducible apply Bk.Blk.drewN | with_reducible apply Bk.Blk.drew | with_reducible apply Bk.Blk.set_ | (with_reducible apply Bk.Blk.far; focus (dsimp only; first | omega | (simp; omega) | (simp; done))) | with_reducible apply Bk.Blk.alloc)))); rfl)
  have C : Cur.Cur w1 (w.heap.size + 1) A n c bs := (by rw [← hW]; exact CurB.cur_newAt (by first | rfl | (simp; done)) (by first | exact HR.out | exact HR.out.alloc _ | exact (HR.out.alloc _).alloc _ | exact ((HR.out.alloc _).alloc _).alloc _) HB.out HN.out _)
  replace B : Below w.heap.size w w1 := (by rw [← hW]; go_grown)
  have z1 : w1.heap.size = _ := congrArg (fun W : World => W.heap.size) hW.symm
  (try simp only [World.size_alloc, Bk.size_set, World.size_drew, World.drewN] at z1)
  clear hW
  go_wp2_with fail
  refine (l32Client_any A n c bs _ _ (by (repeat (first | with_reducible assumption | with_reducible apply Cur.Cur.alloc | with_reducible apply CurB.cur_drewN | with_reducible apply CurB.cur_drew | ((with_reducible refine CurB.cur_set HAL.out ?_ ?_ ?_ _); (focus (first | omega | (dsimp only; done) | (dsimp only; omega))); (focus (first | omega | (dsimp only; omega)))))))).mono ?_
  rintro x w2 ⟨s, a, t, m, ys, L, d, hs, ha, ht, hm, hys, ho, rfl, C0, hg0⟩
  have HO := Lib.hid ho
  have HLT := Lib.hid ho.lt
  have HS := Lib.hid hs
  have HA := Lib.hid ha
  have HT := Lib.hid ht
  have HY := Lib.hid hys
  replace rc : Bk.Blk w2 (w.heap.size) 38 #[.int .i64 0, .int .i64 0, .int .i64 0, .slice none 0 0] := Bk.Blk.grown hg0 (by omega) (by (repeat (first | with_reducible assumption | (with_reducible apply Bk.Blk.newAt; focus (first | (simp [Bk.size_set]; done) | (simp [Bk.size_set]; omega))) | with_reducible apply Bk.Blk.drewN | with_reducible apply Bk.Blk.drew | with_reducible apply Bk.Blk.set_ | (with_reducible apply Bk.Blk.far; focus (dsimp only; first | omega | (simp; omega) | (simp; done))) | with_reducible apply Bk.Blk.alloc)))
  replace C := C0
  replace B : Below w.heap.size w w2 := Bk.below_grown (by go_grown) hg0 (by omega) (by first | omega | (simp [Bk.size_set]; done) | (simp [Bk.size_set]; omega))
  have z2 := hg0.size
  (try simp only [World.size_alloc, Bk.size_set, World.size_drew, World.drewN] at z2)
  clear hg0
  clear hs ha ht ho hys
  go_wp2_with fail
  refine (l1Once_any A n c bs _ _ _ (by (repeat (first | with_reducible assumption | with_reducible apply Cur.Cur.alloc | with_reducible apply CurB.cur_drewN | with_reducible apply CurB.cur_drew | ((with_reducible refine CurB.cur_set HAL.out ?_ ?_ ?_ _); (focus (first | omega | (dsimp only; done) | (dsimp only; omega))); (focus (first | omega | (dsimp only; omega))))))) (by omega) (by omega)).mono ?_
  rintro x w3 ⟨o, rfl, C0, hg0⟩
  have rx : Bk.Blk w3 (w2.heap.size) 38 #[.int .i64 s, .int .i64 a, .int .i64 t, .slice L m d] := (by apply Bk.Blk.to; (focus (apply Bk.Blk.grown hg0 (by omega); (repeat (first | with_reducible assumption | (with_reducible apply Bk.Blk.newAt; focus (first | (simp [Bk.size_set]; done) | (simp [Bk.size_set]; omega))) | with_reducible apply Bk.Blk.drewN | with_reducible apply Bk.Blk.drew | with_reducible apply Bk.Blk.set_ | (with_reducible apply Bk.Blk.far; focus (dsimp only; first | omega | (simp; omega) | (simp; done))) | with_reducible apply Bk.Blk.alloc)))); rfl)
  have HO3 := Lib.hid (own_grown2 (own_alloc HO.out _) hg0 (fun q hq => by have := (HLT.out q hq).1; omega))
  replace rc : Bk.Blk w3 (w.heap.size) 38 #[.int .i64 0, .int .i64 0, .int .i64 0, .slice none 0 0] := Bk.Blk.grown hg0 (by omega) (by (repeat (first | with_reducible assumption | (with_reducible apply Bk.Blk.newAt; focus (first | (simp [Bk.size_set]; done) | (simp [Bk.size_set]; omega))) | with_reducible apply Bk.Blk.drewN | with_reducible apply Bk.Blk.drew | with_reducible apply Bk.Blk.set_ | (with_reducible apply Bk.Blk.far; focus (dsimp only; first | omega | (simp; omega) | (simp; done))) | with_reducible apply Bk.Blk.alloc)))
  replace C := C0
  replace B : Below w.heap.size w w3 := Bk.below_grown (by go_grown) hg0 (by omega) (by first | omega | (simp [Bk.size_set]; done) | (simp [Bk.size_set]; omega))
  have z3 := hg0.size
  (try simp only [World.size_alloc, Bk.size_set, World.size_drew, World.drewN] at z3)
  clear hg0
  clear HO
  have HLT3 := Lib.hid (fun q hq => (HLT.out q hq : w1.heap.size ≤ q ∧ q < w2.heap.size))
  clear HLT
  have h00 : (0 : Int) ≤ 0 ∧ (0 : Int) < 5 := by omega
  have H00 := Lib.hid h00
  clear h00
  have L_rx := Lay.f4 rx
  cases o
  · skip
    go_wp2_with fail
    clear L_rx
    refine (l1Below_any A n c bs _ _ _ (by (repeat (first | with_reducible assumption | with_reducible apply Cur.Cur.alloc | with_reducible apply CurB.cur_drewN | with_reducible apply CurB.cur_drew | ((with_reducible refine CurB.cur_set HAL.out ?_ ?_ ?_ _); (focus (first | omega | (dsimp only; done) | (dsimp only; omega))); (focus (first | omega | (dsimp only; omega))))))) (by omega) (by omega)).mono ?_
    rintro x w4 ⟨x, hx, rfl, C0, hg0⟩
    have HO4 := Lib.hid (own_grown2 (by first | exact HO3.out | exact own_setne HO3.out _ _ (fun q hq => by have := (HLT3.out q hq).2; dsimp only; omega)) hg0 (fun q hq => by have := (HLT3.out q hq).1; omega))
    have HX := Lib.hid hx
    replace rx : Bk.Blk w4 (w2.heap.size) 38 #[.int .i64 s, .int .i64 a, .int .i64 t, .slice L m d] := (by apply Bk.Blk.to; (focus (apply Bk.Blk.grown hg0 (by omega); (repeat (first | with_reducible assumption | (with_reducible apply Bk.Blk.newAt; focus (first | (simp [Bk.size_set]; done) | (simp [Bk.size_set]; omega))) | with_reducible apply Bk.Blk.drewN | with_reducible apply Bk.Blk.drew | with_reducible apply Bk.Blk.set_ | (with_reducible apply Bk.Blk.far; focus (dsimp only; first | omega | (simp; omega) | (simp; done))) | with_reducible apply Bk.Blk.alloc)))); rfl)
    replace rc : Bk.Blk w4 (w.heap.size) 38 #[.int .i64 0, .int .i64 0, .int .i64 0, .slice none 0 0] := Bk.Blk.grown hg0 (by omega) (by (repeat (first | with_reducible assumption | (with_reducible apply Bk.Blk.newAt; focus (first | (simp [Bk.size_set]; done) | (simp [Bk.size_set]; omega))) | with_reducible apply Bk.Blk.drewN | with_reducible apply Bk.Blk.drew | with_reducible apply Bk.Blk.set_ | (with_reducible apply Bk.Blk.far; focus (dsimp only; first | omega | (simp; omega) | (simp; done))) | with_reducible apply Bk.Blk.alloc)))
    replace C := C0
    replace B : Below w.heap.size w w4 := Bk.below_grown (by go_grown) hg0 (by omega) (by first | omega | (simp [Bk.size_set]; done) | (simp [Bk.size_set]; omega))
    have z4 := hg0.size
    (try simp only [World.size_alloc, Bk.size_set, World.size_drew, World.drewN] at z4)
    clear hg0
    clear hx
    have L_rx := Lay.f4 rx
    have L_rc := Lay.f4 rc
    go_wp2_with fail
    refine wp_region_held_drew (S := (fun w' => Bk.Blk w' (w2.heap.size) 38 #[.int .i64 s, .int .i64 a, .int .i64 t, .slice L m d])) (by kernel_rfl) ?_ (fun hHeld => ?_)
    · (try dsimp only); (repeat (first | with_reducible assumption | (with_reducible apply Bk.Blk.newAt; focus (first | (simp [Bk.size_set]; done) | (simp [Bk.size_set]; omega))) | with_reducible apply Bk.Blk.drewN | with_reducible apply Bk.Blk.drew | with_reducible apply Bk.Blk.set_ | (with_reducible apply Bk.Blk.far; focus (dsimp only; first | omega | (simp; omega) | (simp; done))) | with_reducible apply Bk.Blk.alloc))
    first | (refine wpAnyH_take (i := 0) (v := ?_) (Reg.get rfl) (by kernel_rfl) (by kernel_rfl) (by kernel_rfl) (fun _ _ _ h => h) (Or.inl ⟨by rfl, ?_⟩) hHeld ?_; rotate_left 1; (focus (intro wq hSw; (try dsimp only at hSw); have s_rx := hSw; have L_rx := Lay.c4 s_rx;  go_simp <;> with_reducible rfl))) | (refine wpAnyH_take (i := 0) (v := undef) (Reg.get rfl) (by kernel_rfl) (by kernel_rfl) (by kernel_rfl) (fun _ _ _ h => h) (Or.inr ⟨by rfl, rfl⟩) hHeld ?_)
    try simp only [Act.put, List.setIfInBounds_toArray, List.set_cons_zero, List.set_cons_succ]
    first | (refine wpAnyH_take (i := 1) (v := ?_) (Reg.get rfl) (by kernel_rfl) (by kernel_rfl) (by kernel_rfl) (fun _ _ _ h => h) (Or.inl ⟨by rfl, ?_⟩) hHeld ?_; rotate_left 1; (focus (intro wq hSw; (try dsimp only at hSw); have s_rx := hSw; have L_rx := Lay.c4 s_rx;  go_simp <;> with_reducible rfl))) | (refine wpAnyH_take (i := 1) (v := undef) (Reg.get rfl) (by kernel_rfl) (by kernel_rfl) (by kernel_rfl) (fun _ _ _ h => h) (Or.inr ⟨by rfl, rfl⟩) hHeld ?_)
    try simp only [Act.put, List.setIfInBounds_toArray, List.set_cons_zero, List.set_cons_succ]
    first | (refine wpAnyH_take (i := 2) (v := ?_) (Reg.get rfl) (by kernel_rfl) (by kernel_rfl) (by kernel_rfl) (fun _ _ _ h => h) (Or.inl ⟨by rfl, ?_⟩) hHeld ?_; rotate_left 1; (focus (intro wq hSw; (try dsimp only at hSw); have s_rx := hSw; have L_rx := Lay.c4 s_rx;  go_simp <;> with_reducible rfl))) | (refine wpAnyH_take (i := 2) (v := undef) (Reg.get rfl) (by kernel_rfl) (by kernel_rfl) (by kernel_rfl) (fun _ _ _ h => h) (Or.inr ⟨by rfl, rfl⟩) hHeld ?_)
    try simp only [Act.put, List.setIfInBounds_toArray, List.set_cons_zero, List.set_cons_succ]
    first | ((refine wpAnyH_take (i := 3) (v := undef) (Reg.get rfl) (by kernel_rfl) (by kernel_rfl) (by kernel_rfl) (fun _ _ _ h => h) (Or.inr ⟨by rfl, rfl⟩) hHeld ?_)) | (refine wpAnyH_ready (rs := [3]) (by kernel_rfl) (by simp) ?_; refine AllReadyH.cons (Reg.get rfl) (fun K hK => ?_) AllReadyH.nil; clear hHeld; go_simp; (skip); refine hK.out _ _ ?_ (fun hHeld => ?_); ((try dsimp only); (repeat (first | with_reducible assumption | (with_reducible apply Bk.Blk.newAt; focus (first | (simp [Bk.size_set]; done) | (simp [Bk.size_set]; omega))) | with_reducible apply Bk.Blk.drewN | with_reducible apply Bk.Blk.drew | with_reducible apply Bk.Blk.set_ | (with_reducible apply Bk.Blk.far; focus (dsimp only; first | omega | (simp; omega) | (simp; done))) | with_reducible apply Bk.Blk.alloc))); clear hK K)
    try simp only [Act.put, List.setIfInBounds_toArray, List.set_cons_zero, List.set_cons_succ]
    first | ((refine wpAnyH_take (i := 4) (v := undef) (Reg.get rfl) (by kernel_rfl) (by kernel_rfl) (by kernel_rfl) (fun _ _ _ h => h) (Or.inr ⟨by rfl, rfl⟩) hHeld ?_)) | (refine wpAnyH_ready (rs := [4]) (by kernel_rfl) (by simp) ?_; refine AllReadyH.cons (Reg.get rfl) (fun K hK => ?_) AllReadyH.nil; clear hHeld; go_simp; ((go_at_call 34; refine (l1Int_any A n c bs _ _ 4 4 [0, 5, 20, 100] _ (by (repeat (first | with_reducible assumption | with_reducible apply Cur.Cur.alloc | with_reducible apply CurB.cur_drewN | with_reducible apply CurB.cur_drew | ((with_reducible refine CurB.cur_set HAL.out ?_ ?_ ?_ _); (focus (first | omega | (dsimp only; done) | (dsimp only; omega))); (focus (first | omega | (dsimp only; omega))))))) (by exact Rd.drew (Rd.litAt _ (([0, 5, 20, 100] : List Int).map (Value.int .i64)) _ 4 _ rfl rfl (by unfold maxLen; omega))) (fun e => by simp [blk] at e; have := C.lt; omega) (by omega) (by omega)).mono ?_; rintro e w5 ⟨y, hy, rfl, C0, hg0⟩; have HO5 := Lib.hid (own_grown2 (own_drew (own_alloc HO4.out _)) hg0 (fun q hq => by have := (HLT3.out q hq).1; omega)); have HY2 := Lib.hid (four_in y hy); clear hy; clear L_rx L_rc; replace rc : Bk.Blk w5 (w.heap.size) 38 #[.int .i64 0, .int .i64 0, .int .i64 0, .slice none 0 0] := Bk.Blk.grown hg0 (by omega) (by (repeat (first | with_reducible assumption | (with_reducible apply Bk.Blk.newAt; focus (first | (simp [Bk.size_set]; done) | (simp [Bk.size_set]; omega))) | with_reducible apply Bk.Blk.drewN | with_reducible apply Bk.Blk.drew | with_reducible apply Bk.Blk.set_ | (with_reducible apply Bk.Blk.far; focus (dsimp only; first | omega | (simp; omega) | (simp; done))) | with_reducible apply Bk.Blk.alloc))); replace rx : Bk.Blk w5 (w2.heap.size) 38 #[.int .i64 s, .int .i64 a, .int .i64 t, .slice L m d] := Bk.Blk.grown hg0 (by omega) (by (repeat (first | with_reducible assumption | (with_reducible apply Bk.Blk.newAt; focus (first | (simp [Bk.size_set]; done) | (simp [Bk.size_set]; omega))) | with_reducible apply Bk.Blk.drewN | with_reducible apply Bk.Blk.drew | with_reducible apply Bk.Blk.set_ | (with_reducible apply Bk.Blk.far; focus (dsimp only; first | omega | (simp; omega) | (simp; done))) | with_reducible apply Bk.Blk.alloc))); replace C := C0; replace B : Below w.heap.size w w5 := Bk.below_grown (by go_grown) hg0 (by omega) (by first | omega | (simp [Bk.size_set]; done) | (simp [Bk.size_set]; omega)); have z5 := hg0.size; (try simp only [World.size_alloc, Bk.size_set, World.size_drew, World.drewN] at z5); clear hg0; have L_rx := Lay.f4 rx; have L_rc := Lay.f4 rc)); refine hK.out _ _ ?_ (fun hHeld => ?_); ((try dsimp only); (repeat (first | with_reducible assumption | (with_reducible apply Bk.Blk.newAt; focus (first | (simp [Bk.size_set]; done) | (simp [Bk.size_set]; omega))) | with_reducible apply Bk.Blk.drewN | with_reducible apply Bk.Blk.drew | with_reducible apply Bk.Blk.set_ | (with_reducible apply Bk.Blk.far; focus (dsimp only; first | omega | (simp; omega) | (simp; done))) | with_reducible apply Bk.Blk.alloc))); clear hK K)
    try simp only [Act.put, List.setIfInBounds_toArray, List.set_cons_zero, List.set_cons_succ]
    first | ((refine wpAnyH_take (i := 5) (v := undef) (Reg.get rfl) (by kernel_rfl) (by kernel_rfl) (by kernel_rfl) (fun _ _ _ h => h) (Or.inr ⟨by rfl, rfl⟩) hHeld ?_)) | (refine wpAnyH_ready (rs := [5]) (by kernel_rfl) (by simp) ?_; refine AllReadyH.cons (Reg.get rfl) (fun K hK => ?_) AllReadyH.nil; clear hHeld; go_simp; (skip); refine hK.out _ _ ?_ (fun hHeld => ?_); ((try dsimp only); (repeat (first | with_reducible assumption | (with_reducible apply Bk.Blk.newAt; focus (first | (simp [Bk.size_set]; done) | (simp [Bk.size_set]; omega))) | with_reducible apply Bk.Blk.drewN | with_reducible apply Bk.Blk.drew | with_reducible apply Bk.Blk.set_ | (with_reducible apply Bk.Blk.far; focus (dsimp only; first | omega | (simp; omega) | (simp; done))) | with_reducible apply Bk.Blk.alloc))); clear hK K)
    try simp only [Act.put, List.setIfInBounds_toArray, List.set_cons_zero, List.set_cons_succ]
    first | (refine wpAnyH_take (i := 6) (v := ?_) (Reg.get rfl) (by kernel_rfl) (by kernel_rfl) (by kernel_rfl) (fun _ _ _ h => h) (Or.inl ⟨by rfl, ?_⟩) hHeld ?_; rotate_left 1; (focus (intro wq hSw; (try dsimp only at hSw); have s_rx := hSw; have L_rx := Lay.c4 s_rx;  go_simp <;> with_reducible rfl))) | (refine wpAnyH_take (i := 6) (v := undef) (Reg.get rfl) (by kernel_rfl) (by kernel_rfl) (by kernel_rfl) (fun _ _ _ h => h) (Or.inr ⟨by rfl, rfl⟩) hHeld ?_)
    try simp only [Act.put, List.setIfInBounds_toArray, List.set_cons_zero, List.set_cons_succ]
    first | (refine wpAnyH_take (i := 7) (v := ?_) (Reg.get rfl) (by kernel_rfl) (by kernel_rfl) (by kernel_rfl) (fun _ _ _ h => h) (Or.inl ⟨by rfl, ?_⟩) hHeld ?_; rotate_left 1; (focus (intro wq hSw; (try dsimp only at hSw); have s_rx := hSw; have L_rx := Lay.c4 s_rx;  go_simp <;> with_reducible rfl))) | (refine wpAnyH_take (i := 7) (v := undef) (Reg.get rfl) (by kernel_rfl) (by kernel_rfl) (by kernel_rfl) (fun _ _ _ h => h) (Or.inr ⟨by rfl, rfl⟩) hHeld ?_)
    try simp only [Act.put, List.setIfInBounds_toArray, List.set_cons_zero, List.set_cons_succ]
    refine wpAnyH_done (by kernel_rfl) ?_ _
    clear L_rx L_rc
    generalize hW : World.setCell _ _ _ = w6
    replace rc : Bk.Blk w6 (w.heap.size) 38 #[.int .i64 s, .int .i64 a, .int .i64 t, .slice L m d] := (by rw [← hW]; apply Bk.Blk.to; (focus ((repeat (first | with_reducible assumption | (with_reducible apply Bk.Blk.newAt; focus (first | (simp [Bk.size_set]; done) | (simp [Bk.size_set]; omega))) | with_reducible apply Bk.Blk.drewN | with_reducible apply Bk.Blk.drew | with_reducible apply Bk.Blk.set_ | (with_reducible apply Bk.Blk.far; focus (dsimp only; first | omega | (simp; omega) | (simp; done))) | with_reducible apply Bk.Blk.alloc)))); rfl)
    have HO6 : Hid (w6.ownsRow w.heap.size 30 4 (.slice L m d) m (ys.map (Value.int .i64))) := by
      refine Lib.hid ?_
      rw [← hW]
      exact ownsRow_mono (own_set4 HO5.out (by omega) _ _ _ _) (by omega)
    replace B : Below w.heap.size w w6 := (by rw [← hW]; go_grown)
    have z6 : w6.heap.size = _ := congrArg (fun W : World => W.heap.size) hW.symm
    (try simp only [World.size_alloc, Bk.size_set, World.size_drew, World.drewN] at z6)
    clear hW
    have L_rc := Lay.c4 rc
    go_wp2
    refine bodyPost_ret (v := .tuple #[.agg #[.int .i64 s, .int .i64 a, .int .i64 t, .slice L m d], .int .i64 x, .int .i64 y]) (by simp [results, Try.results16, go_sem, L_rc]) rfl (⟨s, a, t, x, y, m, ys, L, d, HS.out, HA.out, HT.out, HX.out, HY2.out, hm, HY.out, HO6.out, rfl, B⟩)
  · skip
    go_wp2_with fail
    clear L_rx
    refine (l1Below_any A n c bs _ _ _ (by (repeat (first | with_reducible assumption | with_reducible apply Cur.Cur.alloc | with_reducible apply CurB.cur_drewN | with_reducible apply CurB.cur_drew | ((with_reducible refine CurB.cur_set HAL.out ?_ ?_ ?_ _); (focus (first | omega | (dsimp only; done) | (dsimp only; omega))); (focus (first | omega | (dsimp only; omega))))))) (by omega) (by omega)).mono ?_
    rintro x w4 ⟨x, hx, rfl, C0, hg0⟩
    have HO4 := Lib.hid (own_grown2 (by first | exact HO3.out | exact own_setne HO3.out _ _ (fun q hq => by have := (HLT3.out q hq).2; dsimp only; omega)) hg0 (fun q hq => by have := (HLT3.out q hq).1; omega))
    have HX := Lib.hid hx
    replace rx : Bk.Blk w4 (w2.heap.size) 38 #[.int .i64 0, .int .i64 a, .int .i64 t, .slice L m d] := (by apply Bk.Blk.to; (focus (apply Bk.Blk.grown hg0 (by omega); (repeat (first | with_reducible assumption | (with_reducible apply Bk.Blk.newAt; focus (first | (simp [Bk.size_set]; done) | (simp [Bk.size_set]; omega))) | with_reducible apply Bk.Blk.drewN | with_reducible apply Bk.Blk.drew | with_reducible apply Bk.Blk.set_ | (with_reducible apply Bk.Blk.far; focus (dsimp only; first | omega | (simp; omega) | (simp; done))) | with_reducible apply Bk.Blk.alloc)))); rfl)
    replace rc : Bk.Blk w4 (w.heap.size) 38 #[.int .i64 0, .int .i64 0, .int .i64 0, .slice none 0 0] := Bk.Blk.grown hg0 (by omega) (by (repeat (first | with_reducible assumption | (with_reducible apply Bk.Blk.newAt; focus (first | (simp [Bk.size_set]; done) | (simp [Bk.size_set]; omega))) | with_reducible apply Bk.Blk.drewN | with_reducible apply Bk.Blk.drew | with_reducible apply Bk.Blk.set_ | (with_reducible apply Bk.Blk.far; focus (dsimp only; first | omega | (simp; omega) | (simp; done))) | with_reducible apply Bk.Blk.alloc)))
    replace C := C0
    replace B : Below w.heap.size w w4 := Bk.below_grown (by go_grown) hg0 (by omega) (by first | omega | (simp [Bk.size_set]; done) | (simp [Bk.size_set]; omega))
    have z4 := hg0.size
    (try simp only [World.size_alloc, Bk.size_set, World.size_drew, World.drewN] at z4)
    clear hg0
    clear hx
    have L_rx := Lay.f4 rx
    have L_rc := Lay.f4 rc
    go_wp2_with fail
    refine wp_region_held_drew (S := (fun w' => Bk.Blk w' (w2.heap.size) 38 #[.int .i64 0, .int .i64 a, .int .i64 t, .slice L m d])) (by kernel_rfl) ?_ (fun hHeld => ?_)
    · (try dsimp only); (repeat (first | with_reducible assumption | (with_reducible apply Bk.Blk.newAt; focus (first | (simp [Bk.size_set]; done) | (simp [Bk.size_set]; omega))) | with_reducible apply Bk.Blk.drewN | with_reducible apply Bk.Blk.drew | with_reducible apply Bk.Blk.set_ | (with_reducible apply Bk.Blk.far; focus (dsimp only; first | omega | (simp; omega) | (simp; done))) | with_reducible apply Bk.Blk.alloc))
    first | (refine wpAnyH_take (i := 0) (v := ?_) (Reg.get rfl) (by kernel_rfl) (by kernel_rfl) (by kernel_rfl) (fun _ _ _ h => h) (Or.inl ⟨by rfl, ?_⟩) hHeld ?_; rotate_left 1; (focus (intro wq hSw; (try dsimp only at hSw); have s_rx := hSw; have L_rx := Lay.c4 s_rx;  go_simp <;> with_reducible rfl))) | (refine wpAnyH_take (i := 0) (v := undef) (Reg.get rfl) (by kernel_rfl) (by kernel_rfl) (by kernel_rfl) (fun _ _ _ h => h) (Or.inr ⟨by rfl, rfl⟩) hHeld ?_)
    try simp only [Act.put, List.setIfInBounds_toArray, List.set_cons_zero, List.set_cons_succ]
    first | (refine wpAnyH_take (i := 1) (v := ?_) (Reg.get rfl) (by kernel_rfl) (by kernel_rfl) (by kernel_rfl) (fun _ _ _ h => h) (Or.inl ⟨by rfl, ?_⟩) hHeld ?_; rotate_left 1; (focus (intro wq hSw; (try dsimp only at hSw); have s_rx := hSw; have L_rx := Lay.c4 s_rx;  go_simp <;> with_reducible rfl))) | (refine wpAnyH_take (i := 1) (v := undef) (Reg.get rfl) (by kernel_rfl) (by kernel_rfl) (by kernel_rfl) (fun _ _ _ h => h) (Or.inr ⟨by rfl, rfl⟩) hHeld ?_)
    try simp only [Act.put, List.setIfInBounds_toArray, List.set_cons_zero, List.set_cons_succ]
    first | (refine wpAnyH_take (i := 2) (v := ?_) (Reg.get rfl) (by kernel_rfl) (by kernel_rfl) (by kernel_rfl) (fun _ _ _ h => h) (Or.inl ⟨by rfl, ?_⟩) hHeld ?_; rotate_left 1; (focus (intro wq hSw; (try dsimp only at hSw); have s_rx := hSw; have L_rx := Lay.c4 s_rx;  go_simp <;> with_reducible rfl))) | (refine wpAnyH_take (i := 2) (v := undef) (Reg.get rfl) (by kernel_rfl) (by kernel_rfl) (by kernel_rfl) (fun _ _ _ h => h) (Or.inr ⟨by rfl, rfl⟩) hHeld ?_)
    try simp only [Act.put, List.setIfInBounds_toArray, List.set_cons_zero, List.set_cons_succ]
    first | ((refine wpAnyH_take (i := 3) (v := undef) (Reg.get rfl) (by kernel_rfl) (by kernel_rfl) (by kernel_rfl) (fun _ _ _ h => h) (Or.inr ⟨by rfl, rfl⟩) hHeld ?_)) | (refine wpAnyH_ready (rs := [3]) (by kernel_rfl) (by simp) ?_; refine AllReadyH.cons (Reg.get rfl) (fun K hK => ?_) AllReadyH.nil; clear hHeld; go_simp; (skip); refine hK.out _ _ ?_ (fun hHeld => ?_); ((try dsimp only); (repeat (first | with_reducible assumption | (with_reducible apply Bk.Blk.newAt; focus (first | (simp [Bk.size_set]; done) | (simp [Bk.size_set]; omega))) | with_reducible apply Bk.Blk.drewN | with_reducible apply Bk.Blk.drew | with_reducible apply Bk.Blk.set_ | (with_reducible apply Bk.Blk.far; focus (dsimp only; first | omega | (simp; omega) | (simp; done))) | with_reducible apply Bk.Blk.alloc))); clear hK K)
    try simp only [Act.put, List.setIfInBounds_toArray, List.set_cons_zero, List.set_cons_succ]
    first | ((refine wpAnyH_take (i := 4) (v := undef) (Reg.get rfl) (by kernel_rfl) (by kernel_rfl) (by kernel_rfl) (fun _ _ _ h => h) (Or.inr ⟨by rfl, rfl⟩) hHeld ?_)) | (refine wpAnyH_ready (rs := [4]) (by kernel_rfl) (by simp) ?_; refine AllReadyH.cons (Reg.get rfl) (fun K hK => ?_) AllReadyH.nil; clear hHeld; go_simp; ((go_at_call 34; refine (l1Int_any A n c bs _ _ 4 4 [0, 5, 20, 100] _ (by (repeat (first | with_reducible assumption | with_reducible apply Cur.Cur.alloc | with_reducible apply CurB.cur_drewN | with_reducible apply CurB.cur_drew | ((with_reducible refine CurB.cur_set HAL.out ?_ ?_ ?_ _); (focus (first | omega | (dsimp only; done) | (dsimp only; omega))); (focus (first | omega | (dsimp only; omega))))))) (by exact Rd.drew (Rd.litAt _ (([0, 5, 20, 100] : List Int).map (Value.int .i64)) _ 4 _ rfl rfl (by unfold maxLen; omega))) (fun e => by simp [blk] at e; have := C.lt; omega) (by omega) (by omega)).mono ?_; rintro e w5 ⟨y, hy, rfl, C0, hg0⟩; have HO5 := Lib.hid (own_grown2 (own_drew (own_alloc HO4.out _)) hg0 (fun q hq => by have := (HLT3.out q hq).1; omega)); have HY2 := Lib.hid (four_in y hy); clear hy; clear L_rx L_rc; replace rc : Bk.Blk w5 (w.heap.size) 38 #[.int .i64 0, .int .i64 0, .int .i64 0, .slice none 0 0] := Bk.Blk.grown hg0 (by omega) (by (repeat (first | with_reducible assumption | (with_reducible apply Bk.Blk.newAt; focus (first | (simp [Bk.size_set]; done) | (simp [Bk.size_set]; omega))) | with_reducible apply Bk.Blk.drewN | with_reducible apply Bk.Blk.drew | with_reducible apply Bk.Blk.set_ | (with_reducible apply Bk.Blk.far; focus (dsimp only; first | omega | (simp; omega) | (simp; done))) | with_reducible apply Bk.Blk.alloc))); replace rx : Bk.Blk w5 (w2.heap.size) 38 #[.int .i64 0, .int .i64 a, .int .i64 t, .slice L m d] := Bk.Blk.grown hg0 (by omega) (by (repeat (first | with_reducible assumption | (with_reducible apply Bk.Blk.newAt; focus (first | (simp [Bk.size_set]; done) | (simp [Bk.size_set]; omega))) | with_reducible apply Bk.Blk.drewN | with_reducible apply Bk.Blk.drew | with_reducible apply Bk.Blk.set_ | (with_reducible apply Bk.Blk.far; focus (dsimp only; first | omega | (simp; omega) | (simp; done))) | with_reducible apply Bk.Blk.alloc))); replace C := C0; replace B : Below w.heap.size w w5 := Bk.below_grown (by go_grown) hg0 (by omega) (by first | omega | (simp [Bk.size_set]; done) | (simp [Bk.size_set]; omega)); have z5 := hg0.size; (try simp only [World.size_alloc, Bk.size_set, World.size_drew, World.drewN] at z5); clear hg0; have L_rx := Lay.f4 rx; have L_rc := Lay.f4 rc)); refine hK.out _ _ ?_ (fun hHeld => ?_); ((try dsimp only); (repeat (first | with_reducible assumption | (with_reducible apply Bk.Blk.newAt; focus (first | (simp [Bk.size_set]; done) | (simp [Bk.size_set]; omega))) | with_reducible apply Bk.Blk.drewN | with_reducible apply Bk.Blk.drew | with_reducible apply Bk.Blk.set_ | (with_reducible apply Bk.Blk.far; focus (dsimp only; first | omega | (simp; omega) | (simp; done))) | with_reducible apply Bk.Blk.alloc))); clear hK K)
    try simp only [Act.put, List.setIfInBounds_toArray, List.set_cons_zero, List.set_cons_succ]
    first | ((refine wpAnyH_take (i := 5) (v := undef) (Reg.get rfl) (by kernel_rfl) (by kernel_rfl) (by kernel_rfl) (fun _ _ _ h => h) (Or.inr ⟨by rfl, rfl⟩) hHeld ?_)) | (refine wpAnyH_ready (rs := [5]) (by kernel_rfl) (by simp) ?_; refine AllReadyH.cons (Reg.get rfl) (fun K hK => ?_) AllReadyH.nil; clear hHeld; go_simp; (skip); refine hK.out _ _ ?_ (fun hHeld => ?_); ((try dsimp only); (repeat (first | with_reducible assumption | (with_reducible apply Bk.Blk.newAt; focus (first | (simp [Bk.size_set]; done) | (simp [Bk.size_set]; omega))) | with_reducible apply Bk.Blk.drewN | with_reducible apply Bk.Blk.drew | with_reducible apply Bk.Blk.set_ | (with_reducible apply Bk.Blk.far; focus (dsimp only; first | omega | (simp; omega) | (simp; done))) | with_reducible apply Bk.Blk.alloc))); clear hK K)
    try simp only [Act.put, List.setIfInBounds_toArray, List.set_cons_zero, List.set_cons_succ]
    first | (refine wpAnyH_take (i := 6) (v := ?_) (Reg.get rfl) (by kernel_rfl) (by kernel_rfl) (by kernel_rfl) (fun _ _ _ h => h) (Or.inl ⟨by rfl, ?_⟩) hHeld ?_; rotate_left 1; (focus (intro wq hSw; (try dsimp only at hSw); have s_rx := hSw; have L_rx := Lay.c4 s_rx;  go_simp <;> with_reducible rfl))) | (refine wpAnyH_take (i := 6) (v := undef) (Reg.get rfl) (by kernel_rfl) (by kernel_rfl) (by kernel_rfl) (fun _ _ _ h => h) (Or.inr ⟨by rfl, rfl⟩) hHeld ?_)
    try simp only [Act.put, List.setIfInBounds_toArray, List.set_cons_zero, List.set_cons_succ]
    first | (refine wpAnyH_take (i := 7) (v := ?_) (Reg.get rfl) (by kernel_rfl) (by kernel_rfl) (by kernel_rfl) (fun _ _ _ h => h) (Or.inl ⟨by rfl, ?_⟩) hHeld ?_; rotate_left 1; (focus (intro wq hSw; (try dsimp only at hSw); have s_rx := hSw; have L_rx := Lay.c4 s_rx;  go_simp <;> with_reducible rfl))) | (refine wpAnyH_take (i := 7) (v := undef) (Reg.get rfl) (by kernel_rfl) (by kernel_rfl) (by kernel_rfl) (fun _ _ _ h => h) (Or.inr ⟨by rfl, rfl⟩) hHeld ?_)
    try simp only [Act.put, List.setIfInBounds_toArray, List.set_cons_zero, List.set_cons_succ]
    refine wpAnyH_done (by kernel_rfl) ?_ _
    clear L_rx L_rc
    generalize hW : World.setCell _ _ _ = w6
    replace rc : Bk.Blk w6 (w.heap.size) 38 #[.int .i64 0, .int .i64 a, .int .i64 t, .slice L m d] := (by rw [← hW]; apply Bk.Blk.to; (focus ((repeat (first | with_reducible assumption | (with_reducible apply Bk.Blk.newAt; focus (first | (simp [Bk.size_set]; done) | (simp [Bk.size_set]; omega))) | with_reducible apply Bk.Blk.drewN | with_reducible apply Bk.Blk.drew | with_reducible apply Bk.Blk.set_ | (with_reducible apply Bk.Blk.far; focus (dsimp only; first | omega | (simp; omega) | (simp; done))) | with_reducible apply Bk.Blk.alloc)))); rfl)
    have HO6 : Hid (w6.ownsRow w.heap.size 30 4 (.slice L m d) m (ys.map (Value.int .i64))) := by
      refine Lib.hid ?_
      rw [← hW]
      exact ownsRow_mono (own_set4 HO5.out (by omega) _ _ _ _) (by omega)
    replace B : Below w.heap.size w w6 := (by rw [← hW]; go_grown)
    have z6 : w6.heap.size = _ := congrArg (fun W : World => W.heap.size) hW.symm
    (try simp only [World.size_alloc, Bk.size_set, World.size_drew, World.drewN] at z6)
    clear hW
    have L_rc := Lay.c4 rc
    go_wp2
    refine bodyPost_ret (v := .tuple #[.agg #[.int .i64 0, .int .i64 a, .int .i64 t, .slice L m d], .int .i64 x, .int .i64 y]) (by simp [results, Try.results16, go_sem, L_rc]) rfl (⟨0, a, t, x, y, m, ys, L, d, H00.out, HA.out, HT.out, HX.out, HY2.out, hm, HY.out, HO6.out, rfl, B⟩)
end Go.Proofs.Ytikolopdkjocgaa.Cl
