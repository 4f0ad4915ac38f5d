/- Contracts of the handshake's messages: code, sign, verify, convert, compare. -/
import Derived.Test.YtmhcbiipbilakaaKeys
import Derived.Laws.StructEq
namespace Go.Proofs.Ytmhcbiipbilakaa.Hand
open Go.RowKit
open Go.Proofs.Ytmhcbiipbilakaa.Num Go.Proofs.Ytmhcbiipbilakaa.Mem Go.Proofs.Ytmhcbiipbilakaa.Hsh Go.Proofs.Ytmhcbiipbilakaa.Keys
set_option linter.unusedSimpArgs false

theorem set_same {w : World} {b o : Nat} {u v : Value} (h : w.cell? ⟨b, o, none⟩ = some u) : (w.setCell ⟨b, o, none⟩ v).cell? ⟨b, o, none⟩ = some v := World.cell?_setCell_same _ _ _ h
theorem set_next {w : World} {b o p : Nat} {u v : Value} (hne : o ≠ p) (h : w.cell? ⟨b, p, none⟩ = some u) : (w.setCell ⟨b, o, none⟩ v).cell? ⟨b, p, none⟩ = some u := (World.cell?_setCell_other w _ _ v (fun e => hne (by injection e))).trans h
theorem set_blk {w : World} {b d o p : Nat} {u v : Value} (hne : d ≠ b) (h : w.cell? ⟨b, p, none⟩ = some u) : (w.setCell ⟨d, o, none⟩ v).cell? ⟨b, p, none⟩ = some u := (World.cell?_setCell_other w _ _ v (fun e => hne (by injection e))).trans h
theorem same5 {w : World} {b : Nat} {u0 u1 u2 u3 u4 : Value} (v0 v1 v2 v3 v4 : Value) (h0 : w.cell? ⟨b, 0, none⟩ = some u0) (h1 : w.cell? ⟨b, 1, none⟩ = some u1) (h2 : w.cell? ⟨b, 2, none⟩ = some u2) (h3 : w.cell? ⟨b, 3, none⟩ = some u3) (h4 : w.cell? ⟨b, 4, none⟩ = some u4) :
    (w.setCell ⟨b, 0, none⟩ v0).cell? ⟨b, 0, none⟩ = some v0 ∧ ((w.setCell ⟨b, 0, none⟩ v0).setCell ⟨b, 1, none⟩ v1).cell? ⟨b, 1, none⟩ = some v1 ∧ (((w.setCell ⟨b, 0, none⟩ v0).setCell ⟨b, 1, none⟩ v1).setCell ⟨b, 2, none⟩ v2).cell? ⟨b, 2, none⟩ = some v2 ∧
    ((((w.setCell ⟨b, 0, none⟩ v0).setCell ⟨b, 1, none⟩ v1).setCell ⟨b, 2, none⟩ v2).setCell ⟨b, 3, none⟩ v3).cell? ⟨b, 3, none⟩ = some v3 ∧ (((((w.setCell ⟨b, 0, none⟩ v0).setCell ⟨b, 1, none⟩ v1).setCell ⟨b, 2, none⟩ v2).setCell ⟨b, 3, none⟩ v3).setCell ⟨b, 4, none⟩ v4).cell? ⟨b, 4, none⟩ = some v4 :=
  ⟨set_same h0, set_same (set_next (by omega) h1), set_same (set_next (by omega) (set_next (by omega) h2)), set_same (set_next (by omega) (set_next (by omega) (set_next (by omega) h3))), set_same (set_next (by omega) (set_next (by omega) (set_next (by omega) (set_next (by omega) h4))))⟩

set_option maxRecDepth 100000 in
set_option maxHeartbeats 1000000 in
theorem mac_impl (k n r c g m : Int) (w : World) (hk : I64 k) (hn : I64 n) (hr : I64 r) (hc : I64 c) (hg : I64 g) : Calls Try.prog 43 #[.int .i64 k, .agg #[.int .i64 n, .int .i64 r, .int .i64 c, .int .i64 g, .int .i64 m]] w fun x w' => x = .returned (.int .i64 (macM k [43, n, r, c, g])) ∧ Below w.heap.size w w' := by
  have HW := Lib.hid (wf5 (c64 43 (by omega)) hn hr hc hg)
  have H0 := Lib.hid hk
  clear hk hn hr hc hg
  go_enter Try.func43, Try.ntmps43
  go_wp2_with (first
    | (go_at_call 41; refine (keyedHash_impl _ _ 5 5 [43, n, r, c, g] _ (by exact Rd.litAt _ [.int .i64 43, .int .i64 n, .int .i64 r, .int .i64 c, .int .i64 g] _ 5 _ (by simp) rfl (by unfold maxLen; omega)) (by omega) H0.out HW.out).mono ?_; rintro x w1 ⟨rfl, hb⟩; have HB := Lib.hid hb; clear hb))
  go_ret
  exact ⟨rfl, Below.trans (by go_grown) (HB.out.mono (by simp; omega))⟩
set_option maxHeartbeats 1000000 in
theorem verify_impl (k n r c g m : Int) (w : World) (hk : I64 k) (hn : I64 n) (hr : I64 r) (hc : I64 c) (hg : I64 g) : Calls Try.prog 21 #[.int .i64 k, .agg #[.int .i64 n, .int .i64 r, .int .i64 c, .int .i64 g, .int .i64 m]] w fun x w' => x = .returned (.bool (m == macM k [43, n, r, c, g])) ∧ Below w.heap.size w w' := by
  have H0 := Lib.hid hk
  have H1 := Lib.hid hn
  have H2 := Lib.hid hr
  have H3 := Lib.hid hc
  have H4 := Lib.hid hg
  clear hk hn hr hc hg
  obtain ⟨w0, hW⟩ : ∃ W, W = w.alloc (.cells #[.int .i64 n, .int .i64 r, .int .i64 c, .int .i64 g, .int .i64 m] 29) := ⟨_, rfl⟩
  have q0 : w0.cell? ⟨w.heap.size, 0, none⟩ = some (.int .i64 n) := by rw [hW]; simp [World.cell?_alloc_at]
  have q1 : w0.cell? ⟨w.heap.size, 1, none⟩ = some (.int .i64 r) := by rw [hW]; simp [World.cell?_alloc_at]
  have q2 : w0.cell? ⟨w.heap.size, 2, none⟩ = some (.int .i64 c) := by rw [hW]; simp [World.cell?_alloc_at]
  have q3 : w0.cell? ⟨w.heap.size, 3, none⟩ = some (.int .i64 g) := by rw [hW]; simp [World.cell?_alloc_at]
  have q4 : w0.cell? ⟨w.heap.size, 4, none⟩ = some (.int .i64 m) := by rw [hW]; simp [World.cell?_alloc_at]
  have B : Below w.heap.size w w0 := by rw [hW]; exact (Below.refl _ _).alloc (Nat.le_refl _) _
  have HW := Lib.hid hW
  clear hW
  go_enter Try.func21, Try.ntmps21
  go_wp2_with fail
  rw [← HW.out]
  clear HW
  go_region_held3 (fun w' => w'.cell? ⟨w.heap.size, 0, none⟩ = some (.int .i64 n) ∧ w'.cell? ⟨w.heap.size, 1, none⟩ = some (.int .i64 r) ∧ w'.cell? ⟨w.heap.size, 2, none⟩ = some (.int .i64 c) ∧ w'.cell? ⟨w.heap.size, 3, none⟩ = some (.int .i64 g) ∧ w'.cell? ⟨w.heap.size, 4, none⟩ = some (.int .i64 m)) (first | exact ⟨q0, q1, q2, q3, q4⟩ | go_keep) (first | (go_at_call 43; refine (mac_impl _ _ _ _ _ _ _ H0.out H1.out H2.out H3.out H4.out).mono ?_; rintro x wn ⟨rfl, hb0⟩; replace q0 := Mem.lift hb0 q0; replace q1 := Mem.lift hb0 q1; replace q2 := Mem.lift hb0 q2; replace q3 := Mem.lift hb0 q3; replace q4 := Mem.lift hb0 q4; replace B := (by first | exact stepB B hb0 B.size | exact stepB B.drew hb0 B.size | exact stepB (B.trans (by go_grown)) hb0 (by have := B.size; simp; omega)); clear hb0))
  go_wp2
  go_ret
  exact ⟨rfl, B⟩
set_option maxHeartbeats 1000000 in
theorem sign_impl (k n r c g m : Int) (w : World) (hk : I64 k) (hn : I64 n) (hr : I64 r) (hc : I64 c) (hg : I64 g) : Calls Try.prog 23 #[.int .i64 k, .agg #[.int .i64 n, .int .i64 r, .int .i64 c, .int .i64 g, .int .i64 m]] w fun x w' => x = .returned (.agg #[.int .i64 n, .int .i64 r, .int .i64 c, .int .i64 g, .int .i64 (macM k [43, n, r, c, g])]) ∧ Below w.heap.size w w' := by
  have H0 := Lib.hid hk
  have H1 := Lib.hid hn
  have H2 := Lib.hid hr
  have H3 := Lib.hid hc
  have H4 := Lib.hid hg
  clear hk hn hr hc hg
  go_enter Try.func23, Try.ntmps23
  go_wp2_with fail
  refine (mac_impl _ _ _ _ _ _ _ H0.out H1.out H2.out H3.out H4.out).mono ?_
  rintro x w1 ⟨rfl, hb⟩
  have HB := Lib.hid hb
  obtain ⟨hc, hf⟩ := bcells hb
  have z0 := hb.size
  simp at z0
  have q0 : w1.cell? ⟨w.heap.size, 0, none⟩ = some (.int .i64 n) := (hc _ _ (by simp <;> omega)).trans (by first | (simp; done) | (simp [World.cell?_alloc_at]; done) | (rw [World.cell?_alloc_old _ _ _ (by simp <;> omega)]; first | (simp; done) | (simp [World.cell?_alloc_at]; done)))
  have q1 : w1.cell? ⟨w.heap.size, 1, none⟩ = some (.int .i64 r) := (hc _ _ (by simp <;> omega)).trans (by first | (simp; done) | (simp [World.cell?_alloc_at]; done) | (rw [World.cell?_alloc_old _ _ _ (by simp <;> omega)]; first | (simp; done) | (simp [World.cell?_alloc_at]; done)))
  have q2 : w1.cell? ⟨w.heap.size, 2, none⟩ = some (.int .i64 c) := (hc _ _ (by simp <;> omega)).trans (by first | (simp; done) | (simp [World.cell?_alloc_at]; done) | (rw [World.cell?_alloc_old _ _ _ (by simp <;> omega)]; first | (simp; done) | (simp [World.cell?_alloc_at]; done)))
  have q3 : w1.cell? ⟨w.heap.size, 3, none⟩ = some (.int .i64 g) := (hc _ _ (by simp <;> omega)).trans (by first | (simp; done) | (simp [World.cell?_alloc_at]; done) | (rw [World.cell?_alloc_old _ _ _ (by simp <;> omega)]; first | (simp; done) | (simp [World.cell?_alloc_at]; done)))
  have q4 : w1.cell? ⟨w.heap.size, 4, none⟩ = some (.int .i64 m) := (hc _ _ (by simp <;> omega)).trans (by first | (simp; done) | (simp [World.cell?_alloc_at]; done) | (rw [World.cell?_alloc_old _ _ _ (by simp <;> omega)]; first | (simp; done) | (simp [World.cell?_alloc_at]; done)))
  have p0 : w1.cell? ⟨w.heap.size + 1, 0, none⟩ = some (.int .i64 0) := (hc _ _ (by simp <;> omega)).trans (by first | (simp; done) | (simp [World.cell?_alloc_at]; done) | (rw [World.cell?_alloc_old _ _ _ (by simp <;> omega)]; first | (simp; done) | (simp [World.cell?_alloc_at]; done)))
  have p1 : w1.cell? ⟨w.heap.size + 1, 1, none⟩ = some (.int .i64 0) := (hc _ _ (by simp <;> omega)).trans (by first | (simp; done) | (simp [World.cell?_alloc_at]; done) | (rw [World.cell?_alloc_old _ _ _ (by simp <;> omega)]; first | (simp; done) | (simp [World.cell?_alloc_at]; done)))
  have p2 : w1.cell? ⟨w.heap.size + 1, 2, none⟩ = some (.int .i64 0) := (hc _ _ (by simp <;> omega)).trans (by first | (simp; done) | (simp [World.cell?_alloc_at]; done) | (rw [World.cell?_alloc_old _ _ _ (by simp <;> omega)]; first | (simp; done) | (simp [World.cell?_alloc_at]; done)))
  have p3 : w1.cell? ⟨w.heap.size + 1, 3, none⟩ = some (.int .i64 0) := (hc _ _ (by simp <;> omega)).trans (by first | (simp; done) | (simp [World.cell?_alloc_at]; done) | (rw [World.cell?_alloc_old _ _ _ (by simp <;> omega)]; first | (simp; done) | (simp [World.cell?_alloc_at]; done)))
  have p4 : w1.cell? ⟨w.heap.size + 1, 4, none⟩ = some (.int .i64 0) := (hc _ _ (by simp <;> omega)).trans (by first | (simp; done) | (simp [World.cell?_alloc_at]; done) | (rw [World.cell?_alloc_old _ _ _ (by simp <;> omega)]; first | (simp; done) | (simp [World.cell?_alloc_at]; done)))
  have f4 : w1.frozen? ⟨w.heap.size, 4, none⟩ = false := (hf _ _ (by simp <;> omega)).trans (by first | (simp [World.frozen?_alloc_at]; done) | (rw [World.frozen?_alloc_old _ _ _ (by simp <;> omega)]; first | (simp [World.frozen?_alloc_at]; done) | (rw [World.frozen?_alloc_old _ _ _ (by simp <;> omega)]; simp [World.frozen?_alloc_at]; done)))
  have r0 : w1.frozen? ⟨w.heap.size + 1, 0, none⟩ = false := (hf _ _ (by simp <;> omega)).trans (by first | (simp [World.frozen?_alloc_at]; done) | (rw [World.frozen?_alloc_old _ _ _ (by simp <;> omega)]; first | (simp [World.frozen?_alloc_at]; done) | (rw [World.frozen?_alloc_old _ _ _ (by simp <;> omega)]; simp [World.frozen?_alloc_at]; done)))
  have r1 : w1.frozen? ⟨w.heap.size + 1, 1, none⟩ = false := (hf _ _ (by simp <;> omega)).trans (by first | (simp [World.frozen?_alloc_at]; done) | (rw [World.frozen?_alloc_old _ _ _ (by simp <;> omega)]; first | (simp [World.frozen?_alloc_at]; done) | (rw [World.frozen?_alloc_old _ _ _ (by simp <;> omega)]; simp [World.frozen?_alloc_at]; done)))
  have r2 : w1.frozen? ⟨w.heap.size + 1, 2, none⟩ = false := (hf _ _ (by simp <;> omega)).trans (by first | (simp [World.frozen?_alloc_at]; done) | (rw [World.frozen?_alloc_old _ _ _ (by simp <;> omega)]; first | (simp [World.frozen?_alloc_at]; done) | (rw [World.frozen?_alloc_old _ _ _ (by simp <;> omega)]; simp [World.frozen?_alloc_at]; done)))
  have r3 : w1.frozen? ⟨w.heap.size + 1, 3, none⟩ = false := (hf _ _ (by simp <;> omega)).trans (by first | (simp [World.frozen?_alloc_at]; done) | (rw [World.frozen?_alloc_old _ _ _ (by simp <;> omega)]; first | (simp [World.frozen?_alloc_at]; done) | (rw [World.frozen?_alloc_old _ _ _ (by simp <;> omega)]; simp [World.frozen?_alloc_at]; done)))
  have r4 : w1.frozen? ⟨w.heap.size + 1, 4, none⟩ = false := (hf _ _ (by simp <;> omega)).trans (by first | (simp [World.frozen?_alloc_at]; done) | (rw [World.frozen?_alloc_old _ _ _ (by simp <;> omega)]; first | (simp [World.frozen?_alloc_at]; done) | (rw [World.frozen?_alloc_old _ _ _ (by simp <;> omega)]; simp [World.frozen?_alloc_at]; done)))
  try (have e4 := hf (w.heap.size + 1 + 1) 4 (by simp <;> omega); simp [World.frozen?_alloc_at] at e4; have s0 : w1.cell? ⟨w.heap.size + 1 + 1, 0, none⟩ = some (.int .i64 n) := (hc _ _ (by simp <;> omega)).trans (by first | (simp; done) | (simp [World.cell?_alloc_at]; done) | (rw [World.cell?_alloc_old _ _ _ (by simp <;> omega)]; first | (simp; done) | (simp [World.cell?_alloc_at]; done))); have s1 : w1.cell? ⟨w.heap.size + 1 + 1, 1, none⟩ = some (.int .i64 r) := (hc _ _ (by simp <;> omega)).trans (by first | (simp; done) | (simp [World.cell?_alloc_at]; done) | (rw [World.cell?_alloc_old _ _ _ (by simp <;> omega)]; first | (simp; done) | (simp [World.cell?_alloc_at]; done))); have s2 : w1.cell? ⟨w.heap.size + 1 + 1, 2, none⟩ = some (.int .i64 c) := (hc _ _ (by simp <;> omega)).trans (by first | (simp; done) | (simp [World.cell?_alloc_at]; done) | (rw [World.cell?_alloc_old _ _ _ (by simp <;> omega)]; first | (simp; done) | (simp [World.cell?_alloc_at]; done))); have s3 : w1.cell? ⟨w.heap.size + 1 + 1, 3, none⟩ = some (.int .i64 g) := (hc _ _ (by simp <;> omega)).trans (by first | (simp; done) | (simp [World.cell?_alloc_at]; done) | (rw [World.cell?_alloc_old _ _ _ (by simp <;> omega)]; first | (simp; done) | (simp [World.cell?_alloc_at]; done))); have s4 : w1.cell? ⟨w.heap.size + 1 + 1, 4, none⟩ = some (.int .i64 m) := (hc _ _ (by simp <;> omega)).trans (by first | (simp; done) | (simp [World.cell?_alloc_at]; done) | (rw [World.cell?_alloc_old _ _ _ (by simp <;> omega)]; first | (simp; done) | (simp [World.cell?_alloc_at]; done)))); clear hb hf hc
  go_wp2
  obtain ⟨k0, k1, k2, k3, k4⟩ := same5 (w := w1.setCell ⟨w.heap.size, 4, none⟩ (.int .i64 (macM k [43, n, r, c, g]))) (b := w.heap.size + 1) (.int .i64 n) (.int .i64 r) (.int .i64 c) (.int .i64 g) (.int .i64 (macM k [43, n, r, c, g])) (set_blk (by omega) p0) (set_blk (by omega) p1) (set_blk (by omega) p2) (set_blk (by omega) p3) (set_blk (by omega) p4)
  have j4 := set_same (v := .int .i64 (macM k [43, n, r, c, g])) q4
  refine bodyPost_ret (v := .agg #[.int .i64 n, .int .i64 r, .int .i64 c, .int .i64 g, .int .i64 (macM k [43, n, r, c, g])]) (by simp [results, Try.results23, go_sem, k0, k1, k2, k3, k4]) rfl ?_
  exact ⟨rfl, Below.trans (show Below w.heap.size w w1 from Below.trans (by go_grown) (HB.out.mono (by simp <;> omega))) (by go_grown)⟩
set_option maxRecDepth 100000 in
set_option maxHeartbeats 1000000 in
theorem mac_spec (k n r c g m : Int) (w : World) (hk : I64 k) (hn : I64 n) (hr : I64 r) (hc : I64 c) (hg : I64 g) : Calls Try.prog 42 #[.int .i64 k, .agg #[.int .i64 n, .int .i64 r, .int .i64 c, .int .i64 g, .int .i64 m]] w fun x w' => x = .returned (.int .i64 (macM k [43, n, r, c, g])) ∧ Below w.heap.size w w' := by
  have HW := Lib.hid (wf5 (c64 43 (by omega)) hn hr hc hg)
  have H0 := Lib.hid hk
  clear hk hn hr hc hg
  go_enter Try.func42, Try.ntmps42
  go_wp2_with (first
    | (go_at_call 39; refine (keyedHash_spec _ _ 5 5 [43, n, r, c, g] _ (by exact Rd.litAt _ [.int .i64 43, .int .i64 n, .int .i64 r, .int .i64 c, .int .i64 g] _ 5 _ (by simp) rfl (by unfold maxLen; omega)) (by omega) H0.out HW.out).mono ?_; rintro x w1 ⟨rfl, hb⟩; have HB := Lib.hid hb; clear hb))
  go_ret
  exact ⟨rfl, Below.trans (by go_grown) (HB.out.mono (by simp; omega))⟩
set_option maxHeartbeats 1000000 in
theorem verify_spec (k n r c g m : Int) (w : World) (hk : I64 k) (hn : I64 n) (hr : I64 r) (hc : I64 c) (hg : I64 g) : Calls Try.prog 19 #[.int .i64 k, .agg #[.int .i64 n, .int .i64 r, .int .i64 c, .int .i64 g, .int .i64 m]] w fun x w' => x = .returned (.bool (m == macM k [43, n, r, c, g])) ∧ Below w.heap.size w w' := by
  have H0 := Lib.hid hk
  have H1 := Lib.hid hn
  have H2 := Lib.hid hr
  have H3 := Lib.hid hc
  have H4 := Lib.hid hg
  clear hk hn hr hc hg
  obtain ⟨w0, hW⟩ : ∃ W, W = w.alloc (.cells #[.int .i64 n, .int .i64 r, .int .i64 c, .int .i64 g, .int .i64 m] 29) := ⟨_, rfl⟩
  have q0 : w0.cell? ⟨w.heap.size, 0, none⟩ = some (.int .i64 n) := by rw [hW]; simp [World.cell?_alloc_at]
  have q1 : w0.cell? ⟨w.heap.size, 1, none⟩ = some (.int .i64 r) := by rw [hW]; simp [World.cell?_alloc_at]
  have q2 : w0.cell? ⟨w.heap.size, 2, none⟩ = some (.int .i64 c) := by rw [hW]; simp [World.cell?_alloc_at]
  have q3 : w0.cell? ⟨w.heap.size, 3, none⟩ = some (.int .i64 g) := by rw [hW]; simp [World.cell?_alloc_at]
  have q4 : w0.cell? ⟨w.heap.size, 4, none⟩ = some (.int .i64 m) := by rw [hW]; simp [World.cell?_alloc_at]
  have B : Below w.heap.size w w0 := by rw [hW]; exact (Below.refl _ _).alloc (Nat.le_refl _) _
  have HW := Lib.hid hW
  clear hW
  go_enter Try.func19, Try.ntmps19
  go_wp2_with fail
  rw [← HW.out]
  clear HW
  go_region_held3 (fun w' => w'.cell? ⟨w.heap.size, 0, none⟩ = some (.int .i64 n) ∧ w'.cell? ⟨w.heap.size, 1, none⟩ = some (.int .i64 r) ∧ w'.cell? ⟨w.heap.size, 2, none⟩ = some (.int .i64 c) ∧ w'.cell? ⟨w.heap.size, 3, none⟩ = some (.int .i64 g) ∧ w'.cell? ⟨w.heap.size, 4, none⟩ = some (.int .i64 m)) (first | exact ⟨q0, q1, q2, q3, q4⟩ | go_keep) (first | (go_at_call 42; refine (mac_spec _ _ _ _ _ _ _ H0.out H1.out H2.out H3.out H4.out).mono ?_; rintro x wn ⟨rfl, hb0⟩; replace q0 := Mem.lift hb0 q0; replace q1 := Mem.lift hb0 q1; replace q2 := Mem.lift hb0 q2; replace q3 := Mem.lift hb0 q3; replace q4 := Mem.lift hb0 q4; replace B := (by first | exact stepB B hb0 B.size | exact stepB B.drew hb0 B.size | exact stepB (B.trans (by go_grown)) hb0 (by have := B.size; simp; omega)); clear hb0))
  go_wp2
  go_ret
  exact ⟨rfl, B⟩
set_option maxHeartbeats 1000000 in
theorem sign_spec (k n r c g m : Int) (w : World) (hk : I64 k) (hn : I64 n) (hr : I64 r) (hc : I64 c) (hg : I64 g) : Calls Try.prog 22 #[.int .i64 k, .agg #[.int .i64 n, .int .i64 r, .int .i64 c, .int .i64 g, .int .i64 m]] w fun x w' => x = .returned (.agg #[.int .i64 n, .int .i64 r, .int .i64 c, .int .i64 g, .int .i64 (macM k [43, n, r, c, g])]) ∧ Below w.heap.size w w' := by
  have H0 := Lib.hid hk
  have H1 := Lib.hid hn
  have H2 := Lib.hid hr
  have H3 := Lib.hid hc
  have H4 := Lib.hid hg
  clear hk hn hr hc hg
  go_enter Try.func22, Try.ntmps22
  go_wp2_with fail
  refine (mac_spec _ _ _ _ _ _ _ H0.out H1.out H2.out H3.out H4.out).mono ?_
  rintro x w1 ⟨rfl, hb⟩
  have HB := Lib.hid hb
  obtain ⟨hc, hf⟩ := bcells hb
  have z0 := hb.size
  simp at z0
  have q0 : w1.cell? ⟨w.heap.size, 0, none⟩ = some (.int .i64 n) := (hc _ _ (by simp <;> omega)).trans (by first | (simp; done) | (simp [World.cell?_alloc_at]; done) | (rw [World.cell?_alloc_old _ _ _ (by simp <;> omega)]; first | (simp; done) | (simp [World.cell?_alloc_at]; done)))
  have q1 : w1.cell? ⟨w.heap.size, 1, none⟩ = some (.int .i64 r) := (hc _ _ (by simp <;> omega)).trans (by first | (simp; done) | (simp [World.cell?_alloc_at]; done) | (rw [World.cell?_alloc_old _ _ _ (by simp <;> omega)]; first | (simp; done) | (simp [World.cell?_alloc_at]; done)))
  have q2 : w1.cell? ⟨w.heap.size, 2, none⟩ = some (.int .i64 c) := (hc _ _ (by simp <;> omega)).trans (by first | (simp; done) | (simp [World.cell?_alloc_at]; done) | (rw [World.cell?_alloc_old _ _ _ (by simp <;> omega)]; first | (simp; done) | (simp [World.cell?_alloc_at]; done)))
  have q3 : w1.cell? ⟨w.heap.size, 3, none⟩ = some (.int .i64 g) := (hc _ _ (by simp <;> omega)).trans (by first | (simp; done) | (simp [World.cell?_alloc_at]; done) | (rw [World.cell?_alloc_old _ _ _ (by simp <;> omega)]; first | (simp; done) | (simp [World.cell?_alloc_at]; done)))
  have q4 : w1.cell? ⟨w.heap.size, 4, none⟩ = some (.int .i64 m) := (hc _ _ (by simp <;> omega)).trans (by first | (simp; done) | (simp [World.cell?_alloc_at]; done) | (rw [World.cell?_alloc_old _ _ _ (by simp <;> omega)]; first | (simp; done) | (simp [World.cell?_alloc_at]; done)))
  have p0 : w1.cell? ⟨w.heap.size + 1, 0, none⟩ = some (.int .i64 0) := (hc _ _ (by simp <;> omega)).trans (by first | (simp; done) | (simp [World.cell?_alloc_at]; done) | (rw [World.cell?_alloc_old _ _ _ (by simp <;> omega)]; first | (simp; done) | (simp [World.cell?_alloc_at]; done)))
  have p1 : w1.cell? ⟨w.heap.size + 1, 1, none⟩ = some (.int .i64 0) := (hc _ _ (by simp <;> omega)).trans (by first | (simp; done) | (simp [World.cell?_alloc_at]; done) | (rw [World.cell?_alloc_old _ _ _ (by simp <;> omega)]; first | (simp; done) | (simp [World.cell?_alloc_at]; done)))
  have p2 : w1.cell? ⟨w.heap.size + 1, 2, none⟩ = some (.int .i64 0) := (hc _ _ (by simp <;> omega)).trans (by first | (simp; done) | (simp [World.cell?_alloc_at]; done) | (rw [World.cell?_alloc_old _ _ _ (by simp <;> omega)]; first | (simp; done) | (simp [World.cell?_alloc_at]; done)))
  have p3 : w1.cell? ⟨w.heap.size + 1, 3, none⟩ = some (.int .i64 0) := (hc _ _ (by simp <;> omega)).trans (by first | (simp; done) | (simp [World.cell?_alloc_at]; done) | (rw [World.cell?_alloc_old _ _ _ (by simp <;> omega)]; first | (simp; done) | (simp [World.cell?_alloc_at]; done)))
  have p4 : w1.cell? ⟨w.heap.size + 1, 4, none⟩ = some (.int .i64 0) := (hc _ _ (by simp <;> omega)).trans (by first | (simp; done) | (simp [World.cell?_alloc_at]; done) | (rw [World.cell?_alloc_old _ _ _ (by simp <;> omega)]; first | (simp; done) | (simp [World.cell?_alloc_at]; done)))
  have f4 : w1.frozen? ⟨w.heap.size, 4, none⟩ = false := (hf _ _ (by simp <;> omega)).trans (by first | (simp [World.frozen?_alloc_at]; done) | (rw [World.frozen?_alloc_old _ _ _ (by simp <;> omega)]; first | (simp [World.frozen?_alloc_at]; done) | (rw [World.frozen?_alloc_old _ _ _ (by simp <;> omega)]; simp [World.frozen?_alloc_at]; done)))
  have r0 : w1.frozen? ⟨w.heap.size + 1, 0, none⟩ = false := (hf _ _ (by simp <;> omega)).trans (by first | (simp [World.frozen?_alloc_at]; done) | (rw [World.frozen?_alloc_old _ _ _ (by simp <;> omega)]; first | (simp [World.frozen?_alloc_at]; done) | (rw [World.frozen?_alloc_old _ _ _ (by simp <;> omega)]; simp [World.frozen?_alloc_at]; done)))
  have r1 : w1.frozen? ⟨w.heap.size + 1, 1, none⟩ = false := (hf _ _ (by simp <;> omega)).trans (by first | (simp [World.frozen?_alloc_at]; done) | (rw [World.frozen?_alloc_old _ _ _ (by simp <;> omega)]; first | (simp [World.frozen?_alloc_at]; done) | (rw [World.frozen?_alloc_old _ _ _ (by simp <;> omega)]; simp [World.frozen?_alloc_at]; done)))
  have r2 : w1.frozen? ⟨w.heap.size + 1, 2, none⟩ = false := (hf _ _ (by simp <;> omega)).trans (by first | (simp [World.frozen?_alloc_at]; done) | (rw [World.frozen?_alloc_old _ _ _ (by simp <;> omega)]; first | (simp [World.frozen?_alloc_at]; done) | (rw [World.frozen?_alloc_old _ _ _ (by simp <;> omega)]; simp [World.frozen?_alloc_at]; done)))
  have r3 : w1.frozen? ⟨w.heap.size + 1, 3, none⟩ = false := (hf _ _ (by simp <;> omega)).trans (by first | (simp [World.frozen?_alloc_at]; done) | (rw [World.frozen?_alloc_old _ _ _ (by simp <;> omega)]; first | (simp [World.frozen?_alloc_at]; done) | (rw [World.frozen?_alloc_old _ _ _ (by simp <;> omega)]; simp [World.frozen?_alloc_at]; done)))
  have r4 : w1.frozen? ⟨w.heap.size + 1, 4, none⟩ = false := (hf _ _ (by simp <;> omega)).trans (by first | (simp [World.frozen?_alloc_at]; done) | (rw [World.frozen?_alloc_old _ _ _ (by simp <;> omega)]; first | (simp [World.frozen?_alloc_at]; done) | (rw [World.frozen?_alloc_old _ _ _ (by simp <;> omega)]; simp [World.frozen?_alloc_at]; done)))
  try (have e4 := hf (w.heap.size + 1 + 1) 4 (by simp <;> omega); simp [World.frozen?_alloc_at] at e4; have s0 : w1.cell? ⟨w.heap.size + 1 + 1, 0, none⟩ = some (.int .i64 n) := (hc _ _ (by simp <;> omega)).trans (by first | (simp; done) | (simp [World.cell?_alloc_at]; done) | (rw [World.cell?_alloc_old _ _ _ (by simp <;> omega)]; first | (simp; done) | (simp [World.cell?_alloc_at]; done))); have s1 : w1.cell? ⟨w.heap.size + 1 + 1, 1, none⟩ = some (.int .i64 r) := (hc _ _ (by simp <;> omega)).trans (by first | (simp; done) | (simp [World.cell?_alloc_at]; done) | (rw [World.cell?_alloc_old _ _ _ (by simp <;> omega)]; first | (simp; done) | (simp [World.cell?_alloc_at]; done))); have s2 : w1.cell? ⟨w.heap.size + 1 + 1, 2, none⟩ = some (.int .i64 c) := (hc _ _ (by simp <;> omega)).trans (by first | (simp; done) | (simp [World.cell?_alloc_at]; done) | (rw [World.cell?_alloc_old _ _ _ (by simp <;> omega)]; first | (simp; done) | (simp [World.cell?_alloc_at]; done))); have s3 : w1.cell? ⟨w.heap.size + 1 + 1, 3, none⟩ = some (.int .i64 g) := (hc _ _ (by simp <;> omega)).trans (by first | (simp; done) | (simp [World.cell?_alloc_at]; done) | (rw [World.cell?_alloc_old _ _ _ (by simp <;> omega)]; first | (simp; done) | (simp [World.cell?_alloc_at]; done))); have s4 : w1.cell? ⟨w.heap.size + 1 + 1, 4, none⟩ = some (.int .i64 m) := (hc _ _ (by simp <;> omega)).trans (by first | (simp; done) | (simp [World.cell?_alloc_at]; done) | (rw [World.cell?_alloc_old _ _ _ (by simp <;> omega)]; first | (simp; done) | (simp [World.cell?_alloc_at]; done)))); clear hb hf hc
  go_wp2
  obtain ⟨k0, k1, k2, k3, k4⟩ := same5 (w := w1.setCell ⟨w.heap.size + 1 + 1, 4, none⟩ (.int .i64 (macM k [43, n, r, c, g]))) (b := w.heap.size + 1) (.int .i64 n) (.int .i64 r) (.int .i64 c) (.int .i64 g) (.int .i64 (macM k [43, n, r, c, g])) (set_blk (by omega) p0) (set_blk (by omega) p1) (set_blk (by omega) p2) (set_blk (by omega) p3) (set_blk (by omega) p4)
  have j4 := set_same (v := .int .i64 (macM k [43, n, r, c, g])) s4
  refine bodyPost_ret (v := .agg #[.int .i64 n, .int .i64 r, .int .i64 c, .int .i64 g, .int .i64 (macM k [43, n, r, c, g])]) (by simp [results, Try.results22, go_sem, k0, k1, k2, k3, k4]) rfl ?_
  exact ⟨rfl, Below.trans (show Below w.heap.size w w1 from Below.trans (by go_grown) (HB.out.mono (by simp <;> omega))) (by go_grown)⟩
set_option maxHeartbeats 1000000 in
theorem toHM_any (n r c g m : Int) (w : World) : Calls Try.prog 20 #[.agg #[.int .i64 n, .int .i64 r, .int .i64 c, .int .i64 g, .int .i64 m]] w fun x w' => x = .returned (.agg #[.int .i64 n, .int .i64 r, .int .i64 c, .int .i64 g, .int .i64 m]) ∧ Below w.heap.size w w' := by
  go_enter Try.func20, Try.ntmps20
  go_wp2
  go_returns
  exact ⟨rfl, by go_grown⟩
set_option maxHeartbeats 1000000 in
theorem eqHM_same (n r c g m : Int) (w : World) : Calls Try.prog 24 #[.agg #[.int .i64 n, .int .i64 r, .int .i64 c, .int .i64 g, .int .i64 m], .agg #[.int .i64 n, .int .i64 r, .int .i64 c, .int .i64 g, .int .i64 m]] w fun x w' => x = .returned (.bool true) ∧ Below w.heap.size w w' := by
  go_enter Try.func24, Try.ntmps24
  go_wp2
  go_ret
  exact ⟨rfl, by go_grown⟩
end Go.Proofs.Ytmhcbiipbilakaa.Hand
