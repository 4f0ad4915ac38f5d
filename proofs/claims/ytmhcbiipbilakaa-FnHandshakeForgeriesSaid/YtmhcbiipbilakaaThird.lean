/- Contracts of the third message. -/
import Derived.Test.YtmhcbiipbilakaaAuth
namespace Go.Proofs.Ytmhcbiipbilakaa.Auth
open Go.RowKit
open Go.Proofs.Ytmhcbiipbilakaa.Num Go.Proofs.Ytmhcbiipbilakaa.Mem Go.Proofs.Ytmhcbiipbilakaa.Hsh Go.Proofs.Ytmhcbiipbilakaa.Keys Go.Proofs.Ytmhcbiipbilakaa.Hand
set_option linter.unusedSimpArgs false

/-- the hidden group key of a third message under the key k -/
def hidM (k re gr : Int) : Int := modI (IntKind.i64.wrap (gr + macM k [47, re])) 2147483647
theorem wrapB (x : Int) : -9223372036854775808 ≤ wrap64 x ∧ wrap64 x ≤ 9223372036854775807 := by unfold wrap64; omega
theorem modI_bd (p : Int) : 0 ≤ modI p 2147483647 ∧ modI p 2147483647 < 2147483647 := by unfold modI; rw [if_pos (by omega)]; omega
theorem hid_eq (k re gr : Int) : modI (IntKind.i64.wrap (gr + macM k [47, re])) 2147483647 = hidM k re gr := rfl
theorem iwrapB (x : Int) : -9223372036854775808 ≤ IntKind.i64.wrap x ∧ IntKind.i64.wrap x ≤ 9223372036854775807 := by rw [IntWalk.i64_left]; exact wrapB x
theorem hidM_i64 (k re gr : Int) : I64 (hidM k re gr) := by have := modI_bd (IntKind.i64.wrap (gr + macM k [47, re])); unfold hidM I64; omega
set_option maxRecDepth 100000 in
theorem mask_any (k a : Int) (w : World) (hk : I64 k) (ha : I64 a) : Calls Try.prog 58 #[.int .i64 k, .int .i64 a] w fun x w' => x = .returned (.int .i64 (macM k [47, a])) ∧ Below w.heap.size w w' := by
  have HW := Lib.hid (wf2 (c64 47 (by omega)) ha)
  have H0 := Lib.hid hk
  clear hk ha
  go_enter Try.func58, Try.ntmps58
  go_wp2_with (first
    | (go_at_call 41; refine (keyedHash_impl _ _ 2 2 [47, a] _ (by exact Rd.litAt _ [.int .i64 47, .int .i64 a] _ 2 _ (by simp) rfl (by unfold maxLen; omega)) (by omega) H0.out HW.out).mono ?_; rintro x w1 ⟨rfl, hb⟩; have HB := Lib.hid hb; clear hb))
  go_ret
  exact ⟨rfl, Below.trans (by go_grown) (HB.out.mono (by simp))⟩
attribute [local irreducible] macM keyM modI hidM
set_option maxHeartbeats 4000000 in
set_option maxRecDepth 100000 in
theorem third_impl (ms no pe re gr wa : Int) (dn : Bool) (w : World) (h0 : I64 ms) (h1 : I64 no) (h2 : I64 pe) (h3 : I64 re) (h4 : I64 gr) : Calls Try.prog 47 #[.agg #[.int .i64 ms, .int .i64 no, .int .i64 pe, .int .i64 re, .int .i64 gr, .int .i64 wa, .bool dn]] w fun x w' => x = .returned (.agg #[.int .i64 3, .int .i64 re, .int .i64 no, .int .i64 (hidM (keyM ms [41, no, pe]) re gr), .int .i64 (macM (keyM ms [41, no, pe]) [43, 3, re, no, hidM (keyM ms [41, no, pe]) re gr])]) ∧ Below w.heap.size w w' := by
  have H0 := Lib.hid h0
  have H1 := Lib.hid h1
  have H2 := Lib.hid h2
  have H3 := Lib.hid h3
  have H4 := Lib.hid h4
  have HK := Lib.hid (keyM_i64 ms [41, no, pe])
  have HH := Lib.hid (hidM_i64 (keyM ms [41, no, pe]) re gr)
  have HX := Lib.hid (hid_eq (keyM ms [41, no, pe]) re gr)
  clear h0 h1 h2 h3 h4
  obtain ⟨w0, hW⟩ : ∃ W, W = (w.alloc (.cells #[.int .i64 ms, .int .i64 no, .int .i64 pe, .int .i64 re, .int .i64 gr, .int .i64 wa, .bool dn] 36)).alloc (.cells #[.int .i64 0, .int .i64 0, .int .i64 0, .int .i64 0, .int .i64 0] 29) := ⟨_, rfl⟩
  have q0 : w0.cell? ⟨w.heap.size, 0, none⟩ = some (.int .i64 ms) := by rw [hW]; first | (simp; done) | (simp [World.cell?_alloc_at]; done) | (rw [World.cell?_alloc_old _ _ _ (by simp <;> omega)]; first | (simp; done) | (simp [World.cell?_alloc_at]; done))
  have q1 : w0.cell? ⟨w.heap.size, 1, none⟩ = some (.int .i64 no) := by rw [hW]; first | (simp; done) | (simp [World.cell?_alloc_at]; done) | (rw [World.cell?_alloc_old _ _ _ (by simp <;> omega)]; first | (simp; done) | (simp [World.cell?_alloc_at]; done))
  have q2 : w0.cell? ⟨w.heap.size, 2, none⟩ = some (.int .i64 pe) := by rw [hW]; first | (simp; done) | (simp [World.cell?_alloc_at]; done) | (rw [World.cell?_alloc_old _ _ _ (by simp <;> omega)]; first | (simp; done) | (simp [World.cell?_alloc_at]; done))
  have q3 : w0.cell? ⟨w.heap.size, 3, none⟩ = some (.int .i64 re) := by rw [hW]; first | (simp; done) | (simp [World.cell?_alloc_at]; done) | (rw [World.cell?_alloc_old _ _ _ (by simp <;> omega)]; first | (simp; done) | (simp [World.cell?_alloc_at]; done))
  have q4 : w0.cell? ⟨w.heap.size, 4, none⟩ = some (.int .i64 gr) := by rw [hW]; first | (simp; done) | (simp [World.cell?_alloc_at]; done) | (rw [World.cell?_alloc_old _ _ _ (by simp <;> omega)]; first | (simp; done) | (simp [World.cell?_alloc_at]; done))
  have q5 : w0.cell? ⟨w.heap.size, 5, none⟩ = some (.int .i64 wa) := by rw [hW]; first | (simp; done) | (simp [World.cell?_alloc_at]; done) | (rw [World.cell?_alloc_old _ _ _ (by simp <;> omega)]; first | (simp; done) | (simp [World.cell?_alloc_at]; done))
  have q6 : w0.cell? ⟨w.heap.size, 6, none⟩ = some (.bool dn) := by rw [hW]; first | (simp; done) | (simp [World.cell?_alloc_at]; done) | (rw [World.cell?_alloc_old _ _ _ (by simp <;> omega)]; first | (simp; done) | (simp [World.cell?_alloc_at]; done))
  have p0 : w0.cell? ⟨w.heap.size + 1, 0, none⟩ = some (.int .i64 0) := by rw [hW]; first | (simp; done) | (simp [World.cell?_alloc_at]; done) | (rw [World.cell?_alloc_old _ _ _ (by simp <;> omega)]; first | (simp; done) | (simp [World.cell?_alloc_at]; done))
  have p1 : w0.cell? ⟨w.heap.size + 1, 1, none⟩ = some (.int .i64 0) := by rw [hW]; first | (simp; done) | (simp [World.cell?_alloc_at]; done) | (rw [World.cell?_alloc_old _ _ _ (by simp <;> omega)]; first | (simp; done) | (simp [World.cell?_alloc_at]; done))
  have p2 : w0.cell? ⟨w.heap.size + 1, 2, none⟩ = some (.int .i64 0) := by rw [hW]; first | (simp; done) | (simp [World.cell?_alloc_at]; done) | (rw [World.cell?_alloc_old _ _ _ (by simp <;> omega)]; first | (simp; done) | (simp [World.cell?_alloc_at]; done))
  have p3 : w0.cell? ⟨w.heap.size + 1, 3, none⟩ = some (.int .i64 0) := by rw [hW]; first | (simp; done) | (simp [World.cell?_alloc_at]; done) | (rw [World.cell?_alloc_old _ _ _ (by simp <;> omega)]; first | (simp; done) | (simp [World.cell?_alloc_at]; done))
  have p4 : w0.cell? ⟨w.heap.size + 1, 4, none⟩ = some (.int .i64 0) := by rw [hW]; first | (simp; done) | (simp [World.cell?_alloc_at]; done) | (rw [World.cell?_alloc_old _ _ _ (by simp <;> omega)]; first | (simp; done) | (simp [World.cell?_alloc_at]; done))
  have r0 : w0.frozen? ⟨w.heap.size + 1, 0, none⟩ = false := by rw [hW]; first | (simp [World.frozen?_alloc_at]; done) | (rw [World.frozen?_alloc_old _ _ _ (by simp <;> omega)]; first | (simp [World.frozen?_alloc_at]; done) | (rw [World.frozen?_alloc_old _ _ _ (by simp <;> omega)]; simp [World.frozen?_alloc_at]; done))
  have r1 : w0.frozen? ⟨w.heap.size + 1, 1, none⟩ = false := by rw [hW]; first | (simp [World.frozen?_alloc_at]; done) | (rw [World.frozen?_alloc_old _ _ _ (by simp <;> omega)]; first | (simp [World.frozen?_alloc_at]; done) | (rw [World.frozen?_alloc_old _ _ _ (by simp <;> omega)]; simp [World.frozen?_alloc_at]; done))
  have r2 : w0.frozen? ⟨w.heap.size + 1, 2, none⟩ = false := by rw [hW]; first | (simp [World.frozen?_alloc_at]; done) | (rw [World.frozen?_alloc_old _ _ _ (by simp <;> omega)]; first | (simp [World.frozen?_alloc_at]; done) | (rw [World.frozen?_alloc_old _ _ _ (by simp <;> omega)]; simp [World.frozen?_alloc_at]; done))
  have r3 : w0.frozen? ⟨w.heap.size + 1, 3, none⟩ = false := by rw [hW]; first | (simp [World.frozen?_alloc_at]; done) | (rw [World.frozen?_alloc_old _ _ _ (by simp <;> omega)]; first | (simp [World.frozen?_alloc_at]; done) | (rw [World.frozen?_alloc_old _ _ _ (by simp <;> omega)]; simp [World.frozen?_alloc_at]; done))
  have r4 : w0.frozen? ⟨w.heap.size + 1, 4, none⟩ = false := by rw [hW]; first | (simp [World.frozen?_alloc_at]; done) | (rw [World.frozen?_alloc_old _ _ _ (by simp <;> omega)]; first | (simp [World.frozen?_alloc_at]; done) | (rw [World.frozen?_alloc_old _ _ _ (by simp <;> omega)]; simp [World.frozen?_alloc_at]; done))
  have z0 : w.heap.size + 2 = w0.heap.size := by rw [hW]; simp
  have A : Below w.heap.size w w0 := by rw [hW]; exact ((Below.refl _ _).alloc (Nat.le_refl _) _).alloc (by simp) _
  have HW := Lib.hid hW
  clear hW
  go_enter Try.func47, Try.ntmps47
  go_wp2_with fail
  rw [← HW.out]
  clear HW
  refine (pairKey_impl _ _ _ _ H0.out H1.out H2.out).mono ?_
  rintro x w1 ⟨rfl, hb⟩
  replace q0 := Mem.lift hb q0; replace q1 := Mem.lift hb q1; replace q2 := Mem.lift hb q2; replace q3 := Mem.lift hb q3; replace q4 := Mem.lift hb q4; replace q5 := Mem.lift hb q5; replace q6 := Mem.lift hb q6
  have B := hb
  clear hb
  go_wp2_with fail
  go_region_held3 (fun w' => w'.cell? ⟨w.heap.size, 0, none⟩ = some (.int .i64 ms) ∧ w'.cell? ⟨w.heap.size, 1, none⟩ = some (.int .i64 no) ∧ w'.cell? ⟨w.heap.size, 2, none⟩ = some (.int .i64 pe) ∧ w'.cell? ⟨w.heap.size, 3, none⟩ = some (.int .i64 re) ∧ w'.cell? ⟨w.heap.size, 4, none⟩ = some (.int .i64 gr) ∧ w'.cell? ⟨w.heap.size, 5, none⟩ = some (.int .i64 wa) ∧ w'.cell? ⟨w.heap.size, 6, none⟩ = some (.bool dn)) (first | exact ⟨q0, q1, q2, q3, q4, q5, q6⟩ | go_keep) (first | (go_at_call 58; refine (mask_any _ _ _ HK.out H3.out).mono ?_; rintro x wn ⟨rfl, hb0⟩; replace q0 := Mem.lift hb0 q0; replace q1 := Mem.lift hb0 q1; replace q2 := Mem.lift hb0 q2; replace q3 := Mem.lift hb0 q3; replace q4 := Mem.lift hb0 q4; replace q5 := Mem.lift hb0 q5; replace q6 := Mem.lift hb0 q6; replace B := (by first | exact stepB B hb0 B.size | exact stepB B.drew hb0 B.size | exact stepB (B.trans (by go_grown)) hb0 (by have := B.size; simp; omega)); clear hb0) | (go_at_call 57; refine (mod_impl (IntKind.i64.wrap (gr + macM (keyM ms [41, no, pe]) [47, re])) 2147483647 _ (iwrapB _).1 (iwrapB _).2).mono ?_; rintro x w' ⟨rfl, rfl⟩))
  rw [HX.out]
  go_wp2_with fail
  refine (sign_impl _ _ _ _ _ _ _ HK.out (c64 3 (by omega)) H3.out H1.out HH.out).mono ?_
  rintro x w3 ⟨rfl, hb⟩
  replace B := stepB B hb B.size
  clear hb
  obtain ⟨hc, hf⟩ := bcells B
  replace p0 := Mem.lift B p0
  replace p1 := Mem.lift B p1
  replace p2 := Mem.lift B p2
  replace p3 := Mem.lift B p3
  replace p4 := Mem.lift B p4
  replace r0 := (hf _ _ (by omega)).trans r0
  replace r1 := (hf _ _ (by omega)).trans r1
  replace r2 := (hf _ _ (by omega)).trans r2
  replace r3 := (hf _ _ (by omega)).trans r3
  replace r4 := (hf _ _ (by omega)).trans r4
  clear hc hf q0 q1 q2 q3 q4 q5 q6
  have D := Lib.hid (Below.trans A (B.mono (by omega)))
  have hz := B.size
  clear A B
  go_wp2
  obtain ⟨k0, k1, k2, k3, k4⟩ := same5 (.int .i64 3) (.int .i64 re) (.int .i64 no) (.int .i64 (hidM (keyM ms [41, no, pe]) re gr)) (.int .i64 (macM (keyM ms [41, no, pe]) [43, 3, re, no, hidM (keyM ms [41, no, pe]) re gr])) p0 p1 p2 p3 p4
  refine bodyPost_ret (v := .agg #[.int .i64 3, .int .i64 re, .int .i64 no, .int .i64 (hidM (keyM ms [41, no, pe]) re gr), .int .i64 (macM (keyM ms [41, no, pe]) [43, 3, re, no, hidM (keyM ms [41, no, pe]) re gr])]) (by simp [results, Try.results47, go_sem, k0, k1, k2, k3, k4]) rfl ?_
  exact ⟨rfl, Below.trans D.out (by go_grown)⟩
end Go.Proofs.Ytmhcbiipbilakaa.Auth
