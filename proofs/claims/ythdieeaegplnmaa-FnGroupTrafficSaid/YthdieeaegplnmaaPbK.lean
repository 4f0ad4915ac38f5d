/- Power buffers: the number of frames kept for a station. -/
import Derived.Test.YthdieeaegplnmaaPbC
import Derived.Test.YthdieeaegplnmaaMkB
namespace Go.Proofs.Ythdieeaegplnmaa.Pb
open Go.RowKit
open Go.Proofs.Ythdieeaegplnmaa.Num Go.Proofs.Ythdieeaegplnmaa.Mem Go.Proofs.Ythdieeaegplnmaa.Hsh Go.Proofs.Ythdieeaegplnmaa.Sls Go.Proofs.Ythdieeaegplnmaa.Own Go.Proofs.Ythdieeaegplnmaa.SS Go.Proofs.Ythdieeaegplnmaa.Gb
set_option linter.unusedSimpArgs false
set_option linter.unusedVariables false
set_option maxHeartbeats 4000000 in
theorem kept_impl (A : Option Addr) (n c : Nat) (ks : List Kt) (st : Int) (w : World) (hr : RdPB w A n c ks) :
    Calls Try.prog 45 #[.agg #[.slice A n c], .int .i64 st] w fun x w' => ∃ i, FindR ks st n i ∧ x = .returned (.int .i64 (if i < 0 then 0 else ((nthK ks i.toNat).fs.length : Int))) ∧ Below w.heap.size w w' := by
  have hn := hr.n64
  have HR := Lib.hid hr
  have B : Below w.heap.size w w := Below.refl _ _
  clear hr
  go_enter Try.func45, Try.ntmps45
  go_wp2_with fail
  generalize hW : World.alloc _ _ = w1
  have bp : Bk.Blk w1 (w.heap.size) 39 #[.slice A n c] := (by rw [← hW]; apply Bk.Blk.to; (focus (exact Bk.sv)); rfl)
  replace B : Below w.heap.size w w1 := (by rw [← hW]; go_grown)
  have z1 : w1.heap.size = _ := congrArg (fun W : World => W.heap.size) hW.symm
  (try simp only [World.size_alloc, Bk.size_set, World.size_drew, World.drewN] at z1)
  clear hW
  refine (find_impl A n c ks st _ (HR.out.below B)).mono ?_
  rintro x w2 ⟨i, hF, rfl, hb0⟩
  replace bp : Bk.Blk w2 (w.heap.size) 39 #[.slice A n c] := Bk.Blk.under hb0 (by exact Bk.sv)
  replace B : Below w.heap.size w w2 := Below.trans (by go_grown) (hb0.mono (by first | omega | (simp [Bk.size_set]; done) | (simp [Bk.size_set]; omega)))
  have z2 := hb0.size
  (try simp only [World.size_alloc, Bk.size_set, World.size_drew, World.drewN] at z2)
  clear hb0
  have HF := Lib.hid hF
  rcases hF with ⟨rfl, _⟩ | ⟨j, hj, rfl, _, _⟩
  · go_wp2
    go_ret
    exact ⟨-1, HF.out, rfl, B⟩
  · obtain ⟨g, o, A', n', c', rfl, hg, c0, c1, c2, c3, hrd⟩ := (HR.out.below B).at_ hj
    have HN := Lib.hid hrd.1
    have hm' := ss64 hrd
    clear hrd
    have l_bp : w.heap.size < w2.heap.size := Bk.Blk.lt bp
    have c_bp0 : w2.cell? ⟨w.heap.size, 0, none⟩ = some (.slice (some ⟨g, o, none⟩) n c) := Bk.Blk.cell bp 0
    have f_bp0 : w2.frozen? ⟨w.heap.size, 0, none⟩ = false := Bk.Blk.fro bp 0
    go_wp2
    go_ret
    exact ⟨(j : Int), HF.out, by rw [if_neg (by omega), Int.toNat_natCast, HN.out]; rfl, B⟩
set_option maxHeartbeats 4000000 in
theorem find_spec (A : Option Addr) (n c : Nat) (ks : List Kt) (st : Int) (w : World) (hr : RdPB w A n c ks) :
    Calls Try.prog 82 #[.agg #[.slice A n c], .int .i64 st] w fun x w' => ∃ i, FindR ks st n i ∧ x = .returned (.int .i64 i) ∧ Below w.heap.size w w' := by
  have hn := hr.n64
  have HR := Lib.hid hr
  clear hr
  go_enter Try.func82, Try.ntmps82
  go_wp2_with fail
  go_loop [5] (fun v5 => ∃ k : Nat, k ≤ n ∧ v5 = .int .i64 (k : Int) ∧ (∀ j, j < k → (nthK ks j).st ≠ st)) (fun v5 => n - (intOf v5).toNat)
  case atStart => exact ⟨0, Nat.zero_le _, rfl, fun j h => absurd h (by omega)⟩
  case round =>
    obtain ⟨k, hk, rfl, hno⟩ := hrel
    have HNO := Lib.hid hno
    by_cases hlt : k < n
    · obtain ⟨g, o, A', n', c', rfl, hg, c0, c1, c2, c3, hrd⟩ := (HR.out.alloc (.cells #[.slice A n c] 39)).at_ hlt
      clear hrd hno
      by_cases he : (nthK ks k).st = st
      · have HF := Lib.hid (show FindR ks st n (k : Int) from .inr ⟨k, hlt, rfl, he, HNO.out⟩)
        have e0 : ((nthK ks k).st == st) = true := by simpa using he
        clear he
        generalize (nthK ks k).st = s0 at *
        go_wp2
        go_ret
        exact ⟨k, HF.out, rfl, by go_grown⟩
      · have HF := Lib.hid (show ∀ j, j < k + 1 → (nthK ks j).st ≠ st from fun j hj => by
          rcases Nat.lt_or_ge j k with h3 | h3
          · exact HNO.out j h3
          · obtain rfl : j = k := by omega
            exact he)
        have e0 : ((nthK ks k).st == st) = false := by simpa using he
        clear he
        generalize (nthK ks k).st = s0 at c0 e0
        go_wp2
        go_round
        case rel => exact ⟨k + 1, by omega, by go_num, HF.out⟩
        case measure => simp [intOf]; omega
    · obtain rfl : k = n := by omega
      have HF := Lib.hid (show FindR ks st k (-1) from .inl ⟨rfl, hno⟩)
      clear hno
      go_wp2
      go_ret
      exact ⟨-1, HF.out, rfl, by go_grown⟩
end Go.Proofs.Ythdieeaegplnmaa.Pb
