/- Contracts of RunExchange; the walks of the laws on NewCommit, ExplainCommit. -/
import Derived.Test.YtbiipcgiionhpaaExch4
import Derived.Deep.DeepCutAuto
namespace Go.Proofs.Ytbiipcgiionhpaa.Exch
open Go.RowKit
open Go.Proofs.Ytbiipcgiionhpaa.Num Go.Proofs.Ytbiipcgiionhpaa.Mem Go.Proofs.Ytbiipcgiionhpaa.Hsh Go.Proofs.Ytbiipcgiionhpaa.Grp


/-- p points to a new block that holds a commit -/
def At2 (B : Nat) (wx : World) (p : Value) (x y : Int) : Prop := ∃ g : Nat, p = .pointer (some ⟨g, 0, none⟩) ∧ B ≤ g ∧ wx.cell? ⟨g, 0, none⟩ = some (.int .i64 x) ∧ wx.cell? ⟨g, 1, none⟩ = some (.int .i64 y)

theorem ncS_bd (pe r m : Int) : 0 ≤ ncS pe r m ∧ ncS pe r m ≤ 1018 := by
  unfold ncS
  have := addS_bd r m
  split <;> omega
theorem invM_bd (x : Int) : 0 ≤ invM x ∧ invM x ≤ 2038 := by
  unfold invM
  have := powM_bd x 1018
  split <;> omega
theorem ncE_bd (pe r m : Int) : 0 ≤ ncE pe r m ∧ ncE pe r m ≤ 2038 := by
  unfold ncE
  have := invM_bd (powM pe m)
  split <;> omega
theorem shared_bd (pe r s e : Int) : 0 ≤ sharedM pe r s e ∧ sharedM pe r s e ≤ 2038 := by
  unfold sharedM
  have := powM_bd (mulM (powM pe s) e) r
  split
  · split <;> omega
  · omega
theorem i64_small {x k : Int} (h : 0 ≤ x ∧ x ≤ k) (hk : k ≤ 1000000000) : I64 x := by unfold I64; omega
/-- may the exchange go on to the confirm values? -/
def runOK (pa pb s0 s1 s2 s3 : Int) : Bool :=
  ncB pa s0 s1 && ncB pb s2 s3 && !(ncS pa s0 s1 == ncS pb s2 s3 && ncE pa s0 s1 == ncE pb s2 s3) && !(sharedM pa s0 (ncS pb s2 s3) (ncE pb s2 s3) == 0) && !(sharedM pb s2 (ncS pa s0 s1) (ncE pa s0 s1) == 0)
def runA (pa pb s0 s1 s2 s3 : Int) : Int :=
  if runOK pa pb s0 s1 s2 s3 = true ∧ confirmM (sharedM pb s2 (ncS pa s0 s1) (ncE pa s0 s1)) (ncS pb s2 s3) (ncE pb s2 s3) (ncS pa s0 s1) (ncE pa s0 s1) = confirmM (sharedM pa s0 (ncS pb s2 s3) (ncE pb s2 s3)) (ncS pb s2 s3) (ncE pb s2 s3) (ncS pa s0 s1) (ncE pa s0 s1) then
    masterM (sharedM pa s0 (ncS pb s2 s3) (ncE pb s2 s3)) (ncS pa s0 s1) (ncE pa s0 s1) (ncS pb s2 s3) (ncE pb s2 s3) else 0
def runB (pa pb s0 s1 s2 s3 : Int) : Int :=
  if runOK pa pb s0 s1 s2 s3 = true ∧ confirmM (sharedM pa s0 (ncS pb s2 s3) (ncE pb s2 s3)) (ncS pa s0 s1) (ncE pa s0 s1) (ncS pb s2 s3) (ncE pb s2 s3) = confirmM (sharedM pb s2 (ncS pa s0 s1) (ncE pa s0 s1)) (ncS pa s0 s1) (ncE pa s0 s1) (ncS pb s2 s3) (ncE pb s2 s3) then
    masterM (sharedM pb s2 (ncS pa s0 s1) (ncE pa s0 s1)) (ncS pa s0 s1) (ncE pa s0 s1) (ncS pb s2 s3) (ncE pb s2 s3) else 0
theorem run_off {pa pb s0 s1 s2 s3 : Int} (h : runOK pa pb s0 s1 s2 s3 = false) : runA pa pb s0 s1 s2 s3 = 0 ∧ runB pa pb s0 s1 s2 s3 = 0 := by
  unfold runA runB; rw [h]; simp
/-- what RunExchange hands back -/
def Ran (pa pb s0 s1 s2 s3 : Int) (w : World) (x : Ending) (w' : World) : Prop := x = .returned (.tuple #[.int .i64 (runA pa pb s0 s1 s2 s3), .int .i64 (runB pa pb s0 s1 s2 s3)]) ∧ Below w.heap.size w w'
theorem ran_off {pa pb s0 s1 s2 s3 : Int} {w w' : World} (h : runOK pa pb s0 s1 s2 s3 = false) (hb : Below w.heap.size w w') : Ran pa pb s0 s1 s2 s3 w (.returned (.tuple #[.int .i64 0, .int .i64 0])) w' := by
  unfold Ran; rw [(run_off h).1, (run_off h).2]; exact ⟨rfl, hb⟩

theorem ran_on {pa pb s0 s1 s2 s3 : Int} {w w' : World} {u v : Int} (hu : runA pa pb s0 s1 s2 s3 = u) (hv : runB pa pb s0 s1 s2 s3 = v) (hb : Below w.heap.size w w') : Ran pa pb s0 s1 s2 s3 w (.returned (.tuple #[.int .i64 u, .int .i64 v])) w' := by
  unfold Ran; rw [hu, hv]; exact ⟨rfl, hb⟩
theorem runA_yes {pa pb s0 s1 s2 s3 : Int} (h : runOK pa pb s0 s1 s2 s3 = true) (hc : (confirmM (sharedM pb s2 (ncS pa s0 s1) (ncE pa s0 s1)) (ncS pb s2 s3) (ncE pb s2 s3) (ncS pa s0 s1) (ncE pa s0 s1) == confirmM (sharedM pa s0 (ncS pb s2 s3) (ncE pb s2 s3)) (ncS pb s2 s3) (ncE pb s2 s3) (ncS pa s0 s1) (ncE pa s0 s1)) = true) :
    runA pa pb s0 s1 s2 s3 = masterM (sharedM pa s0 (ncS pb s2 s3) (ncE pb s2 s3)) (ncS pa s0 s1) (ncE pa s0 s1) (ncS pb s2 s3) (ncE pb s2 s3) := by
  unfold runA; rw [if_pos ⟨h, beq_iff_eq.1 hc⟩]
theorem runA_no {pa pb s0 s1 s2 s3 : Int} (hc : (confirmM (sharedM pb s2 (ncS pa s0 s1) (ncE pa s0 s1)) (ncS pb s2 s3) (ncE pb s2 s3) (ncS pa s0 s1) (ncE pa s0 s1) == confirmM (sharedM pa s0 (ncS pb s2 s3) (ncE pb s2 s3)) (ncS pb s2 s3) (ncE pb s2 s3) (ncS pa s0 s1) (ncE pa s0 s1)) = false) :
    runA pa pb s0 s1 s2 s3 = 0 := by
  unfold runA; rw [if_neg]; intro h; exact (beq_eq_false_iff_ne.1 hc) h.2
theorem runB_yes {pa pb s0 s1 s2 s3 : Int} (h : runOK pa pb s0 s1 s2 s3 = true) (hc : (confirmM (sharedM pa s0 (ncS pb s2 s3) (ncE pb s2 s3)) (ncS pa s0 s1) (ncE pa s0 s1) (ncS pb s2 s3) (ncE pb s2 s3) == confirmM (sharedM pb s2 (ncS pa s0 s1) (ncE pa s0 s1)) (ncS pa s0 s1) (ncE pa s0 s1) (ncS pb s2 s3) (ncE pb s2 s3)) = true) :
    runB pa pb s0 s1 s2 s3 = masterM (sharedM pb s2 (ncS pa s0 s1) (ncE pa s0 s1)) (ncS pa s0 s1) (ncE pa s0 s1) (ncS pb s2 s3) (ncE pb s2 s3) := by
  unfold runB; rw [if_pos ⟨h, beq_iff_eq.1 hc⟩]
theorem runB_no {pa pb s0 s1 s2 s3 : Int} (hc : (confirmM (sharedM pa s0 (ncS pb s2 s3) (ncE pb s2 s3)) (ncS pa s0 s1) (ncE pa s0 s1) (ncS pb s2 s3) (ncE pb s2 s3) == confirmM (sharedM pb s2 (ncS pa s0 s1) (ncE pa s0 s1)) (ncS pa s0 s1) (ncE pa s0 s1) (ncS pb s2 s3) (ncE pb s2 s3)) = false) :
    runB pa pb s0 s1 s2 s3 = 0 := by
  unfold runB; rw [if_neg]; intro h; exact (beq_eq_false_iff_ne.1 hc) h.2

end Go.Proofs.Ytbiipcgiionhpaa.Exch
