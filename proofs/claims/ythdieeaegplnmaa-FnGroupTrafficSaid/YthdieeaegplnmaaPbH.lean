/- Power buffers: the reference's functions on valid ones give valid ones. -/
import Derived.Test.YthdieeaegplnmaaPbG
import Derived.Test.YthdieeaegplnmaaPbSa
import Derived.Test.YthdieeaegplnmaaPbSl
import Derived.Test.YthdieeaegplnmaaPbSq
import Derived.Test.YthdieeaegplnmaaPbX
import Derived.Test.YthdieeaegplnmaaPbY
namespace Go.Proofs.Ythdieeaegplnmaa.Pb
open Go.RowKit
open Go.Proofs.Ythdieeaegplnmaa.Num Go.Proofs.Ythdieeaegplnmaa.Mem Go.Proofs.Ythdieeaegplnmaa.Hsh Go.Proofs.Ythdieeaegplnmaa.Sls Go.Proofs.Ythdieeaegplnmaa.Own Go.Proofs.Ythdieeaegplnmaa.SS Go.Proofs.Ythdieeaegplnmaa.Gb
set_option linter.unusedSimpArgs false
set_option linter.unusedVariables false
theorem find_tot (ks : List Kt) (st : Int) (n : Nat) : FindR ks st n (-1) ∨ ∃ j : Nat, j < n ∧ FindR ks st n (j : Int) := by
  by_cases h3 : ∃ j : Nat, j < n ∧ FindR ks st n (j : Int)
  · exact .inr h3
  · refine .inl (.inl ⟨rfl, fun j hj e => h3 ?_⟩)
    induction j using Nat.strongRecOn with
    | _ j ih =>
      by_cases h4 : ∃ l, l < j ∧ (nthK ks l).st = st
      · obtain ⟨l, hl, hle⟩ := h4
        exact ih l hl (by omega) hle
      · exact ⟨j, hj, .inr ⟨j, hj, rfl, e, fun l hl he => h4 ⟨l, hl, he⟩⟩⟩
theorem setS_good (A : Option Addr) (n c b : Nat) (ks : List Kt) (st : Int) (v : Bool) (w : World) (h : GoodP ks n b) (hn : n ≤ 1048577) (hr : RdPB w A n c ks) :
    Calls Try.prog 101 #[.agg #[.slice A n c], .int .i64 st, .bool v] w fun x w' => ∃ ks2, GoodP ks2 n b ∧ ∃ A2 c2 F m d, x = .returned (.tuple #[.agg #[.slice A2 n c2], .slice F m d]) ∧ RowO w' w.heap.size w'.heap.size A2 n c2 ks2 ∧ Below w.heap.size w w' := by
  rcases find_tot ks st n with hF | ⟨j, hj, hF⟩
  · refine (setS_none A n c ks st v w hF hr hn (good_few h)).mono ?_
    rintro x w' ⟨A2, c2, F, m, d, rfl, hp, _, hb⟩
    exact ⟨ks, h, A2, c2, F, m, d, rfl, hp, hb⟩
  · cases v
    · refine (setS_false A n c ks st j w hF hj hr hn (good_few h)).mono ?_
      rintro x w' ⟨A2, c2, F, m, d, rfl, hp, _, hb⟩
      exact ⟨_, good_false h hj, A2, c2, F, m, d, rfl, hp, hb⟩
    · refine (setS_true A n c ks st j w hF hj hr hn (good_few h)).mono ?_
      rintro x w' ⟨A2, c2, F, m, d, rfl, hp, _, hb⟩
      exact ⟨_, good_true h hj, A2, c2, F, m, d, rfl, hp, hb⟩
theorem keepS_good (A : Option Addr) (n c b : Nat) (ks : List Kt) (st : Int) (D : Option Addr) (m d : Nat) (bs : List Int) (w : World) (h : GoodP ks n b) (hn : n ≤ 1048577) (hb : b ≤ 1000000) (hm : m ≤ 2097152) (hr : RdPB w A n c ks) (hd : Rd w 1 D m d (bs.map (Value.int .u8))) :
    Calls Try.prog 103 #[.agg #[.slice A n c], .int .i64 st, .slice D m d] w fun x w' => ∃ ks2, GoodP ks2 n (b + 1) ∧ ∃ A2 c2 v, x = .returned (.tuple #[.agg #[.slice A2 n c2], .bool v]) ∧ RowO w' w.heap.size w'.heap.size A2 n c2 ks2 ∧ Below w.heap.size w w' := by
  have hl := len_ints hd
  rcases find_tot ks st n with hF | ⟨j, hj, hF⟩
  · refine (keepS_none A n c ks st D m d w hF hr hn (good_few h)).mono ?_
    rintro x w' ⟨A2, c2, rfl, hp, hb⟩
    exact ⟨ks, h.mono (Nat.le_succ _), A2, c2, _, rfl, hp, hb⟩
  · cases ha : (nthK ks j).ap
    · refine (keepS_awake A n c ks st j D m d w hF hj ha hr hn (good_few h)).mono ?_
      rintro x w' ⟨A2, c2, rfl, hp, hb⟩
      exact ⟨ks, h.mono (Nat.le_succ _), A2, c2, _, rfl, hp, hb⟩
    · by_cases h6 : (nthK ks j).fs.length < 6 ∧ m ≤ 100
      · refine (keepS_keep A n c ks st j D m d bs w hF hj ha h6.1 h6.2 hd hr hn (good_few h)).mono ?_
        rintro x w' ⟨A2, c2, rfl, hp, hb⟩
        exact ⟨_, (good_keep h hj ha h6.1 (by omega)).mono (Nat.le_succ _), A2, c2, _, rfl, hp, hb⟩
      · refine (keepS_full A n c ks st j D m d w hF hj ha (by omega) hm hr hn (good_few h)).mono ?_
        rintro x w' ⟨A2, c2, rfl, hp, hb2⟩
        exact ⟨_, good_lo h hj hb, A2, c2, _, rfl, hp, hb2⟩
theorem pollS_good (A : Option Addr) (n c b : Nat) (ks : List Kt) (st : Int) (w : World) (h : GoodP ks n b) (hn : n ≤ 1048577) (hr : RdPB w A n c ks) :
    Calls Try.prog 105 #[.agg #[.slice A n c], .int .i64 st] w fun x w' => ∃ ks2, GoodP ks2 n b ∧ RetPW w n ks2 x w' := by
  rcases find_tot ks st n with hF | ⟨j, hj, hF⟩
  · exact (pollS_none A n c ks st w hF hr hn (good_few h)).mono fun x w' hx => ⟨ks, h, hx⟩
  · by_cases h0 : (nthK ks j).fs.length = 0
    · exact (pollS_empty A n c ks st w j hF hj h0 hr hn (good_few h)).mono fun x w' hx => ⟨ks, h, hx⟩
    · exact (pollS_some A n c ks st w j hF hj (by omega) hr hn (good_few h)).mono fun x w' hx => ⟨_, good_tail h hj, hx⟩
theorem addS_good (A : Option Addr) (n c b : Nat) (ks : List Kt) (st : Int) (w : World) (h : GoodP ks n b) (hn : n ≤ 1048577) (hr : RdPB w A n c ks) :
    Calls Try.prog 37 #[.agg #[.slice A n c], .int .i64 st] w fun x w' => ∃ (n2 : Nat) (ks2 : List Kt), n2 ≤ n + 1 ∧ GoodP ks2 n2 b ∧ ∃ ok, RetSN w n2 ks2 ok x w' := by
  rcases add_cases ks st n with h1 | ⟨hv, ⟨h0, h15⟩, hF⟩
  · exact (addS_no A n c ks st w h1 hr hn (good_few h)).mono fun x w' hx => ⟨n, ks, Nat.le_succ _, h, _, hx⟩
  · refine (addS_ok A n c ks st w hv h0 h15 hF hr hn (good_few h)).mono ?_
    rintro x w' ⟨a, ha, hx⟩
    exact ⟨n + 1, _, Nat.le_refl _, good_ins h h0 h15 hF ha, _, hx⟩
end Go.Proofs.Ythdieeaegplnmaa.Pb
