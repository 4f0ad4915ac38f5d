/- The walks of the laws on keys. -/
import Derived.Test.YtmhcbiipbilakaaKeys
namespace Go.Proofs.Ytmhcbiipbilakaa.LawsK
open Go.RowKit
open Go.Proofs.Ytmhcbiipbilakaa.Num Go.Proofs.Ytmhcbiipbilakaa.Mem Go.Proofs.Ytmhcbiipbilakaa.Hsh Go.Proofs.Ytmhcbiipbilakaa.Keys

theorem home_law (k a : Int) (w : World) (hk : (Lit.int .i64 k).wf = true) (ha : (Lit.int .i64 a).wf = true) :
    Calls Try.prog 3 #[.int .i64 k, .int .i64 a] w fun x w' => x = .returned (.bool true) ∧ Below w.heap.size w w' := by
  have H1 := Lib.hid (i64_wf hk)
  have H2 := Lib.hid (i64_wf ha)
  clear hk ha
  go_enter Try.func3, Try.ntmps3
  go_wp2_with (first
    | (go_at_call 13; refine (homeKey_spec _ _ _ H1.out H2.out).mono ?_; rintro x w1 ⟨rfl, hb⟩; have HB1 := Lib.hid hb; clear hb)
    | (go_at_call 14; refine (homeKey_impl _ _ _ H1.out H2.out).mono ?_; rintro x w2 ⟨rfl, hb⟩; have HB2 := Lib.hid hb; clear hb))
  go_ret
  exact ⟨rfl, Below.trans HB1.out (HB2.out.mono HB1.out.size)⟩
theorem pairKey_law (k a b : Int) (w : World) (hk : (Lit.int .i64 k).wf = true) (ha : (Lit.int .i64 a).wf = true) (hb : (Lit.int .i64 b).wf = true) :
    Calls Try.prog 4 #[.int .i64 k, .int .i64 a, .int .i64 b] w fun x w' => x = .returned (.bool true) ∧ Below w.heap.size w w' := by
  have H1 := Lib.hid (i64_wf hk)
  have H2 := Lib.hid (i64_wf ha)
  have H3 := Lib.hid (i64_wf hb)
  clear hk ha hb
  go_enter Try.func4, Try.ntmps4
  go_wp2_with (first
    | (go_at_call 15; refine (pairKey_spec _ _ _ _ H1.out H2.out H3.out).mono ?_; rintro x w1 ⟨rfl, hb⟩; have HB1 := Lib.hid hb; clear hb)
    | (go_at_call 16; refine (pairKey_impl _ _ _ _ H1.out H2.out H3.out).mono ?_; rintro x w2 ⟨rfl, hb⟩; have HB2 := Lib.hid hb; clear hb))
  go_ret
  exact ⟨rfl, Below.trans HB1.out (HB2.out.mono HB1.out.size)⟩
theorem sessKey_law (k a b : Int) (w : World) (hk : (Lit.int .i64 k).wf = true) (ha : (Lit.int .i64 a).wf = true) (hb : (Lit.int .i64 b).wf = true) :
    Calls Try.prog 5 #[.int .i64 k, .int .i64 a, .int .i64 b] w fun x w' => x = .returned (.bool true) ∧ Below w.heap.size w w' := by
  have H1 := Lib.hid (i64_wf hk)
  have H2 := Lib.hid (i64_wf ha)
  have H3 := Lib.hid (i64_wf hb)
  clear hk ha hb
  go_enter Try.func5, Try.ntmps5
  go_wp2_with (first
    | (go_at_call 17; refine (sessKey_spec _ _ _ _ H1.out H2.out H3.out).mono ?_; rintro x w1 ⟨rfl, hb⟩; have HB1 := Lib.hid hb; clear hb)
    | (go_at_call 18; refine (sessKey_impl _ _ _ _ H1.out H2.out H3.out).mono ?_; rintro x w2 ⟨rfl, hb⟩; have HB2 := Lib.hid hb; clear hb))
  go_ret
  exact ⟨rfl, Below.trans HB1.out (HB2.out.mono HB1.out.size)⟩
end Go.Proofs.Ytmhcbiipbilakaa.LawsK
