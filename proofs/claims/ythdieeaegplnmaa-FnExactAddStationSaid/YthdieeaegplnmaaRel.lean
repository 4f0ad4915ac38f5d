/- ReleaseGroup: what both sides hand back. -/
import Derived.Test.YthdieeaegplnmaaCopyS
namespace Go.Proofs.Ythdieeaegplnmaa.Gb
open Go.RowKit
open Go.Proofs.Ythdieeaegplnmaa.Num Go.Proofs.Ythdieeaegplnmaa.Mem Go.Proofs.Ythdieeaegplnmaa.Hsh Go.Proofs.Ythdieeaegplnmaa.Sls Go.Proofs.Ythdieeaegplnmaa.Own Go.Proofs.Ythdieeaegplnmaa.SS Go.Proofs.Ythdieeaegplnmaa.Bcn
set_option linter.unusedSimpArgs false
set_option linter.unusedVariables false
theorem dtim_spec (s p : Int) (w : World) (hs : -9223372036854775808 ≤ s ∧ s ≤ 9223372036854775807) : Calls Try.prog 27 #[.int .i64 s, .int .i64 p] w fun x w' => x = .returned (.int .i64 (dcount s p)) ∧ w = w' := by
  unfold dcount
  by_cases h : 0 ≤ s ∧ s ≤ 1000000000000
  · by_cases h2 : s % 10 = 0
    · have d : (s % 10 != 0) = false := by simpa using h2
      have d1 : (s % 10 == 0) = true := by simpa using h2
      by_cases h3 : 1 ≤ p ∧ p ≤ 8
      · rw [if_pos ⟨⟨h.1, h.2, h2⟩, h3⟩]
        obtain ⟨h0, h1⟩ := h
        obtain ⟨h4, h5⟩ := h3
        have hq0 : 0 ≤ s / 10 := by omega
        have hq1 : s / 10 ≤ 1000000000000 := by omega
        have HM := Lib.hid (mod_spec (-(s / 10)) p)
        clear h2
        go_enter Try.func27, Try.ntmps27
        go_wp2_with (first
          | (go_at_call 72; refine (in_spec_yes _ _ _ _ (by omega) (by omega)).mono ?_; rintro e w' ⟨rfl, rfl⟩)
          | (go_at_call 75; refine (HM.out _ (by omega) (by omega)).mono ?_; rintro e w' ⟨rfl, rfl⟩))
        go_ret
        exact ⟨rfl, rfl⟩
      · rw [if_neg (fun hh => h3 hh.2)]
        obtain ⟨h0, h1⟩ := h
        have h6 : p < 1 ∨ 8 < p := by omega
        clear h2 h3
        go_enter Try.func27, Try.ntmps27
        go_wp2_with (first
          | (go_at_call 72; (first | (refine (in_spec_yes _ _ _ _ (by omega) (by omega)).mono ?_) | (refine (in_spec_no _ _ _ _ (by omega)).mono ?_)); rintro e w' ⟨rfl, rfl⟩))
        go_ret
        exact ⟨rfl, rfl⟩
    · rw [if_neg (fun hh => h2 hh.1.2.2)]
      have d : (s % 10 != 0) = true := by simpa using h2
      have d1 : (s % 10 == 0) = false := by simpa using h2
      obtain ⟨h0, h1⟩ := h
      clear h2
      go_enter Try.func27, Try.ntmps27
      go_wp2_with (first | (go_at_call 72; refine (in_spec_yes _ _ _ _ (by omega) (by omega)).mono ?_; rintro e w' ⟨rfl, rfl⟩))
      go_ret
      exact ⟨rfl, rfl⟩
  · rw [if_neg (fun hh => h ⟨hh.1.1, hh.1.2.1⟩)]
    have h6 : s < 0 ∨ 1000000000000 < s := by omega
    clear h
    go_enter Try.func27, Try.ntmps27
    go_wp2_with (first | (go_at_call 72; refine (in_spec_no _ _ _ _ (by omega)).mono ?_; rintro e w' ⟨rfl, rfl⟩))
    go_ret
    exact ⟨rfl, rfl⟩
/-- one of the two slices is one's own, the other is empty -/
def Own2 (w : World) (lo hi : Nat) (A : Option Addr) (n c : Nat) (xs : List (List Int)) (B : Option Addr) (m d : Nat) (ys : List (List Int)) : Prop :=
  (OwnSS w lo hi A n c xs ∧ m = 0 ∧ d = 0 ∧ ys = []) ∨ (OwnSS w lo hi B m d ys ∧ n = 0 ∧ c = 0 ∧ xs = [])
theorem rdNil (w : World) (A : Option Addr) : RdSS w A 0 0 [] := ⟨rfl, Nat.le_refl _, by omega, fun h => absurd h (by omega)⟩
section
variable {w w' : World} {lo hi l2 h2 K : Nat} {A B : Option Addr} {n c m d : Nat} {xs ys : List (List Int)}
theorem Own2.rdx (h : Own2 w lo hi A n c xs B m d ys) : RdSS w A n c xs := by
  rcases h with ⟨h, _⟩ | ⟨_, rfl, rfl, rfl⟩
  · exact h.rd
  · exact rdNil _ _
theorem Own2.rdy (h : Own2 w lo hi A n c xs B m d ys) : RdSS w B m d ys := by
  rcases h with ⟨_, rfl, rfl, rfl⟩ | ⟨h, _⟩
  · exact rdNil _ _
  · exact h.rd
theorem Own2.below (h : Own2 w lo hi A n c xs B m d ys) (hb : Below K w w') (hB : hi ≤ K) : Own2 w' lo hi A n c xs B m d ys := by
  rcases h with ⟨h, r⟩ | ⟨h, r⟩
  · exact .inl ⟨h.below hb hB, r⟩
  · exact .inr ⟨h.below hb hB, r⟩
theorem Own2.turned (h : Own2 w lo hi A n c xs B m d ys) (ht : Turned l2 h2 w w') (hd : hi ≤ l2 ∨ h2 ≤ lo) (hs : hi ≤ w.heap.size) : Own2 w' lo hi A n c xs B m d ys := by
  rcases h with ⟨h, r⟩ | ⟨h, r⟩
  · exact .inl ⟨h.turned ht hd hs, r⟩
  · exact .inr ⟨h.turned ht hd hs, r⟩
end
theorem mSS_nil (k : Int) : mSS k [] = [] := rfl
theorem tot_nil : totL [] = 0 := rfl
theorem markSS_nil (A : Option Addr) (k : Int) (w : World) : Calls Try.prog 63 #[.slice A 0 0, .int .i64 k] w fun x w' => x = .returned (.int .i64 k) ∧ w = w' := by
  go_enter Try.func63, Try.ntmps63
  go_wp2
  go_loop [1, 5] (fun v1 v5 => v1 = .int .i64 k ∧ v5 = .int .i64 0) (fun _ _ => 0)
  case atStart => exact ⟨rfl, rfl⟩
  case round =>
    obtain ⟨rfl, rfl⟩ := hrel
    go_wp2
    go_ret
    exact ⟨rfl, rfl⟩
theorem markY (A : Option Addr) (n c : Nat) (xs : List (List Int)) (B : Option Addr) (m d : Nat) (ys : List (List Int)) (k : Int) (lo hi : Nat) (w : World) (h : Own2 w lo hi A n c xs B m d ys) (k0 : 0 ≤ k) (k1 : k ≤ 4194304) (hm : m ≤ 2097152) (ht : totL ys ≤ 2097152) :
    Calls Try.prog 63 #[.slice B m d, .int .i64 k] w fun x w' => x = .returned (.int .i64 (k + (totL ys : Int))) ∧ Own2 w' lo hi A n c xs B m d (mSS k ys) ∧ Turned lo hi w w' := by
  rcases h with ⟨h, rfl, rfl, rfl⟩ | ⟨h, r⟩
  · refine (markSS_nil B k w).mono ?_
    rintro x w' ⟨rfl, rfl⟩
    exact ⟨by rw [tot_nil]; simp, .inl ⟨h, rfl, rfl, rfl⟩, Turned.refl _ _ _⟩
  · refine (markSS_any B m d ys k lo hi w h k0 k1 hm ht).mono ?_
    rintro x w' ⟨rfl, ho, hT⟩
    exact ⟨rfl, .inr ⟨ho, r⟩, hT⟩
theorem markX (A : Option Addr) (n c : Nat) (xs : List (List Int)) (B : Option Addr) (m d : Nat) (ys : List (List Int)) (k : Int) (lo hi : Nat) (w : World) (h : Own2 w lo hi A n c xs B m d ys) (k0 : 0 ≤ k) (k1 : k ≤ 4194304) (hm : n ≤ 2097152) (ht : totL xs ≤ 2097152) :
    Calls Try.prog 63 #[.slice A n c, .int .i64 k] w fun x w' => x = .returned (.int .i64 (k + (totL xs : Int))) ∧ Own2 w' lo hi A n c (mSS k xs) B m d ys ∧ Turned lo hi w w' := by
  refine (markY B m d ys A n c xs k lo hi w (Or.symm h) k0 k1 hm ht).mono ?_
  rintro x w' ⟨rfl, ho, hT⟩
  exact ⟨rfl, Or.symm ho, hT⟩
theorem markGb2 (pe l : Int) (A : Option Addr) (n c : Nat) (xs : List (List Int)) (B : Option Addr) (m d : Nat) (ys : List (List Int)) (k : Int) (lo hi : Nat) (w : World) (h : Own2 w lo hi A n c xs B m d ys) (k0 : 0 ≤ k) (k1 : k ≤ 4194304) (hm : n ≤ 2097152) (ht : totL xs ≤ 2097152) (hh : hi ≤ w.heap.size) :
    Calls Try.prog 16 #[.agg #[.int .i64 pe, .slice A n c, .int .i64 l], .int .i64 k] w fun x w' => x = .returned (.int .i64 (k + (totL xs : Int))) ∧ Own2 w' lo hi A n c (mSS k xs) B m d ys ∧ Turned lo hi w w' := by
  have HO := Lib.hid h
  have HT := Lib.hid ht
  have HK := Lib.hid (show 0 ≤ k + (totL xs : Int) by omega)
  have HK1 := Lib.hid (show k + (totL xs : Int) ≤ 8388608 by omega)
  clear h ht
  go_enter Try.func16, Try.ntmps16
  go_wp2_with fail
  refine (markX A n c xs B m d ys k lo hi _ (HO.out.below ((Below.refl _ _).alloc hh _) (Nat.le_refl _)) k0 k1 hm HT.out).mono ?_
  rintro x w1 ⟨rfl, ho, ht⟩
  have H1 := Lib.hid ho
  have H2 := Lib.hid (Turned.trans (Turned.of_below ((Below.refl w.heap.size w).alloc (Nat.le_refl _) _) lo hi) ht)
  clear ho ht
  go_wp2
  go_ret
  exact ⟨rfl, H1.out, H2.out⟩
theorem heldGb_any (pe l : Int) (A : Option Addr) (n c : Nat) (xss : List (List Int)) (k : Int) (w : World) (h : RdSS w A n c (mSS k xss)) (k0 : 0 ≤ k) (k1 : k ≤ 4194304) (hn : n ≤ 2097152) (ht : totL xss ≤ 2097152) :
    Calls Try.prog 18 #[.agg #[.int .i64 pe, .slice A n c, .int .i64 l], .int .i64 k] w fun x w' => x = .returned (.int .i64 (k + (totL xss : Int))) ∧ Below w.heap.size w w' := by
  have HR := Lib.hid h
  have hK0 : 0 ≤ k + (totL xss : Int) := by omega
  have HT := Lib.hid ht
  have HE := Lib.hid (show ∀ w, RdSS w A n c (mSS k xss) → Calls Try.prog 64 #[.slice A n c, .int .i64 k] w fun x w' => x = .returned (.int .i64 (k + (totL xss : Int))) ∧ w = w' from fun w h => heldSS_any A n c xss k w h k0 k1 hn ht)
  clear h ht
  generalize k + (totL xss : Int) = K at *
  go_enter Try.func18, Try.ntmps18
  go_wp2_with fail
  refine (HE.out _ (HR.out.alloc _)).mono ?_
  rintro x w1 ⟨rfl, rfl⟩
  go_wp2
  go_ret
  exact ⟨rfl, by go_grown⟩
/-- the release: the frames go, or stay -/
def Goes (pe lo s : Int) (xss : List (List Int)) (n gn : Nat) (gs : List (List Int)) (ln : Nat) (ls : List (List Int)) : Prop :=
  ((validG pe lo xss n ∧ dcount s pe = 0) ∧ 0 = gn ∧ [] = gs ∧ n = ln ∧ xss = ls) ∨ (¬ (validG pe lo xss n ∧ dcount s pe = 0) ∧ n = gn ∧ xss = gs ∧ 0 = ln ∧ [] = ls)
def RelI (w : World) (pe lo : Int) (gn : Nat) (gs : List (List Int)) (ln : Nat) (ls : List (List Int)) (x : Ending) (w' : World) : Prop :=
  ∃ A c B d, x = .returned (.tuple #[.agg #[.int .i64 pe, .slice A gn c, .int .i64 lo], .slice B ln d]) ∧ Own2 w' w.heap.size w'.heap.size A gn c gs B ln d ls ∧ Below w.heap.size w w'
def RelS (w : World) (pe lo : Int) (gn : Nat) (gs : List (List Int)) (ln : Nat) (ls : List (List Int)) (x : Ending) (w' : World) : Prop :=
  ∃ A c B d, x = .returned (.tuple #[.agg #[.int .i64 pe, .slice A gn c, .int .i64 lo], .slice B ln d]) ∧ RdSS w' A gn c gs ∧ RdSS w' B ln d ls ∧ Below w.heap.size w w'
theorem says_true {b : Prop} {w w' : World} {x : Ending} (h : SaysG b w x w') (hb : b) : x = .returned (.bool true) ∧ Below w.heap.size w w' := by
  obtain ⟨b', h1, rfl, h2⟩ := h
  exact ⟨by rw [h1.2 hb], h2⟩
theorem says_false {b : Prop} {w w' : World} {x : Ending} (h : SaysG b w x w') (hb : ¬ b) : x = .returned (.bool false) ∧ Below w.heap.size w w' := by
  obtain ⟨b', h1, rfl, h2⟩ := h
  have : b' = false := by cases b' with | false => rfl | true => exact absurd (h1.1 rfl) hb
  exact ⟨by rw [this], h2⟩
theorem own_setH {w : World} {lo hi : Nat} {A : Option Addr} {n c : Nat} {xss : List (List Int)} (h : OwnSS w lo hi A n c xss) {b o : Nat} (hb : hi ≤ b) (u : Value) : OwnSS (w.setCell ⟨b, o, none⟩ u) lo hi A n c xss := h.keep fun g _ h2 => Below.heap_setCell w _ _ g (by simp; omega)
theorem own_alloc {w : World} {lo hi : Nat} {A : Option Addr} {n c : Nat} {xss : List (List Int)} (h : OwnSS w lo hi A n c xss) (o : Obj) (hh : hi ≤ w.heap.size) : OwnSS (w.alloc o) lo hi A n c xss := h.keep fun g _ h2 => Below.heap_alloc w o g (by omega)
theorem all3 {w : World} {b : Nat} {u0 u1 u2 : Value} (v0 v1 v2 : Value) (h0 : w.cell? ⟨b, 0, none⟩ = some u0) (h1 : w.cell? ⟨b, 1, none⟩ = some u1) (h2 : w.cell? ⟨b, 2, none⟩ = some u2) :
    (((w.setCell ⟨b, 0, none⟩ v0).setCell ⟨b, 1, none⟩ v1).setCell ⟨b, 2, none⟩ v2).cell? ⟨b, 0, none⟩ = some v0 ∧ (((w.setCell ⟨b, 0, none⟩ v0).setCell ⟨b, 1, none⟩ v1).setCell ⟨b, 2, none⟩ v2).cell? ⟨b, 1, none⟩ = some v1 ∧ (((w.setCell ⟨b, 0, none⟩ v0).setCell ⟨b, 1, none⟩ v1).setCell ⟨b, 2, none⟩ v2).cell? ⟨b, 2, none⟩ = some v2 := by
  obtain ⟨k0, k1, k2⟩ := same3 v0 v1 v2 h0 h1 h2
  exact ⟨set_next (by omega) (set_next (by omega) k0), set_next (by omega) k1, k2⟩
set_option maxHeartbeats 4000000 in
theorem rel_impl (pe lo s : Int) (A : Option Addr) (n c : Nat) (xss : List (List Int)) (gn : Nat) (gs : List (List Int)) (ln : Nat) (ls : List (List Int)) (w : World) (hgl : Goes pe lo s xss n gn gs ln ls) (hr : RdSS w A n c xss) (hn : n ≤ 2097152) (hs : AllShort xss) (hsl : -9223372036854775808 ≤ s ∧ s ≤ 9223372036854775807) :
    Calls Try.prog 23 #[.agg #[.int .i64 pe, .slice A n c, .int .i64 lo], .int .i64 s] w (RelI w pe lo gn gs ln ls) := by
  have HR := Lib.hid hr
  have HS := Lib.hid hs
  clear hr hs
  have HD := Lib.hid (fun w => dtim_any s pe w hsl)
  rcases hgl with ⟨⟨hv, hd⟩, rfl, rfl, rfl, rfl⟩ | ⟨hne, rfl, rfl, rfl, rfl⟩
  · have HV := Lib.hid hv
    rw [hd] at HD
    clear hv hd
    go_enter Try.func23, Try.ntmps23
    go_wp2_with fail
    refine (copyGb_any pe lo A n c xss _ ((HR.out.alloc _).alloc _) hn HS.out).mono ?_
    rintro x w1 ⟨A1, c1, rfl, hown, hb⟩
    obtain ⟨hc, hf⟩ := bcells hb
    have q0 := (hc (w.heap.size) 0 (by simp <;> omega)).trans (show _ = some (.int .i64 pe) from by first | (simp; done) | (simp [World.cell?_alloc_at]; done) | (rw [World.cell?_alloc_old _ _ _ (by simp <;> omega)]; first | (simp; done) | (simp [World.cell?_alloc_at]; done))); have q1 := (hc (w.heap.size) 1 (by simp <;> omega)).trans (show _ = some (.slice A n c) from by first | (simp; done) | (simp [World.cell?_alloc_at]; done) | (rw [World.cell?_alloc_old _ _ _ (by simp <;> omega)]; first | (simp; done) | (simp [World.cell?_alloc_at]; done))); have q2 := (hc (w.heap.size) 2 (by simp <;> omega)).trans (show _ = some (.int .i64 lo) from by first | (simp; done) | (simp [World.cell?_alloc_at]; done) | (rw [World.cell?_alloc_old _ _ _ (by simp <;> omega)]; first | (simp; done) | (simp [World.cell?_alloc_at]; done)))
    have p0 := (hc (w.heap.size + 1) 0 (by simp <;> omega)).trans (show _ = some (.int .i64 0) from by first | (simp; done) | (simp [World.cell?_alloc_at]; done) | (rw [World.cell?_alloc_old _ _ _ (by simp <;> omega)]; first | (simp; done) | (simp [World.cell?_alloc_at]; done))); have p1 := (hc (w.heap.size + 1) 1 (by simp <;> omega)).trans (show _ = some (.slice none 0 0) from by first | (simp; done) | (simp [World.cell?_alloc_at]; done) | (rw [World.cell?_alloc_old _ _ _ (by simp <;> omega)]; first | (simp; done) | (simp [World.cell?_alloc_at]; done))); have p2 := (hc (w.heap.size + 1) 2 (by simp <;> omega)).trans (show _ = some (.int .i64 0) from by first | (simp; done) | (simp [World.cell?_alloc_at]; done) | (rw [World.cell?_alloc_old _ _ _ (by simp <;> omega)]; first | (simp; done) | (simp [World.cell?_alloc_at]; done)))
    have r0 := (hf (w.heap.size + 1) 0 (by simp <;> omega)).trans (show _ = false from by first | (simp; done) | (simp [World.frozen?_alloc_at]; done) | (rw [World.frozen?_alloc_old _ _ _ (by simp <;> omega)]; first | (simp [World.frozen?_alloc_at]; done) | (rw [World.frozen?_alloc_old _ _ _ (by simp <;> omega)]; simp [World.frozen?_alloc_at]; done))); have r1 := (hf (w.heap.size + 1) 1 (by simp <;> omega)).trans (show _ = false from by first | (simp; done) | (simp [World.frozen?_alloc_at]; done) | (rw [World.frozen?_alloc_old _ _ _ (by simp <;> omega)]; first | (simp [World.frozen?_alloc_at]; done) | (rw [World.frozen?_alloc_old _ _ _ (by simp <;> omega)]; simp [World.frozen?_alloc_at]; done))); have r2 := (hf (w.heap.size + 1) 2 (by simp <;> omega)).trans (show _ = false from by first | (simp; done) | (simp [World.frozen?_alloc_at]; done) | (rw [World.frozen?_alloc_old _ _ _ (by simp <;> omega)]; first | (simp [World.frozen?_alloc_at]; done) | (rw [World.frozen?_alloc_old _ _ _ (by simp <;> omega)]; simp [World.frozen?_alloc_at]; done)))
    have hR1 : RdSS w1 A n c xss := ((HR.out.alloc _).alloc _).below hb
    have z0 : w.heap.size + 1 < w1.heap.size := World.block_lt_of_cell? w1 _ p0
    have z00 : w.heap.size < w1.heap.size := World.block_lt_of_cell? w1 _ q0
    have B := (show Below w.heap.size w w1 from Below.trans (by go_grown) (hb.mono (by simp <;> omega)))
    have HO := Lib.hid hown
    clear hb hc hf hown
    go_wp2_with fail
    refine (validGb_impl pe lo A n c xss _ (hR1.alloc _)).mono ?_
    rintro x w2 hsay
    obtain ⟨rfl, hb⟩ := says_true hsay HV.out
    clear hsay
    obtain ⟨hc, hf⟩ := bcells hb
    replace q0 := (hc _ _ (by simp <;> omega)).trans ((World.cell?_alloc_old _ _ _ (by simp <;> omega)).trans q0); replace q1 := (hc _ _ (by simp <;> omega)).trans ((World.cell?_alloc_old _ _ _ (by simp <;> omega)).trans q1); replace q2 := (hc _ _ (by simp <;> omega)).trans ((World.cell?_alloc_old _ _ _ (by simp <;> omega)).trans q2); replace p0 := (hc _ _ (by simp <;> omega)).trans ((World.cell?_alloc_old _ _ _ (by simp <;> omega)).trans p0); replace p1 := (hc _ _ (by simp <;> omega)).trans ((World.cell?_alloc_old _ _ _ (by simp <;> omega)).trans p1); replace p2 := (hc _ _ (by simp <;> omega)).trans ((World.cell?_alloc_old _ _ _ (by simp <;> omega)).trans p2)
    replace r0 := (hf _ _ (by simp <;> omega)).trans ((World.frozen?_alloc_old _ _ _ (by simp <;> omega)).trans r0); replace r1 := (hf _ _ (by simp <;> omega)).trans ((World.frozen?_alloc_old _ _ _ (by simp <;> omega)).trans r1); replace r2 := (hf _ _ (by simp <;> omega)).trans ((World.frozen?_alloc_old _ _ _ (by simp <;> omega)).trans r2)
    have o0 := (hc (w1.heap.size) 0 (by simp <;> omega)).trans (show _ = some (.int .i64 pe) from by first | (simp; done) | (simp [World.cell?_alloc_at]; done) | (rw [World.cell?_alloc_old _ _ _ (by simp <;> omega)]; first | (simp; done) | (simp [World.cell?_alloc_at]; done))); have o1 := (hc (w1.heap.size) 1 (by simp <;> omega)).trans (show _ = some (.slice A1 n c1) from by first | (simp; done) | (simp [World.cell?_alloc_at]; done) | (rw [World.cell?_alloc_old _ _ _ (by simp <;> omega)]; first | (simp; done) | (simp [World.cell?_alloc_at]; done))); have o2 := (hc (w1.heap.size) 2 (by simp <;> omega)).trans (show _ = some (.int .i64 lo) from by first | (simp; done) | (simp [World.cell?_alloc_at]; done) | (rw [World.cell?_alloc_old _ _ _ (by simp <;> omega)]; first | (simp; done) | (simp [World.cell?_alloc_at]; done)))
    have f0 := (hf (w1.heap.size) 0 (by simp <;> omega)).trans (show _ = false from by first | (simp; done) | (simp [World.frozen?_alloc_at]; done) | (rw [World.frozen?_alloc_old _ _ _ (by simp <;> omega)]; first | (simp [World.frozen?_alloc_at]; done) | (rw [World.frozen?_alloc_old _ _ _ (by simp <;> omega)]; simp [World.frozen?_alloc_at]; done))); have f1 := (hf (w1.heap.size) 1 (by simp <;> omega)).trans (show _ = false from by first | (simp; done) | (simp [World.frozen?_alloc_at]; done) | (rw [World.frozen?_alloc_old _ _ _ (by simp <;> omega)]; first | (simp [World.frozen?_alloc_at]; done) | (rw [World.frozen?_alloc_old _ _ _ (by simp <;> omega)]; simp [World.frozen?_alloc_at]; done))); have f2 := (hf (w1.heap.size) 2 (by simp <;> omega)).trans (show _ = false from by first | (simp; done) | (simp [World.frozen?_alloc_at]; done) | (rw [World.frozen?_alloc_old _ _ _ (by simp <;> omega)]; first | (simp [World.frozen?_alloc_at]; done) | (rw [World.frozen?_alloc_old _ _ _ (by simp <;> omega)]; simp [World.frozen?_alloc_at]; done)))
    have z1 : w1.heap.size < w2.heap.size := World.block_lt_of_cell? w2 _ o0
    have z2 : w.heap.size + 1 < w2.heap.size := World.block_lt_of_cell? w2 _ p0
    have z3 : w.heap.size < w2.heap.size := World.block_lt_of_cell? w2 _ q0
    have hb1 : Below w1.heap.size w1 w2 := Below.trans (by go_grown) (hb.mono (by simp <;> omega))
    have HO2 := Lib.hid (HO.out.below hb1 (Nat.le_refl _))
    replace B := stepW B hb1
    clear hb hb1 hc hf hR1 HO
    go_wp2_with (first | (go_at_call 69; refine (HD.out _).mono ?_; rintro x w' ⟨rfl, rfl⟩))
    have z4 : w.heap.size + 1 < w1.heap.size := z0
    obtain ⟨m0, m1, m2⟩ := all3 (.int .i64 pe) (.slice (some ⟨w2.heap.size, 0, none⟩) 0 0) (.int .i64 lo) (set_blk (d := w1.heap.size) (o := 1) (v := .slice (some ⟨w2.heap.size, 0, none⟩) 0 0) (by omega) p0) (set_blk (d := w1.heap.size) (o := 1) (v := .slice (some ⟨w2.heap.size, 0, none⟩) 0 0) (by omega) p1) (set_blk (d := w1.heap.size) (o := 1) (v := .slice (some ⟨w2.heap.size, 0, none⟩) 0 0) (by omega) p2)
    have n0 := (World.cell?_alloc_old _ (.cells #[] 25) _ (Nat.ne_of_lt (World.block_lt_of_cell? _ _ m0))).trans m0
    have n1 := (World.cell?_alloc_old _ (.cells #[] 25) _ (Nat.ne_of_lt (World.block_lt_of_cell? _ _ m1))).trans m1
    have n2 := (World.cell?_alloc_old _ (.cells #[] 25) _ (Nat.ne_of_lt (World.block_lt_of_cell? _ _ m2))).trans m2
    refine bodyPost_ret (v := .tuple #[.agg #[.int .i64 pe, .slice (some ⟨w2.heap.size, 0, none⟩) 0 0, .int .i64 lo], .slice A1 n c1]) (by simp [results, Try.results23, go_sem, n0, n1, n2]) rfl ?_
    refine ⟨_, _, _, _, rfl, .inr ⟨?_, rfl, rfl, rfl⟩, ?_⟩
    · exact (own_alloc (own_set3 (b := w.heap.size + 1) (own_setH (b := w1.heap.size) (o := 1) HO2.out (Nat.le_refl _) (.slice (some ⟨w2.heap.size, 0, none⟩) 0 0)) (by simp) (.int .i64 pe) (.slice (some ⟨w2.heap.size, 0, none⟩) 0 0) (.int .i64 lo)) _ (by simp [World.setCell]; omega)).wider (by simp <;> omega) (by simp [World.setCell]; omega)
    · exact (below_set3 (b := w.heap.size + 1) (B.setCell (p := ⟨w1.heap.size, 1, none⟩) (by simp; omega) _) (by omega) _ _ _).alloc (by simp [World.setCell]; omega) _
  · have hE : (¬ validG pe lo xss n) ∨ (validG pe lo xss n ∧ (dcount s pe != 0) = true) := by
      by_cases h : validG pe lo xss n
      · exact .inr ⟨h, by simpa using fun e => hne ⟨h, e⟩⟩
      · exact .inl h
    generalize dcount s pe = dc at *
    rcases hE with hV | ⟨hV, hdc⟩
    all_goals
      have HV := Lib.hid hV
      clear hV hne
      go_enter Try.func23, Try.ntmps23
      go_wp2_with fail
      refine (copyGb_any pe lo A n c xss _ ((HR.out.alloc _).alloc _) hn HS.out).mono ?_
      rintro x w1 ⟨A1, c1, rfl, hown, hb⟩
      obtain ⟨hc, hf⟩ := bcells hb
      have q0 := (hc (w.heap.size) 0 (by simp <;> omega)).trans (show _ = some (.int .i64 pe) from by first | (simp; done) | (simp [World.cell?_alloc_at]; done) | (rw [World.cell?_alloc_old _ _ _ (by simp <;> omega)]; first | (simp; done) | (simp [World.cell?_alloc_at]; done))); have q1 := (hc (w.heap.size) 1 (by simp <;> omega)).trans (show _ = some (.slice A n c) from by first | (simp; done) | (simp [World.cell?_alloc_at]; done) | (rw [World.cell?_alloc_old _ _ _ (by simp <;> omega)]; first | (simp; done) | (simp [World.cell?_alloc_at]; done))); have q2 := (hc (w.heap.size) 2 (by simp <;> omega)).trans (show _ = some (.int .i64 lo) from by first | (simp; done) | (simp [World.cell?_alloc_at]; done) | (rw [World.cell?_alloc_old _ _ _ (by simp <;> omega)]; first | (simp; done) | (simp [World.cell?_alloc_at]; done)))
      have p0 := (hc (w.heap.size + 1) 0 (by simp <;> omega)).trans (show _ = some (.int .i64 0) from by first | (simp; done) | (simp [World.cell?_alloc_at]; done) | (rw [World.cell?_alloc_old _ _ _ (by simp <;> omega)]; first | (simp; done) | (simp [World.cell?_alloc_at]; done))); have p1 := (hc (w.heap.size + 1) 1 (by simp <;> omega)).trans (show _ = some (.slice none 0 0) from by first | (simp; done) | (simp [World.cell?_alloc_at]; done) | (rw [World.cell?_alloc_old _ _ _ (by simp <;> omega)]; first | (simp; done) | (simp [World.cell?_alloc_at]; done))); have p2 := (hc (w.heap.size + 1) 2 (by simp <;> omega)).trans (show _ = some (.int .i64 0) from by first | (simp; done) | (simp [World.cell?_alloc_at]; done) | (rw [World.cell?_alloc_old _ _ _ (by simp <;> omega)]; first | (simp; done) | (simp [World.cell?_alloc_at]; done)))
      have r0 := (hf (w.heap.size + 1) 0 (by simp <;> omega)).trans (show _ = false from by first | (simp; done) | (simp [World.frozen?_alloc_at]; done) | (rw [World.frozen?_alloc_old _ _ _ (by simp <;> omega)]; first | (simp [World.frozen?_alloc_at]; done) | (rw [World.frozen?_alloc_old _ _ _ (by simp <;> omega)]; simp [World.frozen?_alloc_at]; done))); have r1 := (hf (w.heap.size + 1) 1 (by simp <;> omega)).trans (show _ = false from by first | (simp; done) | (simp [World.frozen?_alloc_at]; done) | (rw [World.frozen?_alloc_old _ _ _ (by simp <;> omega)]; first | (simp [World.frozen?_alloc_at]; done) | (rw [World.frozen?_alloc_old _ _ _ (by simp <;> omega)]; simp [World.frozen?_alloc_at]; done))); have r2 := (hf (w.heap.size + 1) 2 (by simp <;> omega)).trans (show _ = false from by first | (simp; done) | (simp [World.frozen?_alloc_at]; done) | (rw [World.frozen?_alloc_old _ _ _ (by simp <;> omega)]; first | (simp [World.frozen?_alloc_at]; done) | (rw [World.frozen?_alloc_old _ _ _ (by simp <;> omega)]; simp [World.frozen?_alloc_at]; done)))
      have hR1 : RdSS w1 A n c xss := ((HR.out.alloc _).alloc _).below hb
      have z0 : w.heap.size + 1 < w1.heap.size := World.block_lt_of_cell? w1 _ p0
      have z00 : w.heap.size < w1.heap.size := World.block_lt_of_cell? w1 _ q0
      have B := (show Below w.heap.size w w1 from Below.trans (by go_grown) (hb.mono (by simp <;> omega)))
      have HO := Lib.hid hown
      clear hb hc hf hown
      go_wp2_with fail
      refine (validGb_impl pe lo A n c xss _ (hR1.alloc _)).mono ?_
      rintro x w2 hsay
      first
        | (replace hsay := says_true hsay HV.out)
        | (replace hsay := says_false hsay HV.out)
      obtain ⟨rfl, hb⟩ := hsay
      obtain ⟨hc, hf⟩ := bcells hb
      replace q0 := (hc _ _ (by simp <;> omega)).trans ((World.cell?_alloc_old _ _ _ (by simp <;> omega)).trans q0); replace q1 := (hc _ _ (by simp <;> omega)).trans ((World.cell?_alloc_old _ _ _ (by simp <;> omega)).trans q1); replace q2 := (hc _ _ (by simp <;> omega)).trans ((World.cell?_alloc_old _ _ _ (by simp <;> omega)).trans q2); replace p0 := (hc _ _ (by simp <;> omega)).trans ((World.cell?_alloc_old _ _ _ (by simp <;> omega)).trans p0); replace p1 := (hc _ _ (by simp <;> omega)).trans ((World.cell?_alloc_old _ _ _ (by simp <;> omega)).trans p1); replace p2 := (hc _ _ (by simp <;> omega)).trans ((World.cell?_alloc_old _ _ _ (by simp <;> omega)).trans p2)
      replace r0 := (hf _ _ (by simp <;> omega)).trans ((World.frozen?_alloc_old _ _ _ (by simp <;> omega)).trans r0); replace r1 := (hf _ _ (by simp <;> omega)).trans ((World.frozen?_alloc_old _ _ _ (by simp <;> omega)).trans r1); replace r2 := (hf _ _ (by simp <;> omega)).trans ((World.frozen?_alloc_old _ _ _ (by simp <;> omega)).trans r2)
      have o0 := (hc (w1.heap.size) 0 (by simp <;> omega)).trans (show _ = some (.int .i64 pe) from by first | (simp; done) | (simp [World.cell?_alloc_at]; done) | (rw [World.cell?_alloc_old _ _ _ (by simp <;> omega)]; first | (simp; done) | (simp [World.cell?_alloc_at]; done))); have o1 := (hc (w1.heap.size) 1 (by simp <;> omega)).trans (show _ = some (.slice A1 n c1) from by first | (simp; done) | (simp [World.cell?_alloc_at]; done) | (rw [World.cell?_alloc_old _ _ _ (by simp <;> omega)]; first | (simp; done) | (simp [World.cell?_alloc_at]; done))); have o2 := (hc (w1.heap.size) 2 (by simp <;> omega)).trans (show _ = some (.int .i64 lo) from by first | (simp; done) | (simp [World.cell?_alloc_at]; done) | (rw [World.cell?_alloc_old _ _ _ (by simp <;> omega)]; first | (simp; done) | (simp [World.cell?_alloc_at]; done)))
      have z1 : w1.heap.size < w2.heap.size := World.block_lt_of_cell? w2 _ o0
      have z2 : w.heap.size + 1 < w2.heap.size := World.block_lt_of_cell? w2 _ p0
      have z3 : w.heap.size < w2.heap.size := World.block_lt_of_cell? w2 _ q0
      have hb1 : Below w1.heap.size w1 w2 := Below.trans (by go_grown) (hb.mono (by simp <;> omega))
      have HO2 := Lib.hid (HO.out.below hb1 (Nat.le_refl _))
      replace B := stepW B hb1
      clear hb hb1 hc hf hR1 HO
      go_wp2_with (first | (go_at_call 69; refine (HD.out _).mono ?_; rintro x w' ⟨rfl, rfl⟩))
      obtain ⟨m0, m1, m2⟩ := all3 (.int .i64 pe) (.slice A1 n c1) (.int .i64 lo) p0 p1 p2
      have n0 := (World.cell?_alloc_old _ (.cells #[] 25) _ (Nat.ne_of_lt (World.block_lt_of_cell? _ _ m0))).trans m0
      have n1 := (World.cell?_alloc_old _ (.cells #[] 25) _ (Nat.ne_of_lt (World.block_lt_of_cell? _ _ m1))).trans m1
      have n2 := (World.cell?_alloc_old _ (.cells #[] 25) _ (Nat.ne_of_lt (World.block_lt_of_cell? _ _ m2))).trans m2
      refine bodyPost_ret (v := .tuple #[.agg #[.int .i64 pe, .slice A1 n c1, .int .i64 lo], .slice (some ⟨w2.heap.size, 0, none⟩) 0 0]) (by simp [results, Try.results23, go_sem, n0, n1, n2]) rfl ?_
      refine ⟨_, _, _, _, rfl, .inl ⟨?_, rfl, rfl, rfl⟩, ?_⟩
      · exact (own_alloc (own_set3 (b := w.heap.size + 1) HO2.out (by simp) (.int .i64 pe) (.slice A1 n c1) (.int .i64 lo)) _ (by simp [World.setCell]; omega)).wider (by simp <;> omega) (by simp [World.setCell]; omega)
      · exact (below_set3 (b := w.heap.size + 1) B (by omega) _ _ _).alloc (by simp [World.setCell]; omega) _
end Go.Proofs.Ythdieeaegplnmaa.Gb
