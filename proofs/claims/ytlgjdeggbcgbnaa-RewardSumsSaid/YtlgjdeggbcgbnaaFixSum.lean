/- fixnum.Sum and the reference's Sum return the sum of a list of words, or the error. -/
import Derived.Test.YtlgjdeggbcgbnaaFixRefF
import Derived.Test.YtlgjdeggbcgbnaaGreat
set_option linter.unusedVariables false
set_option linter.unusedSimpArgs false
namespace Go.Proofs.Ytlgjdeggbcgbnaa
open Go.RowKit

set_option maxHeartbeats 400000 in
theorem rSum_any (A : Option Addr) (n c : Nat) (l : List Int) (w : World) (h : Sl w 1 A n c (iv .u64 l)) (hw : ∀ x ∈ l, Word x) :
    Calls Try.prog 43 #[.slice A n c] w fun e w' => e = .returned (.tuple #[.int .u64 (suN l), .int .i64 (suE l)]) ∧ w = w' := by
  have hs := h.small
  have hl := h.ilen
  obtain ⟨S, hS⟩ : ∃ S, S = suN l := ⟨_, rfl⟩
  obtain ⟨E, hE⟩ : ∃ S, S = suE l := ⟨_, rfl⟩
  rw [← hS, ← hE]
  have HS := Lib.hid (And.intro hS hE)
  have HL := Lib.hid hl
  have HW := Lib.hid hw
  have HH := Lib.hid h
  clear hS hE hl hw h
  go_enter Try.func43, Try.ntmps43
  go_wp2
  go_loopg [4, 5, 6] n (fun g s e i wx => g ≤ n ∧ ∃ s' e' : Int, Hid (e' = 0 ∧ s' = sumL (l.take (n - g)) ∧ s' < 18446744073709551616 ∨ e' = 12 ∧ s' = 0 ∧ S = 0 ∧ E = 12) ∧ s = .int .u64 s' ∧ e = .int .i64 e' ∧ i = .int .i64 ((n - g : Nat) : Int) ∧ wx = w)
  case atStart => exact ⟨Nat.le_refl _, 0, 0, .inl ⟨rfl, by rw [Nat.sub_self]; rfl, by decide⟩, rfl, rfl, by simp, rfl⟩
  case round =>
    obtain ⟨hg, s, e, H, rfl, rfl, hi, rfl⟩ := hrel
    obtain ⟨k, hk⟩ : ∃ k, k = n - gk := ⟨_, rfl⟩
    rw [← hk] at H hi
    subst hi
    rcases H.out with ⟨rfl, H1⟩ | ⟨rfl, rfl, rfl, rfl⟩
    rotate_left
    · clear H hk hg
      by_cases hkn : (k : Int) < n
      · go_wp2
        go_ret2
        exact ⟨rfl, rfl⟩
      · go_wp2
        go_ret2
        exact ⟨rfl, rfl⟩
    clear H
    have H := Lib.hid H1
    clear H1
    by_cases hz : gk = 0
    · have hkn : ¬ (k : Int) < n := by omega
      obtain ⟨h1, h2⟩ := H.out
      have hkl : k = l.length := by have := HL.out; omega
      obtain ⟨e1, e2⟩ := sum_done (l := l) (by rw [← hkl, ← h1]; exact h2)
      rw [← hkl, ← h1] at e1
      obtain rfl : S = s := HS.out.1.trans e1
      obtain rfl : E = 0 := HS.out.2.trans e2
      clear H h1 h2 hkl e1 e2 hz hg hk
      go_wp2
      go_ret2
      exact ⟨rfl, rfl⟩
    · have hkn : (k : Int) < n := by omega
      obtain ⟨h1, h2⟩ := H.out
      have hkl : k < l.length := by have := HL.out; omega
      obtain ⟨g1, g2, g3⟩ := sum_step HW.out hkl (by rw [← h1]; exact h2)
      rw [← h1] at g1 g2 g3
      obtain ⟨b, o, rfl, hb, hc⟩ := HH.out.cell (show k < n from by omega)
      have hc1 := hc k (by omega)
      have R := rAdd_any s (l.getD k 0) g1 (getD_word HW.out k)
      rw [g2, g3] at R
      obtain ⟨x, hx⟩ : ∃ x, x = l.getD k 0 := ⟨_, rfl⟩
      rw [← hx] at hc1 R
      have HK := Lib.hid (And.intro hk (And.intro hg hz))
      by_cases hlt : sumL (l.take (k + 1)) < 18446744073709551616
      · rw [if_pos hlt, if_pos hlt] at R
        have RR := Lib.hid R
        have N := Lib.hid (show sumL (l.take (k + 1)) = sumL (l.take (n - (gk - 1))) ∧ sumL (l.take (k + 1)) < 18446744073709551616 from ⟨by rw [show n - (gk - 1) = k + 1 from by omega], hlt⟩)
        clear R hlt h1 h2 g1 g2 g3 hx hc hb hkl hk hg hz H
        go_wp2_with fail
        refine (RR.out _).mono ?_
        rintro e w1 ⟨rfl, rfl⟩
        go_wp2_with fail
        go_roundg (gk - 1)
        case measure => have := HK.out; omega
        case rel => exact ⟨by have := HK.out; omega, _, _, .inl ⟨rfl, N⟩, rfl, rfl, num_eq (by have := HK.out; omega), rfl⟩
      · rw [if_neg hlt, if_neg hlt] at R
        have RR := Lib.hid R
        obtain ⟨e1, e2⟩ := sum_over HW.out hlt
        obtain rfl : S = 0 := HS.out.1.trans e1
        obtain rfl : E = 12 := HS.out.2.trans e2
        clear R hlt h1 h2 g1 g2 g3 hx hc hb hkl hk hg hz H e1 e2
        go_wp2_with fail
        refine (RR.out _).mono ?_
        rintro e w1 ⟨rfl, rfl⟩
        go_wp2_with fail
        go_roundg (gk - 1)
        case measure => have := HK.out; omega
        case rel => exact ⟨by have := HK.out; omega, _, _, .inr (by simp), rfl, rfl, num_eq (by have := HK.out; omega), rfl⟩

end Go.Proofs.Ytlgjdeggbcgbnaa
