/- law12, plain: a stamp's bytes are read as it, and no others; Compare is an order. Conditions stand in each lemma. -/
import Derived.Test.YthaknigljjnnaaaCodecM
import Derived.Test.YthaknigljjnnaaaStampR
import Derived.Test.YthaknigljjnnaaaStampM
set_option linter.unusedVariables false
set_option linter.unusedSimpArgs false
namespace Go.Proofs.Ythaknigljjnnaaa
open Go.RowKit

theorem fltB_none_ok {k n : Nat} : fltB none k n = false := by
  unfold fltB leftF endF
  simp only
  by_cases h : k < n
  · rw [if_pos h]; simp; omega
  · rw [if_neg h]; simp
theorem putsL4 (a b c d : Int) : putsL [a, b, c, d] = putL a.toNat ++ (putL b.toNat ++ (putL c.toNat ++ putL d.toNat)) := by
  simp [putsL]
/-- one number on -/
theorem tk_put {L rest : List Nat} {k m : Nat} {lo hi : Int} (hL : L.drop k = putL m ++ rest) (hm : m < 18446744073709551616) (h1 : lo ≤ m) (h2 : (m : Int) ≤ hi) :
    tkS L (k, none) lo hi = (k + (putL m).length, none) ∧ tkV L (k, none) lo hi = m ∧ L.drop (k + (putL m).length) = rest := by
  obtain ⟨h3, h4, h5⟩ := rn_put hL hm h1 h2
  refine ⟨by unfold tkS; rw [h4, h5], h3, ?_⟩
  rw [← List.drop_drop, hL, List.drop_left]
theorem tk_of_stB {V S P F : Int} (hk : StampOk V S P F) : tk4 (stB V S P F) (0, none) = ((stB V S P F).length, none) ∧ tkA (stB V S P F) (0, none) = V ∧ tkB (stB V S P F) (0, none) = S ∧ tkC (stB V S P F) (0, none) = P + 1 ∧ tkD (stB V S P F) (0, none) = F := by
  have hl : stB V S P F = putL V.toNat ++ (putL S.toNat ++ (putL (P + 1).toNat ++ (putL F.toNat ++ []))) := by
    unfold stB; rw [if_pos (chkS_of hk)]; unfold stL; rw [putsL4, List.append_nil]
  obtain ⟨L, hL⟩ : ∃ L, L = stB V S P F := ⟨_, rfl⟩
  rw [← hL] at hl ⊢
  obtain ⟨v0, v1, s0, s1, p0, p1, f0, f1, _, _, _⟩ := hk
  obtain ⟨a1, a2, a3⟩ := tk_put (L := L) (k := 0) (lo := 0) (hi := 31) (by rw [List.drop_zero]; exact hl) (by omega) (by omega) (by omega)
  obtain ⟨b1, b2, b3⟩ := tk_put (lo := 1) (hi := 4294967296) a3 (by omega) (by omega) (by omega)
  obtain ⟨c1, c2, c3⟩ := tk_put (lo := 0) (hi := 32) b3 (by omega) (by omega) (by omega)
  obtain ⟨d1, d2, d3⟩ := tk_put (lo := 0) (hi := 4294967296) c3 (by omega) (by omega) (by omega)
  have e1 : tk1 L (0, none) = (0 + (putL V.toNat).length, none) := a1
  have e2 : tk2 L (0, none) = (0 + (putL V.toNat).length + (putL S.toNat).length, none) := by unfold tk2; rw [e1]; exact b1
  have e3 : tk3 L (0, none) = (0 + (putL V.toNat).length + (putL S.toNat).length + (putL (P + 1).toNat).length, none) := by unfold tk3; rw [e2]; exact c1
  have e4 : tk4 L (0, none) = (0 + (putL V.toNat).length + (putL S.toNat).length + (putL (P + 1).toNat).length + (putL F.toNat).length, none) := by unfold tk4; rw [e3]; exact d1
  refine ⟨?_, ?_, ?_, ?_, ?_⟩
  · rw [e4, Prod.mk.injEq]
    refine ⟨?_, rfl⟩
    have := congrArg List.length hl
    simp only [List.length_append, List.length_nil] at this
    omega
  · unfold tkA; rw [a2]; omega
  · unfold tkB; rw [e1, b2]; omega
  · unfold tkC; rw [e2, c2]; omega
  · unfold tkD; rw [e3, d2]; omega
theorem rdS_stB {V S P F : Int} (h : chkS V S P F = 0) : (rdS (stB V S P F)).1 = 0 ∧ rdZ (stB V S P F) (tkA (stB V S P F) (0, none)) = V ∧ rdZ (stB V S P F) (tkB (stB V S P F) (0, none)) = S ∧ rdZ (stB V S P F) (tkC (stB V S P F) (0, none) - 1) = P ∧ rdZ (stB V S P F) (tkD (stB V S P F) (0, none)) = F := by
  obtain ⟨e4, ea, eb, ec, ed⟩ := tk_of_stB (chkS_ok h)
  have hf : tkF (stB V S P F) (0, none) = none := by
    unfold tkF
    rw [e4, ea, eb, ec, ed, fltB_none_ok, show P + 1 - 1 = P from by omega, h]
    simp [failF]
  have h0 : (rdS (stB V S P F)).1 = 0 := by
    unfold rdS
    rw [hf, e4]
    simp [endF]
  unfold rdZ
  rw [if_pos h0, if_pos h0, if_pos h0, if_pos h0, ea, eb, ec, ed]
  exact ⟨h0, rfl, rfl, by omega, rfl⟩
theorem tk_back {L : List Nat} (hB : Byt L) {k : Nat} {lo hi : Int} (hlo : 0 ≤ lo) (h : (tkS L (k, none) lo hi).2 = none) :
    ∃ (m : Nat) (rest : List Nat), L.drop k = putL m ++ rest ∧ tkV L (k, none) lo hi = m ∧ tkS L (k, none) lo hi = (k + (putL m).length, none) ∧ L.drop (k + (putL m).length) = rest := by
  obtain ⟨m, rest, h1, h2, h3, _, _⟩ := rn_back hB hlo (show rnF L k none lo hi = none from h)
  refine ⟨m, rest, h1, h2, ?_, ?_⟩
  · unfold tkS; rw [h3]; exact congrArg (Prod.mk _) h
  · rw [← List.drop_drop, h1, List.drop_left]
theorem tkS_nz {L : List Nat} {s : Nat × Option (Int × Int)} {lo hi : Int} (h : FltNz s.2) : FltNz (tkS L s lo hi).2 := h.rn _ _ _ _
theorem stB_rdS {L : List Nat} (hB : Byt L) (h : (rdS L).1 = 0) : chkS (tkA L (0, none)) (tkB L (0, none)) (tkC L (0, none) - 1) (tkD L (0, none)) = 0 ∧ stB (tkA L (0, none)) (tkB L (0, none)) (tkC L (0, none) - 1) (tkD L (0, none)) = L := by
  have z4 : FltNz (tk4 L (0, none)).2 := tkS_nz (tkS_nz (tkS_nz (tkS_nz FltNz.none)))
  have zF : FltNz (tkF L (0, none)) := by
    unfold tkF
    split
    · exact z4
    · exact z4.fail _ _
  obtain ⟨hf, hn⟩ := endF_zero zF (show (endF (tkF L (0, none)) (tk4 L (0, none)).1 L.length).1 = 0 from h)
  have h4 : (tk4 L (0, none)).2 = none ∧ chkS (tkA L (0, none)) (tkB L (0, none)) (tkC L (0, none) - 1) (tkD L (0, none)) = 0 := by
    unfold tkF at hf
    split at hf
    · rename_i hb
      rw [hf, fltB_none_ok] at hb
      cases hb
    · exact failF_none hf
  obtain ⟨h4, hc⟩ := h4
  have h3 : (tk3 L (0, none)).2 = none := rnF_none (show rnF L _ (tk3 L (0, none)).2 _ _ = none from h4)
  have h2 : (tk2 L (0, none)).2 = none := rnF_none (show rnF L _ (tk2 L (0, none)).2 _ _ = none from h3)
  have h1 : (tk1 L (0, none)).2 = none := rnF_none (show rnF L _ (tk1 L (0, none)).2 _ _ = none from h2)
  obtain ⟨a, r1, a1, a2, a3, a4⟩ := tk_back hB (by decide) (show (tkS L (0, none) 0 31).2 = none from h1)
  have e1 : tk1 L (0, none) = (0 + (putL a).length, none) := a3
  have h2' := h2; unfold tk2 at h2'; rw [e1] at h2'
  obtain ⟨b, r2, b1, b2, b3, b4⟩ := tk_back hB (by decide) h2'
  have e2 : tk2 L (0, none) = (0 + (putL a).length + (putL b).length, none) := by unfold tk2; rw [e1]; exact b3
  have h3' := h3; unfold tk3 at h3'; rw [e2] at h3'
  obtain ⟨c, r3, c1, c2, c3, c4⟩ := tk_back hB (by decide) h3'
  have e3 : tk3 L (0, none) = (0 + (putL a).length + (putL b).length + (putL c).length, none) := by unfold tk3; rw [e2]; exact c3
  have h4' := h4; unfold tk4 at h4'; rw [e3] at h4'
  obtain ⟨d, r4, d1, d2, d3, d4⟩ := tk_back hB (by decide) h4'
  have e4 : tk4 L (0, none) = (0 + (putL a).length + (putL b).length + (putL c).length + (putL d).length, none) := by unfold tk4; rw [e3]; exact d3
  refine ⟨hc, ?_⟩
  have ea : tkA L (0, none) = a := a2
  have eb : tkB L (0, none) = b := by unfold tkB; rw [e1]; exact b2
  have ec : tkC L (0, none) = c := by unfold tkC; rw [e2]; exact c2
  have ed : tkD L (0, none) = d := by unfold tkD; rw [e3]; exact d2
  unfold stB
  rw [if_pos hc]
  unfold stL
  rw [putsL4, ea, eb, ec, ed, show (c : Int) - 1 + 1 = c from by omega]
  rw [Int.toNat_natCast, Int.toNat_natCast, Int.toNat_natCast, Int.toNat_natCast]
  rw [e4] at hn
  have hr : r4 = [] := by
    rw [← d4]
    exact List.drop_eq_nil_of_le hn
  rw [List.drop_zero] at a1
  rw [a4] at b1
  rw [b4] at c1
  rw [c4] at d1
  rw [a1, b1, c1, d1, hr, List.append_nil]

/-- Compare is an order -/
theorem cmp_step {x y : Int} {p q : Int} (h : p = -q) : (if x < y then -1 else if y < x then 1 else p) = -(if y < x then -1 else if x < y then 1 else q) := by
  split
  · rw [if_neg (by omega)]
  · split
    · rfl
    · exact h
theorem cmpL_cons (x y : Int) (l : List (Int × Int)) : cmpL ((x, y) :: l) = if x < y then -1 else if y < x then 1 else cmpL l := rfl
theorem cmp_turn (a b c d a' b' c' d' : Int) : cmpL [(a, a'), (b, b'), (c, c'), (d, d')] = -cmpL [(a', a), (b', b), (c', c), (d', d)] :=
  cmp_step (cmp_step (cmp_step (cmp_step rfl)))
theorem cmp_thru_step {x y z p q r : Int} (h : p ≤ 0 → q ≤ 0 → r ≤ 0) (h1 : (if x < y then -1 else if y < x then 1 else p) ≤ 0) (h2 : (if y < z then -1 else if z < y then 1 else q) ≤ 0) : (if x < z then -1 else if z < x then 1 else r) ≤ 0 := by
  repeat' split at h1
  all_goals repeat' split at h2
  all_goals (repeat' split)
  all_goals first | omega | exact h (by assumption) (by assumption)
theorem cmp_thru (a b c d a' b' c' d' a'' b'' c'' d'' : Int) : cmpL [(a, a'), (b, b'), (c, c'), (d, d')] ≤ 0 → cmpL [(a', a''), (b', b''), (c', c''), (d', d'')] ≤ 0 → cmpL [(a, a''), (b, b''), (c, c''), (d, d'')] ≤ 0 :=
  cmp_thru_step (cmp_thru_step (cmp_thru_step (cmp_thru_step (fun _ _ => by decide))))
theorem cmp_three (l : List (Int × Int)) : cmpL l = -1 ∨ cmpL l = 0 ∨ cmpL l = 1 := by
  induction l with
  | nil => exact .inr (.inl rfl)
  | cons x l ih =>
    obtain ⟨x, y⟩ := x
    rw [cmpL_cons]
    split
    · exact .inl rfl
    · split
      · exact .inr (.inr rfl)
      · exact ih
theorem cmp_zero_step {x y p : Int} : (if x < y then -1 else if y < x then 1 else p) = 0 ↔ x = y ∧ p = 0 := by
  repeat' split
  all_goals omega
theorem cmp_zero (a b c d a' b' c' d' : Int) : cmpL [(a, a'), (b, b'), (c, c'), (d, d')] = 0 ↔ a = a' ∧ b = b' ∧ c = c' ∧ d = d' := by
  rw [cmpL_cons, cmpL_cons, cmpL_cons, cmpL_cons, cmp_zero_step, cmp_zero_step, cmp_zero_step, cmp_zero_step]
  simp [cmpL]
end Go.Proofs.Ythaknigljjnnaaa
