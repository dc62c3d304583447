/- codec.number: which number bytes begin with. Conditions stand in each lemma. -/
import Derived.Test.YtnbeejgppooamaaWriter
import Derived.Deep.LoopGhost
import Derived.WalkSpells
import Derived.WalkLawsBesides
set_option linter.unusedVariables false
set_option linter.unusedSimpArgs false
namespace Go.Proofs.Ytnbeejgppooamaa
open Go.RowKit

/-- the number that bytes begin with, how many bytes it has, and what is wrong -/
def numGo : List Nat → Nat → Nat → Nat × Nat × Int
  | [], _, _ => (0, 0, 6)
  | c :: l, i, acc => if (i = 9 ∧ 1 < c) ∨ (0 < i ∧ c = 0) then (0, 0, 5) else if c < 128 then (acc + c % 128 * 2 ^ (7 * i), i + 1, 0) else numGo l (i + 1) (acc + c % 128 * 2 ^ (7 * i))
theorem numGo_drop {L : List Nat} {k acc : Nat} (h : k < L.length) : numGo (L.drop k) k acc =
    if (k = 9 ∧ 1 < L.getD k 0) ∨ (0 < k ∧ L.getD k 0 = 0) then (0, 0, 5) else if L.getD k 0 < 128 then (acc + L.getD k 0 % 128 * 2 ^ (7 * k), k + 1, 0) else numGo (L.drop (k + 1)) (k + 1) (acc + L.getD k 0 % 128 * 2 ^ (7 * k)) := by
  rw [List.drop_eq_getElem_cons h, numGo, List.getD_eq_getElem?_getD, List.getElem?_eq_getElem h]
  rfl
theorem and_all : ∀ r : Fin 256, bits .and .u8 (r.1 : Int) 127 = ((r.1 % 128 : Nat) : Int) := by decide +kernel
theorem and_byte (c : Nat) (h : c < 256) : bits .and .u8 (c : Int) 127 = ((c % 128 : Nat) : Int) := and_all ⟨c, h⟩
theorem pow7_le {k : Nat} (h : k ≤ 9) : 2 ^ (7 * k) ≤ 9223372036854775808 := Nat.le_trans (Nat.pow_le_pow_right (by decide) (show 7 * k ≤ 63 by omega)) (by decide)
theorem acc_step {acc c k : Nat} (ha : acc < 2 ^ (7 * k)) (hc : c < 128) : acc + c * 2 ^ (7 * k) < 2 ^ (7 * (k + 1)) := by
  have e : 2 ^ (7 * (k + 1)) = 2 ^ (7 * k) * 128 := by rw [show 7 * (k + 1) = 7 * k + 7 from by omega, Nat.pow_add]
  rw [e]
  have : c * 2 ^ (7 * k) ≤ 127 * 2 ^ (7 * k) := Nat.mul_le_mul_right _ (by omega)
  omega
theorem acc_small {acc c k : Nat} (ha : acc < 2 ^ (7 * k)) (hk : k ≤ 9) (hc : c < 128) (h9 : k = 9 → c ≤ 1) : c * 2 ^ (7 * k) < 18446744073709551616 ∧ acc + c * 2 ^ (7 * k) < 18446744073709551616 := by
  have hp := pow7_le hk
  rcases Nat.lt_or_ge k 9 with h | h
  · have h1 := acc_step ha hc
    have h2 := pow7_le (k := k + 1) (by omega)
    omega
  · obtain rfl : k = 9 := by omega
    have h1 := h9 rfl
    have h2 : c * 2 ^ (7 * 9) ≤ 1 * 2 ^ (7 * 9) := Nat.mul_le_mul_right _ h1
    omega
theorem or_acc {acc c k : Nat} (ha : acc < 2 ^ (7 * k)) (h1 : acc < 18446744073709551616) (h2 : c * 2 ^ (7 * k) < 18446744073709551616) : bits .or .u64 (acc : Int) ((c * 2 ^ (7 * k) : Nat) : Int) = ((acc + c * 2 ^ (7 * k) : Nat) : Int) := by
  rw [bits_or_u64_nat _ _ h1 h2]
  congr 1
  have := Nat.two_pow_add_eq_or_of_lt ha c
  rw [Nat.or_comm, Nat.mul_comm c, ← this]
  omega
theorem num_val {acc c k : Nat} (ha : acc < 2 ^ (7 * k)) (h : c % 128 * 2 ^ (7 * k) < 18446744073709551616 ∧ acc + c % 128 * 2 ^ (7 * k) < 18446744073709551616) :
    bits .or .u64 (acc : Int) (IntKind.u64.wrap ((c : Int) % 128 * 2 ^ (7 * k))) = ((acc + c % 128 * 2 ^ (7 * k) : Nat) : Int) := by
  have e : ((c : Int) % 128 * 2 ^ (7 * k)) = ((c % 128 * 2 ^ (7 * k) : Nat) : Int) := by simp
  rw [e, show IntKind.u64.wrap ((c % 128 * 2 ^ (7 * k) : Nat) : Int) = ((c % 128 * 2 ^ (7 * k) : Nat) : Int) from by rw [IntKind.wrap_u64]; omega]
  exact or_acc ha (by omega) h.1
theorem ret3 {k l m : IntKind} {a b c a' b' c' : Int} (h1 : a = a') (h2 : b = b') (h3 : c = c') : Ending.returned (.tuple #[.int k a, .int l b, .int m c]) = .returned (.tuple #[.int k a', .int l b', .int m c']) := by rw [h1, h2, h3]
/-- the bytes are bytes -/
def Byt (L : List Nat) : Prop := ∀ x ∈ L, x < 256
theorem Byt.get {L : List Nat} (h : Byt L) (k : Nat) : L.getD k 0 < 256 := by
  rw [List.getD_eq_getElem?_getD]
  rcases Nat.lt_or_ge k L.length with hk | hk
  · rw [List.getElem?_eq_getElem hk]; exact h _ (List.getElem_mem hk)
  · rw [List.getElem?_eq_none hk]; decide
theorem by_get (L : List Nat) (j : Nat) (h : j < L.length) : (by_ L)[j]? = some (.int .u8 ((L.getD j 0 : Nat) : Int)) := by
  unfold by_
  rw [List.getElem?_map, List.getD_eq_getElem?_getD, List.getElem?_eq_getElem h]
  rfl
set_option maxRecDepth 100000 in
set_option maxHeartbeats 1000000 in
theorem cnumber_any (A : Option Addr) (n c : Nat) (L : List Nat) (w : World) (h : Sl w 1 A n c (by_ L)) (hB : Byt L) :
    Calls Try.prog 88 #[.slice A n c] w fun r w' => r = .returned (.tuple #[.int .u64 ((numGo L 0 0).1 : Int), .int .i64 ((numGo L 0 0).2.1 : Int), .int .i64 (numGo L 0 0).2.2]) ∧ w = w' := by
  have hs := h.small
  have hL : L.length = n := by have := h.len; rw [by_len] at this; omega
  obtain ⟨V, hV⟩ : ∃ V, V = numGo L 0 0 := ⟨_, rfl⟩
  rw [← hV]
  have HV := Lib.hid hV
  have HL := Lib.hid hL
  have HS := Lib.hid h
  have HB := Lib.hid hB
  clear hV hL h hB
  go_enter Try.func88, Try.ntmps88
  go_wp2
  go_loopg [5, 10] n (fun g a i wx => g ≤ n ∧ n - g ≤ 9 ∧ ∃ acc : Nat, Hid (V = numGo (L.drop (n - g)) (n - g) acc ∧ acc < 2 ^ (7 * (n - g))) ∧ acc < 18446744073709551616 ∧ a = .int .u64 (acc : Int) ∧ i = .int .i64 ((n - g : Nat) : Int) ∧ wx = w)
  case atStart => exact ⟨Nat.le_refl _, by omega, 0, ⟨by rw [Nat.sub_self]; exact HV.out, by rw [Nat.sub_self]; decide⟩, by decide, rfl, by simp, rfl⟩
  case round =>
    obtain ⟨hg, hg9, acc, H, ha, rfl, hi, rfl⟩ := hrel
    obtain ⟨k, hk⟩ : ∃ k, k = n - gk := ⟨_, rfl⟩
    rw [← hk] at H hi hg9
    subst hi
    by_cases hz : gk = 0
    · have hkn : ¬ (k : Int) < n := by omega
      have e : V = (0, 0, 6) := by
        rw [H.out.1, List.drop_eq_nil_of_le (by have := HL.out; omega)]; rfl
      subst e
      clear H hz hg hk hg9
      go_wp2
      exact bodyPost_ret (by simp [results, Try.results88, go_sem]; try rfl) rfl ⟨rfl, rfl⟩
    · have hkn : (k : Int) < n := by omega
      obtain ⟨b, o, rfl, hb, hc⟩ := HS.out.at_ (show 0 < n from by omega)
      have hkl : k < L.length := by have := HL.out; omega
      have hc1 := hc k _ (by_get L k hkl)
      have hx := numGo_drop (L := L) (k := k) (acc := acc) hkl
      have hcb := HB.out.get k
      obtain ⟨c, hcc⟩ : ∃ c, c = L.getD k 0 := ⟨_, rfl⟩
      rw [← hcc] at hc1 hx hcb
      rw [← H.out.1] at hx
      have HX := Lib.hid hx
      have HK := Lib.hid (And.intro hk (And.intro hg hz))
      clear hx hcc hc hk hg hz
      have hcI : (0 : Int) ≤ (c : Int) := by omega
      have hcJ : (c : Int) < 256 := by omega
      have hk0 : (0 : Int) ≤ (k : Int) := by omega
      have hk9 : (k : Int) ≤ 9 := by omega
      by_cases hA : k = 9 ∧ 1 < c
      · have e : V = (0, 0, 5) := by rw [HX.out, if_pos (.inl hA)]
        subst e
        have p1 : ((k : Int) == 9) = true := by simp [hA.1]
        have p2 : decide (1 < (c : Int)) = true := decide_eq_true (by omega)
        clear hA H HX
        go_wp2
        exact bodyPost_ret (by simp [results, Try.results88, go_sem]; try rfl) rfl ⟨rfl, rfl⟩
      · by_cases hB : 0 < k ∧ c = 0
        · have e : V = (0, 0, 5) := by rw [HX.out, if_pos (.inr hB)]
          subst e
          have p3 : decide (0 < (k : Int)) = true := decide_eq_true (by omega)
          have q3 : decide (0 < k) = true := decide_eq_true (by omega)
          have hc2 : wr.cell? ⟨b, o + k, none⟩ = some (.int .u8 0) := by rw [hc1, hB.2]; rfl
          clear hA hB H HX hc1 hcI hcJ hcb
          by_cases p : k = 9
          · have p1 : ((k : Int) == 9) = true := by simp [p]
            clear p
            go_wp2
            exact bodyPost_ret (by simp [results, Try.results88, go_sem]; try rfl) rfl ⟨rfl, rfl⟩
          · have p1 : ((k : Int) == 9) = false := by simp; omega
            clear p
            go_wp2
            exact bodyPost_ret (by simp [results, Try.results88, go_sem]; try rfl) rfl ⟨rfl, rfl⟩
        · have hx := HX.out
          rw [if_neg (by omega)] at hx
          have hsm := acc_small (c := c % 128) H.out.2 hg9 (by omega) (by omega)
          have HA := Lib.hid H.out.2
          have HSM := Lib.hid hsm
          have HX2 := Lib.hid hx
          have e1 := and_byte c hcb
          have hc7 : ((c % 128 : Nat) : Int) < 128 := by omega
          have H9 := Lib.hid (show k = 9 → c < 128 from fun hh => by omega)
          have hcases : k = 0 ∨ (¬ k = 9 ∧ 0 < k ∧ ¬ c = 0) ∨ (k = 9 ∧ c = 1) := by omega
          clear hA hB H HX hx hsm
          rcases hcases with hk1 | ⟨hk1, hk2, hc3⟩ | ⟨hk1, hc3⟩
          · have p1 : ((k : Int) == 9) = false := by simp; omega
            have p3 : decide (0 < (k : Int)) = false := by simp; omega
            have q3 : decide (0 < k) = false := by simp; omega
            clear hk1
            by_cases h8 : (c : Int) < 128
            · have hv := HX2.out
              rw [if_pos (by omega)] at hv
              replace hv := Lib.hid hv
              go_wp2
              refine bodyPost_ret (v := .tuple #[.int .u64 (bits .or .u64 (acc : Int) (IntKind.u64.wrap ((c : Int) % 128 * 2 ^ (7 * k)))), .int .i64 ((k : Int) + 1), .int .i64 0]) (by simp [results, Try.results88, go_sem]; try rfl) rfl ⟨ret3 ?_ ?_ ?_, rfl⟩
              · rw [hv.out]; exact num_val HA.out HSM.out
              · rw [hv.out]; simp
              · rw [hv.out]
            · have hv := HX2.out
              rw [if_neg (by omega)] at hv
              replace hv := Lib.hid hv
              go_wp2
              go_roundg (gk - 1)
              case measure => have := HK.out; omega
              case rel =>
                have e2 : n - (gk - 1) = k + 1 := by have := HK.out; omega
                have h9 : ¬ k = 9 := by intro hh; have := H9.out hh; omega
                exact ⟨by have := HK.out; omega, by omega, acc + c % 128 * 2 ^ (7 * k), by rw [e2]; exact Lib.hid ⟨hv.out, acc_step HA.out (by omega)⟩, HSM.out.2, num_eq (num_val HA.out HSM.out), num_eq (by rw [e2]; simp), rfl⟩
          · have p1 : ((k : Int) == 9) = false := by simp; omega
            have p3 : decide (0 < (k : Int)) = true := by simp; omega
            have q3 : decide (0 < k) = true := by simp; omega
            have p4 : ((c : Int) == 0) = false := by simp; omega
            clear hk1 hc3
            by_cases h8 : (c : Int) < 128
            · have hv := HX2.out
              rw [if_pos (by omega)] at hv
              replace hv := Lib.hid hv
              go_wp2
              refine bodyPost_ret (v := .tuple #[.int .u64 (bits .or .u64 (acc : Int) (IntKind.u64.wrap ((c : Int) % 128 * 2 ^ (7 * k)))), .int .i64 ((k : Int) + 1), .int .i64 0]) (by simp [results, Try.results88, go_sem]; try rfl) rfl ⟨ret3 ?_ ?_ ?_, rfl⟩
              · rw [hv.out]; exact num_val HA.out HSM.out
              · rw [hv.out]; simp
              · rw [hv.out]
            · have hv := HX2.out
              rw [if_neg (by omega)] at hv
              replace hv := Lib.hid hv
              go_wp2
              go_roundg (gk - 1)
              case measure => have := HK.out; omega
              case rel =>
                have e2 : n - (gk - 1) = k + 1 := by have := HK.out; omega
                have h9 : ¬ k = 9 := by intro hh; have := H9.out hh; omega
                exact ⟨by have := HK.out; omega, by omega, acc + c % 128 * 2 ^ (7 * k), by rw [e2]; exact Lib.hid ⟨hv.out, acc_step HA.out (by omega)⟩, HSM.out.2, num_eq (num_val HA.out HSM.out), num_eq (by rw [e2]; simp), rfl⟩
          · have p1 : ((k : Int) == 9) = true := by simp; omega
            have p2 : decide (1 < (c : Int)) = false := by simp; omega
            have q2 : decide (1 < c) = false := by simp; omega
            have p3 : decide (0 < (k : Int)) = true := by simp; omega
            have q3 : decide (0 < k) = true := by simp; omega
            have p4 : ((c : Int) == 0) = false := by simp; omega
            clear hk1 hc3
            by_cases h8 : (c : Int) < 128
            · have hv := HX2.out
              rw [if_pos (by omega)] at hv
              replace hv := Lib.hid hv
              go_wp2
              refine bodyPost_ret (v := .tuple #[.int .u64 (bits .or .u64 (acc : Int) (IntKind.u64.wrap ((c : Int) % 128 * 2 ^ (7 * k)))), .int .i64 ((k : Int) + 1), .int .i64 0]) (by simp [results, Try.results88, go_sem]; try rfl) rfl ⟨ret3 ?_ ?_ ?_, rfl⟩
              · rw [hv.out]; exact num_val HA.out HSM.out
              · rw [hv.out]; simp
              · rw [hv.out]
            · have hv := HX2.out
              rw [if_neg (by omega)] at hv
              replace hv := Lib.hid hv
              go_wp2
              go_roundg (gk - 1)
              case measure => have := HK.out; omega
              case rel =>
                have e2 : n - (gk - 1) = k + 1 := by have := HK.out; omega
                have h9 : ¬ k = 9 := by intro hh; have := H9.out hh; omega
                exact ⟨by have := HK.out; omega, by omega, acc + c % 128 * 2 ^ (7 * k), by rw [e2]; exact Lib.hid ⟨hv.out, acc_step HA.out (by omega)⟩, HSM.out.2, num_eq (num_val HA.out HSM.out), num_eq (by rw [e2]; simp), rfl⟩
end Go.Proofs.Ytnbeejgppooamaa
