/- law17: ActiveRichest returns true, whatever comes in. Conditions: none but those of the arguments' types. -/
import Derived.Test.YtplmgcbjfmdebaaActKnownW
import Derived.Test.YtplmgcbjfmdebaaLow
import Derived.Test.YtplmgcbjfmdebaaOpen
set_option linter.unusedVariables false
set_option linter.unusedSimpArgs false
namespace Go.Proofs.Ytplmgcbjfmdebaa
open Go.RowKit Go.Shelf Go.ChangeShapes Go.WideShapes Go.Deep

theorem ahead_mono {ts : List Int} {ms : List Bool} {i k : Nat} (h : rich (pr ts i) (pr ts k)) : aheadL ts ms i ≤ aheadL ts ms k := by
  unfold aheadL aheadT
  refine List.countP_mono_left (fun j _ hj => ?_)
  simp only [Bool.and_eq_true, decide_eq_true_eq] at hj ⊢
  exact ⟨hj.1, rich_trans hj.2 h⟩
/-- one that counts and is left out is not richer than one that is in -/
theorem left_out {ts : List Int} {ms : List Bool} {most : Int} {i k : Nat} (hi : ¬ (aheadL ts ms i : Int) < most) (hk : (aheadL ts ms k : Int) < most) : ¬ (tk ts k < tk ts i ∨ tk ts i = tk ts k ∧ i < k) := by
  intro h
  have := ahead_mono (ms := ms) ((rich_pr ts i k).2 h)
  omega
theorem count_first {α : Type} (f : α → Nat) (most : Int) : ∀ (S : List α) (o : Nat), (∀ n x, S[n]? = some x → f x = o + n) → S.countP (fun x => decide ((f x : Int) < most)) = min S.length (most - o).toNat
  | [], o, _ => by simp
  | a :: S, o, h => by
    have h0 : f a = o := h 0 a rfl
    have ih := count_first f most S (o + 1) (fun n x hx => by have := h (n + 1) x (by simpa using hx); omega)
    rw [List.countP_cons, ih, h0, List.length_cons]
    by_cases hl : (o : Int) < most
    · simp only [hl, decide_true, if_true]; omega
    · simp only [hl, decide_false]; simp; omega
/-- how many count, how many are in, up to a place -/
def cT (ts : List Int) (ms : List Bool) : Nat → Nat
  | 0 => 0
  | k + 1 => cT ts ms k + if cnt ts ms k then 1 else 0
def inT (ts : List Int) (ms : List Bool) (most : Int) : Nat → Nat
  | 0 => 0
  | k + 1 => inT ts ms most k + if cnt ts ms k && decide ((aheadL ts ms k : Int) < most) then 1 else 0
theorem cT_le (ts : List Int) (ms : List Bool) : ∀ k, cT ts ms k ≤ k
  | 0 => Nat.le_refl _
  | k + 1 => by
    have := cT_le ts ms k
    unfold cT
    split <;> omega
theorem inT_le (ts : List Int) (ms : List Bool) (most : Int) : ∀ k, inT ts ms most k ≤ k
  | 0 => Nat.le_refl _
  | k + 1 => by
    have := inT_le ts ms most k
    unfold inT
    split <;> omega
theorem cT_count (ts : List Int) (ms : List Bool) : ∀ k, cT ts ms k = (List.range k).countP (cnt ts ms)
  | 0 => rfl
  | k + 1 => by
    rw [cT, cT_count ts ms k, List.range_succ, List.countP_append]
    simp [List.countP_cons]
theorem inT_count (ts : List Int) (ms : List Bool) (most : Int) : ∀ k, inT ts ms most k = (List.range k).countP (fun i => cnt ts ms i && decide ((aheadL ts ms i : Int) < most))
  | 0 => rfl
  | k + 1 => by
    rw [inT, inT_count ts ms most k, List.range_succ, List.countP_append]
    simp [List.countP_cons]
theorem cT_rank (ts : List Int) (ms : List Bool) : cT ts ms (allN ts ms) = (rankV ts ms).length := by rw [cT_count, rank_len, cntL_len]
theorem inT_rank (ts : List Int) (ms : List Bool) (most : Int) : inT ts ms most (allN ts ms) = min (rankV ts ms).length most.toNat := by
  obtain ⟨S, hp, hs⟩ := sorted_ex (cntL ts ms (allN ts ms))
  have h1 : inT ts ms most (allN ts ms) = (cntL ts ms (allN ts ms)).countP (fun p => decide ((aheadL ts ms p.1.toNat : Int) < most)) := by
    rw [inT_count]
    unfold cntL
    rw [List.countP_map, List.countP_filter]
    congr 1
    funext i
    simp only [Function.comp, pr, Int.toNat_natCast]
    exact Bool.and_comm _ _
  rw [h1, ← hp.countP_eq, count_first (fun p : Int × Int => aheadL ts ms p.1.toNat) most S 0, rank_len, hp.length_eq]
  · simp
  · intro n x hx
    obtain ⟨i, _, _, h3, h4⟩ := sorted_at hp hs hx
    rw [h3]
    simp [pr, h4]
theorem chooV_getD {ts : List Int} {ms : List Bool} {most : Int} {i : Nat} (h : i < allN ts ms) : (chooV ts ms most).getD i false = (cnt ts ms i && decide ((aheadL ts ms i : Int) < most)) := by
  rw [List.getD_eq_getElem?_getD, chooV_get h]; rfl
set_option maxRecDepth 100000 in
set_option maxHeartbeats 4000000 in
theorem ActiveRichest_a (A B : Option Addr) (n c m d : Nat) (most : Int) (w : World) (hl : ¬ n ≤ 50) (hs : n ≤ 9223372036854775807) (hs2 : m ≤ 9223372036854775807) :
    Calls Try.prog 6 #[.slice A n c, .slice B m d, .int .i64 most] w fun r w' => r = .returned (.bool true) ∧ Ext w w' := by
  have hM1 : (50 : Int) < (n : Int) := by omega
  clear hl
  go_enter Try.func6, Try.ntmps6
  go_wp2_with fail
  (with_reducible refine (ActiveKnown_any _).mono ?_)
  rintro e w1 ⟨rfl, hx1⟩
  have z1 := hx1.size
  try simp at z1
  have X1 : Hid (Ext w w1) := Lib.hid (Ext.trans (by repeat (first | with_reducible exact Ext.refl w | with_reducible refine Ext.drew ?_ | with_reducible refine Ext.drewN ?_ _ | with_reducible refine Ext.alloc ?_ _ | with_reducible refine Ext.setCell ?_ (by first | omega | (simp; done) | (simp; omega)) _)) hx1)
  clear hx1 z1
  go_wp2_with fail
  go_ret
  exact ⟨rfl, (by repeat (first | with_reducible exact X1.out | with_reducible refine Ext.drew ?_ | with_reducible refine Ext.drewN ?_ _ | with_reducible refine Ext.alloc ?_ _ | with_reducible refine Ext.setCell ?_ (by first | omega | (simp; done) | (simp; omega)) _))⟩
set_option maxRecDepth 100000 in
set_option maxHeartbeats 4000000 in
theorem ActiveRichest_b (A B : Option Addr) (n c m d : Nat) (most : Int) (w : World) (h1 : n ≤ 50) (h2 : ¬ m ≤ 50) (hs : n ≤ 9223372036854775807) (hs2 : m ≤ 9223372036854775807) :
    Calls Try.prog 6 #[.slice A n c, .slice B m d, .int .i64 most] w fun r w' => r = .returned (.bool true) ∧ Ext w w' := by
  have hM1 : ¬ (50 : Int) < (n : Int) := by omega
  have hM2 : (50 : Int) < (m : Int) := by omega
  clear h1 h2
  go_enter Try.func6, Try.ntmps6
  go_wp2_with fail
  (with_reducible refine (ActiveKnown_any _).mono ?_)
  rintro e w1 ⟨rfl, hx1⟩
  have z1 := hx1.size
  try simp at z1
  have X1 : Hid (Ext w w1) := Lib.hid (Ext.trans (by repeat (first | with_reducible exact Ext.refl w | with_reducible refine Ext.drew ?_ | with_reducible refine Ext.drewN ?_ _ | with_reducible refine Ext.alloc ?_ _ | with_reducible refine Ext.setCell ?_ (by first | omega | (simp; done) | (simp; omega)) _)) hx1)
  clear hx1 z1
  go_wp2_with fail
  go_ret
  exact ⟨rfl, (by repeat (first | with_reducible exact X1.out | with_reducible refine Ext.drew ?_ | with_reducible refine Ext.drewN ?_ _ | with_reducible refine Ext.alloc ?_ _ | with_reducible refine Ext.setCell ?_ (by first | omega | (simp; done) | (simp; omega)) _))⟩
set_option maxRecDepth 100000 in
set_option maxHeartbeats 4000000 in
theorem ActiveRichest_main (A B : Option Addr) (n c m d : Nat) (ts : List Int) (ms : List Bool) (most : Int) (w : World) (h : Sl w 1 A n c (iv .u64 ts)) (k : Sl w 1 B m d (bv ms)) (hn : n ≤ 50) (hm : m ≤ 50) (hw : ∀ x ∈ ts, Word x) (hmf : -9223372036854775808 ≤ most ∧ most ≤ 9223372036854775807) :
    Calls Try.prog 6 #[.slice A n c, .slice B m d, .int .i64 most] w fun r w' => r = .returned (.bool true) ∧ Ext w w' := by
  have hM1 : ¬ (50 : Int) < (n : Int) := by omega
  have hM2 : ¬ (50 : Int) < (m : Int) := by omega
  obtain ⟨K, hK⟩ : ∃ K, K = max n m := ⟨_, rfl⟩
  have hKa : allN ts ms = K := by unfold allN; rw [h.ilen, k.blen, hK]
  have hKs : K ≤ 50 := by omega
  have hmax := max_run n m K hK
  obtain ⟨R, hR⟩ : ∃ R, rankV ts ms = R := ⟨_, rfl⟩
  obtain ⟨V, hV⟩ : ∃ V, chooV ts ms most = V := ⟨_, rfl⟩
  have hVl : V.length = K := by rw [← hV, chooV_len, hKa]
  obtain ⟨X, hX⟩ : ∃ X : Int, X = max most 0 := ⟨_, rfl⟩
  obtain ⟨N, hN⟩ : ∃ N, N = R.length := ⟨_, rfl⟩
  obtain ⟨M, hM⟩ : ∃ M : Nat, M = min N most.toNat := ⟨_, rfl⟩
  have hmx : ∀ ts t w, (Builtin.max_ ts t #[.int .i64 most, .int .i64 0]).run Try.prog w = .ok (.int .i64 X) w := by
    intro ts t w
    rw [run_max_int2, hX]
    congr 2
    split <;> omega
  have hmn : ∀ ts t w, (Builtin.min_ ts t #[.int .i64 (N : Int), .int .i64 X]).run Try.prog w = .ok (.int .i64 (M : Int)) w := by
    intro ts t w
    rw [run_min_int2, hM, hX]
    congr 2
    split <;> omega
  have hcN : cT ts ms K = N := by rw [← hKa, cT_rank, hR, hN]
  have hiM : inT ts ms most K = M := by rw [← hKa, inT_rank, hR, hM, hN]
  have hNs : N ≤ 50 := by have := cT_le ts ms K; omega
  have hMs : M ≤ 50 := by omega
  have F1 := Lib.hid hR
  have F2 := Lib.hid hV
  have HF := Lib.hid (And.intro hKa (And.intro hcN (And.intro hiM (And.intro hM hN))))
  have HW := Lib.hid hw
  have HS := Lib.hid h.low
  have HM := Lib.hid k.low
  have hKK : ((K : Int) != (K : Int)) = false := by simp
  have hNN : ((N : Int) != (N : Int)) = false := by simp
  have hMM : ((M : Int) != (M : Int)) = false := by simp
  clear h k hw hK hKa hX hR hV hM hcN hiM hN
  go_enter Try.func6, Try.ntmps6
  go_wp2_with fail
  (with_reducible refine (ActiveKnown_any _).mono ?_)
  rintro e w1 ⟨rfl, hx1⟩
  have z1 := hx1.size
  try simp at z1
  replace HS := Lib.hid (HS.out.ext (Ext.trans (by repeat (first | with_reducible exact Ext.refl _ | with_reducible refine Ext.drew ?_ | with_reducible refine Ext.drewN ?_ _ | with_reducible refine Ext.alloc ?_ _ | with_reducible refine Ext.setCell ?_ (by first | omega | (simp; done) | (simp; omega)) _)) hx1))
  replace HM := Lib.hid (HM.out.ext (Ext.trans (by repeat (first | with_reducible exact Ext.refl _ | with_reducible refine Ext.drew ?_ | with_reducible refine Ext.drewN ?_ _ | with_reducible refine Ext.alloc ?_ _ | with_reducible refine Ext.setCell ?_ (by first | omega | (simp; done) | (simp; omega)) _)) hx1))
  have X1 : Hid (Ext w w1) := Lib.hid (Ext.trans (by repeat (first | with_reducible exact Ext.refl w | with_reducible refine Ext.drew ?_ | with_reducible refine Ext.drewN ?_ _ | with_reducible refine Ext.alloc ?_ _ | with_reducible refine Ext.setCell ?_ (by first | omega | (simp; done) | (simp; omega)) _)) hx1)
  clear hx1
  go_wp2_with fail
  (with_reducible refine (choose_ev A B n c m d ts ms most V K _ (HS.out.ext (by repeat (first | with_reducible exact Ext.refl _ | with_reducible refine Ext.drew ?_ | with_reducible refine Ext.drewN ?_ _ | with_reducible refine Ext.alloc ?_ _ | with_reducible refine Ext.setCell ?_ (by first | omega | (simp; done) | (simp; omega)) _))).sl (HM.out.ext (by repeat (first | with_reducible exact Ext.refl _ | with_reducible refine Ext.drew ?_ | with_reducible refine Ext.drewN ?_ _ | with_reducible refine Ext.alloc ?_ _ | with_reducible refine Ext.setCell ?_ (by first | omega | (simp; done) | (simp; omega)) _))).sl (by omega) (by omega) HW.out F2.out hVl).mono ?_)
  rintro e w2 ⟨A1, c1, rfl, hO1, hx2⟩
  have z2 := hx2.size
  try simp at z2
  replace HS := Lib.hid (HS.out.ext (Ext.trans (by repeat (first | with_reducible exact Ext.refl _ | with_reducible refine Ext.drew ?_ | with_reducible refine Ext.drewN ?_ _ | with_reducible refine Ext.alloc ?_ _ | with_reducible refine Ext.setCell ?_ (by first | omega | (simp; done) | (simp; omega)) _)) hx2))
  replace HM := Lib.hid (HM.out.ext (Ext.trans (by repeat (first | with_reducible exact Ext.refl _ | with_reducible refine Ext.drew ?_ | with_reducible refine Ext.drewN ?_ _ | with_reducible refine Ext.alloc ?_ _ | with_reducible refine Ext.setCell ?_ (by first | omega | (simp; done) | (simp; omega)) _)) hx2))
  have X2 : Hid (Ext w w2) := Lib.hid (Ext.trans (by repeat (first | with_reducible exact X1.out | with_reducible refine Ext.drew ?_ | with_reducible refine Ext.drewN ?_ _ | with_reducible refine Ext.alloc ?_ _ | with_reducible refine Ext.setCell ?_ (by first | omega | (simp; done) | (simp; omega)) _)) hx2)
  have HV := Lib.hid hO1
  clear X1 hx2 hO1
  go_wp2_with fail
  (with_reducible refine (rank_ev A B n c m d ts ms R N _ (HS.out.ext (by repeat (first | with_reducible exact Ext.refl _ | with_reducible refine Ext.drew ?_ | with_reducible refine Ext.drewN ?_ _ | with_reducible refine Ext.alloc ?_ _ | with_reducible refine Ext.setCell ?_ (by first | omega | (simp; done) | (simp; omega)) _))).sl (HM.out.ext (by repeat (first | with_reducible exact Ext.refl _ | with_reducible refine Ext.drew ?_ | with_reducible refine Ext.drewN ?_ _ | with_reducible refine Ext.alloc ?_ _ | with_reducible refine Ext.setCell ?_ (by first | omega | (simp; done) | (simp; omega)) _))).sl (by omega) (by omega) HW.out F1.out HF.out.2.2.2.2.symm).mono ?_)
  rintro e w3 ⟨A2, c2, rfl, hO2, hx3⟩
  have z3 := hx3.size
  try simp at z3
  replace HS := Lib.hid (HS.out.ext (Ext.trans (by repeat (first | with_reducible exact Ext.refl _ | with_reducible refine Ext.drew ?_ | with_reducible refine Ext.drewN ?_ _ | with_reducible refine Ext.alloc ?_ _ | with_reducible refine Ext.setCell ?_ (by first | omega | (simp; done) | (simp; omega)) _)) hx3))
  replace HM := Lib.hid (HM.out.ext (Ext.trans (by repeat (first | with_reducible exact Ext.refl _ | with_reducible refine Ext.drew ?_ | with_reducible refine Ext.drewN ?_ _ | with_reducible refine Ext.alloc ?_ _ | with_reducible refine Ext.setCell ?_ (by first | omega | (simp; done) | (simp; omega)) _)) hx3))
  replace HV := Lib.hid (HV.out.ext (Ext.trans (by repeat (first | with_reducible exact Ext.refl _ | with_reducible refine Ext.drew ?_ | with_reducible refine Ext.drewN ?_ _ | with_reducible refine Ext.alloc ?_ _ | with_reducible refine Ext.setCell ?_ (by first | omega | (simp; done) | (simp; omega)) _)) hx3))
  have X3 : Hid (Ext w w3) := Lib.hid (Ext.trans (by repeat (first | with_reducible exact X2.out | with_reducible refine Ext.drew ?_ | with_reducible refine Ext.drewN ?_ _ | with_reducible refine Ext.alloc ?_ _ | with_reducible refine Ext.setCell ?_ (by first | omega | (simp; done) | (simp; omega)) _)) hx3)
  have HR := Lib.hid hO2
  clear X2 hx3 hO2
  have HS0 := HS
  obtain ⟨w0, hw0⟩ : ∃ w0, w0 = w3 := ⟨_, rfl⟩
  rw [← hw0] at HS HM HV HR X3 ⊢
  have HX0 := X3
  clear HS0 X3 hw0 z1 z2 z3
  have HVs := Lib.hid (OwnBool.sl HV.out)
  have HRs := Lib.hid (OwnInt.sl HR.out)
  go_wp2
  go_loopg [11, 12, 13] K (fun gh p q i wx => gh ≤ K ∧ i = .int .i64 ((K - gh : Nat) : Int) ∧ (∃ a : Nat, p = .int .i64 (a : Int) ∧ a ≤ 1000 - gh ∧ Hid (a = cT ts ms (K - gh))) ∧ (∃ b : Nat, q = .int .i64 (b : Int) ∧ b ≤ 1000 - gh ∧ Hid (b = inT ts ms most (K - gh))) ∧ Hid (Ext w0 wx))
  case atStart => exact ⟨Nat.le_refl _, by simp, ⟨0, rfl, by omega, Lib.hid (by rw [Nat.sub_self]; rfl)⟩, ⟨0, rfl, by omega, Lib.hid (by rw [Nat.sub_self]; rfl)⟩, Lib.hid (Ext.refl _)⟩
  case round =>
    obtain ⟨hg, hi, ⟨a, rfl, ha1, ha⟩, ⟨b, rfl, hb1, hb⟩, hx⟩ := hrel
    obtain ⟨gk2, hgk2⟩ : ∃ g : Nat, g = gk := ⟨_, rfl⟩
    subst hgk2
    obtain ⟨k, hk⟩ : ∃ k, k = K - gk2 := ⟨_, rfl⟩
    rw [← hk] at hi ha hb
    subst hi
    by_cases hz : gk2 = 0
    · have hkn : ¬ (k : Int) < (K : Int) := by omega
      have hkK : k = K := by omega
      obtain rfl : a = N := by rw [ha.out, hkK, HF.out.2.1]
      obtain rfl : b = M := by rw [hb.out, hkK, HF.out.2.2.1]
      clear hk hg hz ha hb ha1 hb1 hkK
      go_wp2
      go_loopg [17] a (fun gh i wx => gh ≤ a ∧ i = .int .i64 ((a - gh : Nat) : Int) ∧ Hid (Ext w0 wx))
      case atStart => exact ⟨Nat.le_refl _, by simp, hx⟩
      case round =>
        clear hx
        obtain ⟨hg, hj, hx⟩ := hrel
        obtain ⟨j, hjj⟩ : ∃ j, j = a - gk := ⟨_, rfl⟩
        rw [← hjj] at hj
        subst hj
        by_cases hz : gk = 0
        · have hjn : ¬ (j : Int) < (a : Int) := by omega
          have E := Lib.hid (HX0.out.trans hx.out)
          clear hjj hg hz
          go_wp2
          go_ret
          exact ⟨rfl, E.out⟩
        · have hjn : (j : Int) < (a : Int) := by omega
          obtain ⟨x, hxj⟩ : ∃ x, R[j]? = some x := ⟨_, List.getElem?_eq_getElem (by have := HF.out.2.2.2.2; omega)⟩
          obtain ⟨i, rfl, hi1, hi2, hi3⟩ := rank_at (F1.out ▸ hxj)
          rw [HF.out.1] at hi1
          obtain ⟨b1, o1, rfl, hb1, hc1⟩ := (HRs.out.ext hx.out).cell (show j < a from by omega)
          have x_0 := hc1 j (by omega)
          rw [show R.getD j 0 = (i : Int) from by rw [List.getD_eq_getElem?_getD, hxj]; rfl] at x_0
          obtain ⟨b2, o2, rfl, hb2, y_0⟩ := (HVs.out.ext hx.out).bcell hi1
          have hin : V.getD i false = decide ((j : Int) < (b : Int)) := by
            rw [← F2.out, chooV_getD (by rw [HF.out.1]; exact hi1), hi2, hi3, HF.out.2.2.2.1, Bool.true_and]
            congr 1
            apply propext
            omega
          obtain ⟨u, hu⟩ : ∃ u, u = V.getD i false := ⟨_, rfl⟩
          rw [← hu] at y_0 hin
          have hi0 : ¬ (i : Int) < 0 := by omega
          have hiK : (i : Int) < (K : Int) := by omega
          have hiK2 : ¬ (K : Int) ≤ (i : Int) := by omega
          have HJ := Lib.hid (And.intro hjj (And.intro hg hz))
          by_cases hjb : (j : Int) < (b : Int)
          · obtain rfl : u = true := by rw [hin]; exact decide_eq_true hjb
            have hd : decide ((j : Int) < (b : Int)) = true := decide_eq_true hjb
            clear hjj hg hz hxj hi1 hi2 hi3 hc1 hu hin
            go_wp2
            go_roundg (gk - 1)
            case measure => have := HJ.out; omega
            case rel => exact ⟨by have := HJ.out; omega, num_eq (by have := HJ.out; omega), hx⟩
          · obtain rfl : u = false := by rw [hin]; exact decide_eq_false hjb
            have hd : decide ((j : Int) < (b : Int)) = false := decide_eq_false hjb
            clear hjj hg hz hxj hi1 hi2 hi3 hc1 hu hin
            go_wp2
            go_roundg (gk - 1)
            case measure => have := HJ.out; omega
            case rel => exact ⟨by have := HJ.out; omega, num_eq (by have := HJ.out; omega), hx⟩
    · have hkn : (k : Int) < (K : Int) := by omega
      obtain ⟨v, hv⟩ : ∃ v, v = tk ts k := ⟨_, rfl⟩
      obtain ⟨f, hf⟩ : ∃ f, f = isB ms k := ⟨_, rfl⟩
      obtain ⟨b1, e1, hlo1, hb1', x_0', _⟩ := HV.out.in_pos (show k < K from by omega)
      obtain ⟨y, hy⟩ : ∃ y, y = V.getD k false := ⟨_, rfl⟩
      rw [← hy] at x_0'
      subst e1
      have x_0 := hx.out.has x_0'
      have t1 := lTok_any A n c ts k wr (HS.out.sl.ext hx.out)
      have t2 := lIs_any B m d ms k wr (HM.out.sl.ext hx.out)
      rw [← hv] at t1
      rw [← hf] at t2
      have T1 := Lib.hid t1
      have T2 := Lib.hid t2
      have hcn : cnt ts ms k = (f && decide (0 < v)) := by unfold cnt; rw [hf, hv]
      have hyv : y = (cnt ts ms k && decide ((aheadL ts ms k : Int) < most)) := by rw [hy, ← F2.out]; exact chooV_getD (by rw [HF.out.1]; omega)
      have hc1 : cT ts ms (k + 1) = a + (if (f && decide (0 < v)) then 1 else 0) := by rw [cT, ← ha.out, hcn]
      have hi1 : inT ts ms most (k + 1) = b + (if y then 1 else 0) := by rw [inT, ← hb.out, hyv]
      have HC := Lib.hid (And.intro hc1 hi1)
      have HVV := Lib.hid hv
      have HK := Lib.hid (And.intro hk (And.intro hg hz))
      have HY := Lib.hid (And.intro hcn hyv)
      clear hk hg hz hv hf hy t1 t2 hcn hyv hc1 hi1 ha hb
      cases f
      · obtain rfl : y = false := by rw [HY.out.2, HY.out.1]; simp
        go_wp2_with fail
        refine T2.out.mono ?_
        rintro e w9 ⟨rfl, rfl⟩
        go_wp2
        go_loopg [15] K (fun gh j wx => gh ≤ K ∧ j = .int .i64 ((K - gh : Nat) : Int) ∧ Hid (Ext w0 wx))
        case atStart => exact ⟨Nat.le_refl _, by simp, hx⟩
        case round =>
          clear hx
          obtain ⟨hg, hj, hx⟩ := hrel
          obtain ⟨j, hjj⟩ : ∃ j, j = K - gk := ⟨_, rfl⟩
          rw [← hjj] at hj
          subst hj
          by_cases hz : gk = 0
          · have hjn : ¬ (j : Int) < (K : Int) := by omega
            clear hjj hg hz x_0
            go_wp2
            go_roundg (gk2 - 1)
            case measure => have := HK.out; omega
            case rel => exact ⟨by have := HK.out; omega, num_eq (by have := HK.out; omega), ⟨a, rfl, by have := HK.out; omega, Lib.hid (by rw [show K - (gk2 - 1) = k + 1 from by have := HK.out; omega, HC.out.1]; simp)⟩, ⟨b, rfl, by have := HK.out; omega, Lib.hid (by rw [show K - (gk2 - 1) = k + 1 from by have := HK.out; omega, HC.out.2]; simp)⟩, hx⟩
          · have hjn : (j : Int) < (K : Int) := by omega
            have y_0 := hx.out.has x_0'
            have HJ := Lib.hid (And.intro hjj (And.intro hg hz))
            clear hjj hg hz
            go_wp2
            go_roundg (gk - 1)
            case measure => have := HJ.out; omega
            case rel => exact ⟨by have := HJ.out; omega, num_eq (by have := HJ.out; omega), hx⟩
      · by_cases hv0 : 0 < v
        · have hdv : decide (0 < v) = true := decide_eq_true hv0
          cases y
          · have HLO := Lib.hid (show ¬ (aheadL ts ms k : Int) < most from fun hh => by have h := HY.out.2; rw [HY.out.1] at h; simp [hv0, hh] at h)
            clear HY
            go_wp2_with fail
            refine T2.out.mono ?_
            rintro e w9 ⟨rfl, rfl⟩
            go_wp2_with fail
            refine T1.out.mono ?_
            rintro e w9 ⟨rfl, rfl⟩
            go_wp2
            go_loopg [15] K (fun gh j wx => gh ≤ K ∧ j = .int .i64 ((K - gh : Nat) : Int) ∧ Hid (Ext w0 wx))
            case atStart => exact ⟨Nat.le_refl _, by simp, hx⟩
            case round =>
              clear hx
              obtain ⟨hg, hj, hx⟩ := hrel
              obtain ⟨j, hjj⟩ : ∃ j, j = K - gk := ⟨_, rfl⟩
              rw [← hjj] at hj
              subst hj
              by_cases hz : gk = 0
              · have hjn : ¬ (j : Int) < (K : Int) := by omega
                clear hjj hg hz x_0
                go_wp2
                go_roundg (gk2 - 1)
                case measure => have := HK.out; omega
                case rel => exact ⟨by have := HK.out; omega, num_eq (by have := HK.out; omega), ⟨a + 1, num_eq (by push_cast; rfl), by have := HK.out; omega, Lib.hid (by rw [show K - (gk2 - 1) = k + 1 from by have := HK.out; omega, HC.out.1]; simp [hv0])⟩, ⟨b, rfl, by have := HK.out; omega, Lib.hid (by rw [show K - (gk2 - 1) = k + 1 from by have := HK.out; omega, HC.out.2]; simp [hv0])⟩, hx⟩
              · have hjn : (j : Int) < (K : Int) := by omega
                have y_0 := hx.out.has x_0'
                obtain ⟨z, hz0⟩ : ∃ z, z = V.getD j false := ⟨_, rfl⟩
                obtain ⟨g2, e2, _, _, z_0, _⟩ := (HV.out.ext hx.out).in_pos (show j < K from by omega)
                injection e2 with e2
                injection e2 with e2
                subst e2
                rw [← hz0] at z_0
                obtain ⟨u, hu⟩ : ∃ u, u = tk ts j := ⟨_, rfl⟩
                have q1 := lTok_any A n c ts k wr (HS.out.sl.ext hx.out)
                have q2 := lTok_any A n c ts j wr (HS.out.sl.ext hx.out)
                rw [← HVV.out] at q1
                rw [← hu] at q2
                have Q1 := Lib.hid q1
                have Q2 := Lib.hid q2
                have hno : z = true → ¬ (u < v ∨ v = u ∧ k < j) := by
                  intro hzt
                  rw [hz0, ← F2.out, chooV_getD (by rw [HF.out.1]; omega)] at hzt
                  simp only [Bool.and_eq_true, decide_eq_true_eq] at hzt
                  rw [hu, HVV.out]
                  exact left_out (by have := HLO.out; omega) hzt.2
                have HJ := Lib.hid (And.intro hjj (And.intro hg hz))
                clear hjj hg hz hz0 hu q1 q2
                cases z
                · clear hno
                  go_wp2
                  go_roundg (gk - 1)
                  case measure => have := HJ.out; omega
                  case rel => exact ⟨by have := HJ.out; omega, num_eq (by have := HJ.out; omega), hx⟩
                · have hno2 := hno rfl
                  clear hno
                  have hu1 : ¬ u < v := fun hh => hno2 (.inl hh)
                  by_cases heq : v = u
                  · have hkj : ¬ (k : Int) < (j : Int) := fun hh => hno2 (.inr ⟨heq, by omega⟩)
                    have he2 : (v == u) = true := by simpa using heq
                    clear hno2 heq
                    go_wp2_with fail
                    refine Q1.out.mono ?_
                    rintro e w9 ⟨rfl, rfl⟩
                    go_wp2_with fail
                    refine Q2.out.mono ?_
                    rintro e w9 ⟨rfl, rfl⟩
                    go_wp2_with fail
                    refine Q1.out.mono ?_
                    rintro e w9 ⟨rfl, rfl⟩
                    go_wp2_with fail
                    refine Q2.out.mono ?_
                    rintro e w9 ⟨rfl, rfl⟩
                    go_wp2
                    go_roundg (gk - 1)
                    case measure => have := HJ.out; omega
                    case rel => exact ⟨by have := HJ.out; omega, num_eq (by have := HJ.out; omega), hx⟩
                  · have he2 : (v == u) = false := by simpa using heq
                    clear hno2 heq
                    go_wp2_with fail
                    refine Q1.out.mono ?_
                    rintro e w9 ⟨rfl, rfl⟩
                    go_wp2_with fail
                    refine Q2.out.mono ?_
                    rintro e w9 ⟨rfl, rfl⟩
                    go_wp2_with fail
                    refine Q1.out.mono ?_
                    rintro e w9 ⟨rfl, rfl⟩
                    go_wp2_with fail
                    refine Q2.out.mono ?_
                    rintro e w9 ⟨rfl, rfl⟩
                    go_wp2
                    go_roundg (gk - 1)
                    case measure => have := HJ.out; omega
                    case rel => exact ⟨by have := HJ.out; omega, num_eq (by have := HJ.out; omega), hx⟩
          · clear HY
            go_wp2_with fail
            refine T2.out.mono ?_
            rintro e w9 ⟨rfl, rfl⟩
            go_wp2_with fail
            refine T1.out.mono ?_
            rintro e w9 ⟨rfl, rfl⟩
            go_wp2
            go_loopg [15] K (fun gh j wx => gh ≤ K ∧ j = .int .i64 ((K - gh : Nat) : Int) ∧ Hid (Ext w0 wx))
            case atStart => exact ⟨Nat.le_refl _, by simp, hx⟩
            case round =>
              clear hx
              obtain ⟨hg, hj, hx⟩ := hrel
              obtain ⟨j, hjj⟩ : ∃ j, j = K - gk := ⟨_, rfl⟩
              rw [← hjj] at hj
              subst hj
              by_cases hz : gk = 0
              · have hjn : ¬ (j : Int) < (K : Int) := by omega
                clear hjj hg hz x_0
                go_wp2
                go_roundg (gk2 - 1)
                case measure => have := HK.out; omega
                case rel => exact ⟨by have := HK.out; omega, num_eq (by have := HK.out; omega), ⟨a + 1, num_eq (by push_cast; rfl), by have := HK.out; omega, Lib.hid (by rw [show K - (gk2 - 1) = k + 1 from by have := HK.out; omega, HC.out.1]; simp [hv0])⟩, ⟨b + 1, num_eq (by push_cast; rfl), by have := HK.out; omega, Lib.hid (by rw [show K - (gk2 - 1) = k + 1 from by have := HK.out; omega, HC.out.2]; simp [hv0])⟩, hx⟩
              · have hjn : (j : Int) < (K : Int) := by omega
                have y_0 := hx.out.has x_0'
                have HJ := Lib.hid (And.intro hjj (And.intro hg hz))
                clear hjj hg hz
                go_wp2
                go_roundg (gk - 1)
                case measure => have := HJ.out; omega
                case rel => exact ⟨by have := HJ.out; omega, num_eq (by have := HJ.out; omega), hx⟩
        · obtain rfl : y = false := by rw [HY.out.2, HY.out.1]; simp [hv0]
          have hdv : decide (0 < v) = false := decide_eq_false hv0
          go_wp2_with fail
          refine T2.out.mono ?_
          rintro e w9 ⟨rfl, rfl⟩
          go_wp2_with fail
          refine T1.out.mono ?_
          rintro e w9 ⟨rfl, rfl⟩
          go_wp2
          go_loopg [15] K (fun gh j wx => gh ≤ K ∧ j = .int .i64 ((K - gh : Nat) : Int) ∧ Hid (Ext w0 wx))
          case atStart => exact ⟨Nat.le_refl _, by simp, hx⟩
          case round =>
            clear hx
            obtain ⟨hg, hj, hx⟩ := hrel
            obtain ⟨j, hjj⟩ : ∃ j, j = K - gk := ⟨_, rfl⟩
            rw [← hjj] at hj
            subst hj
            by_cases hz : gk = 0
            · have hjn : ¬ (j : Int) < (K : Int) := by omega
              clear hjj hg hz x_0
              go_wp2
              go_roundg (gk2 - 1)
              case measure => have := HK.out; omega
              case rel => exact ⟨by have := HK.out; omega, num_eq (by have := HK.out; omega), ⟨a, rfl, by have := HK.out; omega, Lib.hid (by rw [show K - (gk2 - 1) = k + 1 from by have := HK.out; omega, HC.out.1]; simp [hv0])⟩, ⟨b, rfl, by have := HK.out; omega, Lib.hid (by rw [show K - (gk2 - 1) = k + 1 from by have := HK.out; omega, HC.out.2]; simp [hv0])⟩, hx⟩
            · have hjn : (j : Int) < (K : Int) := by omega
              have y_0 := hx.out.has x_0'
              have HJ := Lib.hid (And.intro hjj (And.intro hg hz))
              clear hjj hg hz
              go_wp2
              go_roundg (gk - 1)
              case measure => have := HJ.out; omega
              case rel => exact ⟨by have := HJ.out; omega, num_eq (by have := HJ.out; omega), hx⟩
theorem ActiveRichest_any (A : Option Addr) (n c : Nat) (ts : List Int) (B : Option Addr) (m d : Nat) (ms : List Bool) (most : Int) (hmf : Fits .i64 most) (w : World) (h : Sl w 1 A n c (iv .u64 ts)) (hw : ∀ x ∈ ts, Fits .u64 x) (k : Sl w 1 B m d (bv ms)) :
    Calls Try.prog 6 #[.slice A n c, .slice B m d, .int .i64 most] w fun r w' => r = .returned (.bool true) ∧ Ext w w' := by
  by_cases h1 : n ≤ 50
  · by_cases h2 : m ≤ 50
    · exact ActiveRichest_main A B n c m d ts ms most w h k h1 h2 (fun x hx => (hw x hx).u64) hmf.i64
    · exact ActiveRichest_b A B n c m d most w h1 h2 h.small k.small
  · exact ActiveRichest_a A B n c m d most w h1 h.small k.small
end Go.Proofs.Ytplmgcbjfmdebaa
