/- active and distraintref17: Sum, Floor, Quorum. Conditions stand in each lemma. -/
import Derived.Test.YtplmgcbjfmdebaaAct11
import Derived.Test.YtplmgcbjfmdebaaDiv
set_option linter.unusedVariables false
set_option linter.unusedSimpArgs false
namespace Go.Proofs.Ytplmgcbjfmdebaa
open Go.RowKit Go.Shelf Go.ChangeShapes Go.WideShapes Go.Deep

theorem sumW_no {ts : List Int} {ms : List Bool} {k : Nat} (h : ∀ x ∈ ts, Word x) (hk : k ≤ ms.length) (hs : ¬ sumT ts ms k < 18446744073709551616) : sumW ts ms = 18446744073709551615 := by
  have h1 := sumT_mono h ms k (ms.length - k)
  rw [show k + (ms.length - k) = ms.length by omega] at h1
  unfold sumW
  rw [if_neg (by omega)]
theorem sumW_ok {ts : List Int} {ms : List Bool} {s : Int} (h : s = sumT ts ms ms.length) (hs : s < 18446744073709551616) : s = sumW ts ms := by
  unfold sumW
  rw [← h, if_pos hs]
set_option maxRecDepth 100000 in
set_option maxHeartbeats 4000000 in
theorem actSum_any (A B : Option Addr) (n c m d : Nat) (ts : List Int) (ms : List Bool) (w : World) (h : Sl w 1 A n c (iv .u64 ts)) (k : Sl w 1 B m d (bv ms)) (hm : m ≤ 1000) (hw : ∀ x ∈ ts, Word x) :
    Calls Try.prog 25 #[.slice A n c, .slice B m d] w fun e w' => e = .returned (.int .u64 (sumW ts ms)) ∧ Ext w w' := by
  have hml := k.blen
  have HT := Lib.hid h
  have HM := Lib.hid k
  have HW := Lib.hid hw
  have HL := Lib.hid hml
  clear h k hw hml
  go_enter Try.func25, Try.ntmps25
  go_wp2
  go_loopg [5, 14] m (fun gh q i wx => gh ≤ m ∧ i = .int .i64 ((m - gh : Nat) : Int) ∧ (∃ s, q = .int .u64 s ∧ 0 ≤ s ∧ s < 18446744073709551616 ∧ Hid (s = sumT ts ms (m - gh))) ∧ Hid (Ext w wx))
  case atStart => exact ⟨Nat.le_refl _, by simp, ⟨0, rfl, by omega, by omega, Lib.hid (by rw [Nat.sub_self]; rfl)⟩, Lib.hid (Ext.refl _)⟩
  case round =>
    obtain ⟨hg, hi, ⟨s, rfl, s0, s1, hs⟩, hx⟩ := hrel
    obtain ⟨k, hk⟩ : ∃ k, k = m - gk := ⟨_, rfl⟩
    rw [← hk] at hi hs
    subst hi
    by_cases hz : gk = 0
    · have hkn : ¬ (k : Int) < (m : Int) := by omega
      have E := Lib.hid (sumW_ok (ts := ts) (ms := ms) (s := s) (by rw [hs.out, HL.out, show k = m by omega]) s1)
      clear hk hg hz hs
      go_wp2
      go_ret
      exact ⟨ret_int E.out, hx.out⟩
    · have hkn : (k : Int) < (m : Int) := by omega
      obtain ⟨v, hv⟩ : ∃ v, v = tk ts k := ⟨_, rfl⟩
      obtain ⟨b, hb⟩ : ∃ b, b = isB ms k := ⟨_, rfl⟩
      obtain ⟨v0, v1⟩ : Word v := by rw [hv]; exact word_tk HW.out k
      have t1 := atW_any A n c ts k wr (HT.out.ext hx.out)
      rw [← hv] at t1
      have T1 := Lib.hid t1
      obtain ⟨b1, o1, rfl, hb1, x_0⟩ := (HM.out.ext hx.out).bcell (show k < m from by omega)
      rw [show ms.getD k false = b from hb.symm] at x_0
      have hst : sumT ts ms (k + 1) = s + (if b then v else 0) := by rw [sumT, ← hb, ← hv, ← hs.out]
      have HS := Lib.hid hst
      have HK := Lib.hid (And.intro hk (And.intro hg hz))
      clear hk hg hz hv hb t1 hst
      cases b
      · clear hs
        go_wp2_with fail
        refine T1.out.mono ?_
        rintro e w2 ⟨rfl, rfl⟩
        go_wp2
        go_roundg (gk - 1)
        case measure => have := HK.out; omega
        case rel => exact ⟨by have := HK.out; omega, num_eq (by have := HK.out; omega), ⟨s, rfl, by omega, by omega, Lib.hid (by rw [show m - (gk - 1) = k + 1 from by have := HK.out; omega, HS.out]; simp)⟩, hx⟩
      · by_cases hov : s + v < 18446744073709551616
        · have d1 : (s + v) / 18446744073709551616 = 0 := by omega
          have d2 : (s + v) % 18446744073709551616 = s + v := by omega
          have qa : ∀ w : World, (callFunc 49 #[.int .u64 s, .int .u64 v, .int .u64 0]).run Try.prog w = .ok (.value (.tuple #[.int .u64 (s + v), .int .u64 0])) w := fun w => by rw [add64_0 s v s0 v0, d1, d2]
          clear d1 d2 hs
          have hov2 : (0 : Int) ≤ s + v := by omega
          go_wp2_with fail
          refine T1.out.mono ?_
          rintro e w2 ⟨rfl, rfl⟩
          go_wp2
          go_roundg (gk - 1)
          case measure => have := HK.out; omega
          case rel => exact ⟨by have := HK.out; omega, num_eq (by have := HK.out; omega), ⟨s + v, rfl, by omega, by omega, Lib.hid (by rw [show m - (gk - 1) = k + 1 from by have := HK.out; omega, HS.out]; simp)⟩, hx⟩
        · have d1 : (s + v) / 18446744073709551616 = 1 := by omega
          have qa : ∀ w : World, (callFunc 49 #[.int .u64 s, .int .u64 v, .int .u64 0]).run Try.prog w = .ok (.value (.tuple #[.int .u64 ((s + v) % 18446744073709551616), .int .u64 1])) w := fun w => by rw [add64_0 s v s0 v0, d1]
          clear d1
          have E := Lib.hid (sumW_no HW.out (show k + 1 ≤ ms.length from by have := HL.out; have := HK.out; omega) (by rw [HS.out]; simpa using hov))
          clear hs
          go_wp2_with fail
          refine T1.out.mono ?_
          rintro e w2 ⟨rfl, rfl⟩
          go_wp2
          go_ret
          exact ⟨ret_int (by rw [E.out]), hx.out⟩
set_option maxRecDepth 100000 in
set_option maxHeartbeats 4000000 in
theorem rSum_any (A B : Option Addr) (n c m d : Nat) (ts : List Int) (ms : List Bool) (w : World) (h : Sl w 1 A n c (iv .u64 ts)) (k : Sl w 1 B m d (bv ms)) (hm : m ≤ 1000) (hw : ∀ x ∈ ts, Word x) :
    Calls Try.prog 26 #[.slice A n c, .slice B m d] w fun e w' => e = .returned (.int .u64 (sumW ts ms)) ∧ Ext w w' := by
  have hml := k.blen
  have HT := Lib.hid h
  have HM := Lib.hid k
  have HW := Lib.hid hw
  have HL := Lib.hid hml
  clear h k hw hml
  go_enter Try.func26, Try.ntmps26
  go_wp2
  go_loopg [5, 6] m (fun gh q i wx => gh ≤ m ∧ i = .int .i64 ((m - gh : Nat) : Int) ∧ (∃ s, q = .int .u64 s ∧ 0 ≤ s ∧ s < 18446744073709551616 ∧ Hid (s = sumT ts ms (m - gh))) ∧ Hid (Ext w wx))
  case atStart => exact ⟨Nat.le_refl _, by simp, ⟨0, rfl, by omega, by omega, Lib.hid (by rw [Nat.sub_self]; rfl)⟩, Lib.hid (Ext.refl _)⟩
  case round =>
    obtain ⟨hg, hi, ⟨s, rfl, s0, s1, hs⟩, hx⟩ := hrel
    obtain ⟨k, hk⟩ : ∃ k, k = m - gk := ⟨_, rfl⟩
    rw [← hk] at hi hs
    subst hi
    by_cases hz : gk = 0
    · have hkn : ¬ (k : Int) < (m : Int) := by omega
      have E := Lib.hid (sumW_ok (ts := ts) (ms := ms) (s := s) (by rw [hs.out, HL.out, show k = m by omega]) s1)
      clear hk hg hz hs
      go_wp2
      go_ret
      exact ⟨ret_int E.out, hx.out⟩
    · have hkn : (k : Int) < (m : Int) := by omega
      obtain ⟨v, hv⟩ : ∃ v, v = tk ts k := ⟨_, rfl⟩
      obtain ⟨b, hb⟩ : ∃ b, b = isB ms k := ⟨_, rfl⟩
      obtain ⟨v0, v1⟩ : Word v := by rw [hv]; exact word_tk HW.out k
      have t1 := rTok_any A n c ts k wr (HT.out.ext hx.out)
      rw [← hv] at t1
      have T1 := Lib.hid t1
      have t2 := rIs_any B m d ms k wr (HM.out.ext hx.out)
      rw [← hb] at t2
      have T2 := Lib.hid t2
      have hst : sumT ts ms (k + 1) = s + (if b then v else 0) := by rw [sumT, ← hb, ← hv, ← hs.out]
      have HS := Lib.hid hst
      have HK := Lib.hid (And.intro hk (And.intro hg hz))
      clear hk hg hz hv hb t1 hst t2
      cases b
      · clear hs
        go_wp2_with fail
        refine T2.out.mono ?_
        rintro e w2 ⟨rfl, rfl⟩
        go_wp2
        go_roundg (gk - 1)
        case measure => have := HK.out; omega
        case rel => exact ⟨by have := HK.out; omega, num_eq (by have := HK.out; omega), ⟨s, rfl, by omega, by omega, Lib.hid (by rw [show m - (gk - 1) = k + 1 from by have := HK.out; omega, HS.out]; simp)⟩, hx⟩
      · by_cases hov : s + v < 18446744073709551616
        · have qa := Lib.hid (fun w => rAdd_any s v ⟨s0, s1⟩ ⟨v0, v1⟩ w)
          rw [show addN s v = s + v from if_pos hov, show addE s v = 0 from if_pos hov] at qa
          clear hs
          have hov2 : (0 : Int) ≤ s + v := by omega
          go_wp2_with fail
          refine T2.out.mono ?_
          rintro e w2 ⟨rfl, rfl⟩
          go_wp2_with fail
          refine T1.out.mono ?_
          rintro e w2 ⟨rfl, rfl⟩
          go_wp2_with fail
          refine (qa.out _).mono ?_
          rintro e w3 ⟨rfl, rfl⟩
          have HX3 := hx
          go_wp2
          go_roundg (gk - 1)
          case measure => have := HK.out; omega
          case rel => exact ⟨by have := HK.out; omega, num_eq (by have := HK.out; omega), ⟨s + v, rfl, by omega, by omega, Lib.hid (by rw [show m - (gk - 1) = k + 1 from by have := HK.out; omega, HS.out]; simp)⟩, HX3⟩
        · have qa := Lib.hid (fun w => rAdd_any s v ⟨s0, s1⟩ ⟨v0, v1⟩ w)
          rw [show addN s v = 0 from if_neg hov, show addE s v = 12 from if_neg hov] at qa
          have E := Lib.hid (sumW_no HW.out (show k + 1 ≤ ms.length from by have := HL.out; have := HK.out; omega) (by rw [HS.out]; simpa using hov))
          clear hs
          go_wp2_with fail
          refine T2.out.mono ?_
          rintro e w2 ⟨rfl, rfl⟩
          go_wp2_with fail
          refine T1.out.mono ?_
          rintro e w2 ⟨rfl, rfl⟩
          go_wp2_with fail
          refine (qa.out _).mono ?_
          rintro e w3 ⟨rfl, rfl⟩
          have HX3 := hx
          go_wp2
          go_ret
          exact ⟨ret_int (by rw [E.out]), HX3.out⟩
set_option maxRecDepth 100000 in
set_option maxHeartbeats 4000000 in
theorem actFloor_any (A B : Option Addr) (n c m d : Nat) (ts : List Int) (ms : List Bool) (w : World) (h : Sl w 1 A n c (iv .u64 ts)) (k : Sl w 1 B m d (bv ms)) (hm : m ≤ 1000) (hw : ∀ x ∈ ts, Word x) :
    Calls Try.prog 23 #[.slice A n c, .slice B m d] w fun e w' => e = .returned (.tuple #[.int .u64 (flT ts ms ms.length).1, .bool (flT ts ms ms.length).2]) ∧ Ext w w' := by
  have hml := k.blen
  have HT := Lib.hid h
  have HM := Lib.hid k
  have HW := Lib.hid hw
  have HL := Lib.hid hml
  clear h k hw hml
  go_enter Try.func23, Try.ntmps23
  go_wp2
  go_loopg [6, 7, 14] m (fun gh q r i wx => gh ≤ m ∧ i = .int .i64 ((m - gh : Nat) : Int) ∧ (∃ s, q = .int .u64 s ∧ ∃ f, r = .bool f ∧ Hid (flT ts ms (m - gh) = (s, f))) ∧ Hid (Ext w wx))
  case atStart => exact ⟨Nat.le_refl _, by simp, ⟨0, rfl, false, rfl, Lib.hid (by rw [Nat.sub_self]; rfl)⟩, Lib.hid (Ext.refl _)⟩
  case round =>
    obtain ⟨hg, hi, ⟨s, rfl, f, rfl, hs⟩, hx⟩ := hrel
    obtain ⟨k, hk⟩ : ∃ k, k = m - gk := ⟨_, rfl⟩
    rw [← hk] at hi hs
    subst hi
    by_cases hz : gk = 0
    · have hkn : ¬ (k : Int) < (m : Int) := by omega
      have E := Lib.hid (show flT ts ms ms.length = (s, f) from by rw [HL.out, show m = k by omega]; exact hs.out)
      clear hk hg hz hs
      go_wp2
      go_ret2
      exact ⟨by rw [E.out] <;> rfl, hx.out⟩
    · have hkn : (k : Int) < (m : Int) := by omega
      obtain ⟨v, hv⟩ : ∃ v, v = tk ts k := ⟨_, rfl⟩
      obtain ⟨b, hb⟩ : ∃ b, b = isB ms k := ⟨_, rfl⟩
      have t1 := atW_any A n c ts k wr (HT.out.ext hx.out)
      rw [← hv] at t1
      have T1 := Lib.hid t1
      obtain ⟨b1, o1, rfl, hb1, x_0⟩ := (HM.out.ext hx.out).bcell (show k < m from by omega)
      rw [show ms.getD k false = b from hb.symm] at x_0
      have hst : flT ts ms (k + 1) = if b && (!f || decide (v < s)) then (v, true) else (s, f) := by rw [flT, ← hb, ← hv, hs.out]
      have HS := Lib.hid hst
      have HK := Lib.hid (And.intro hk (And.intro hg hz))
      clear hk hg hz hv hb hs t1 hst
      cases b
      · cases f
        · go_wp2_with fail
          refine T1.out.mono ?_
          rintro e w2 ⟨rfl, rfl⟩
          go_wp2
          go_roundg (gk - 1)
          case measure => have := HK.out; omega
          case rel => exact ⟨by have := HK.out; omega, num_eq (by have := HK.out; omega), ⟨s, rfl, false, rfl, Lib.hid (by rw [show m - (gk - 1) = k + 1 from by have := HK.out; omega, HS.out]; simp)⟩, hx⟩
        · go_wp2_with fail
          refine T1.out.mono ?_
          rintro e w2 ⟨rfl, rfl⟩
          go_wp2
          go_roundg (gk - 1)
          case measure => have := HK.out; omega
          case rel => exact ⟨by have := HK.out; omega, num_eq (by have := HK.out; omega), ⟨s, rfl, true, rfl, Lib.hid (by rw [show m - (gk - 1) = k + 1 from by have := HK.out; omega, HS.out]; simp)⟩, hx⟩
      · cases f
        · go_wp2_with fail
          refine T1.out.mono ?_
          rintro e w2 ⟨rfl, rfl⟩
          go_wp2
          go_roundg (gk - 1)
          case measure => have := HK.out; omega
          case rel => exact ⟨by have := HK.out; omega, num_eq (by have := HK.out; omega), ⟨v, rfl, true, rfl, Lib.hid (by rw [show m - (gk - 1) = k + 1 from by have := HK.out; omega, HS.out]; simp)⟩, hx⟩
        · by_cases hlt : v < s
          · go_wp2_with fail
            refine T1.out.mono ?_
            rintro e w2 ⟨rfl, rfl⟩
            go_wp2
            go_roundg (gk - 1)
            case measure => have := HK.out; omega
            case rel => exact ⟨by have := HK.out; omega, num_eq (by have := HK.out; omega), ⟨v, rfl, true, rfl, Lib.hid (by rw [show m - (gk - 1) = k + 1 from by have := HK.out; omega, HS.out]; simp [hlt])⟩, hx⟩
          · go_wp2_with fail
            refine T1.out.mono ?_
            rintro e w2 ⟨rfl, rfl⟩
            go_wp2
            go_roundg (gk - 1)
            case measure => have := HK.out; omega
            case rel => exact ⟨by have := HK.out; omega, num_eq (by have := HK.out; omega), ⟨s, rfl, true, rfl, Lib.hid (by rw [show m - (gk - 1) = k + 1 from by have := HK.out; omega, HS.out]; simp; try omega)⟩, hx⟩
set_option maxRecDepth 100000 in
set_option maxHeartbeats 4000000 in
theorem rFloor_any (A B : Option Addr) (n c m d : Nat) (ts : List Int) (ms : List Bool) (w : World) (h : Sl w 1 A n c (iv .u64 ts)) (k : Sl w 1 B m d (bv ms)) (hm : m ≤ 1000) (hw : ∀ x ∈ ts, Word x) :
    Calls Try.prog 24 #[.slice A n c, .slice B m d] w fun e w' => e = .returned (.tuple #[.int .u64 (flT ts ms ms.length).1, .bool (flT ts ms ms.length).2]) ∧ Ext w w' := by
  have hml := k.blen
  have HT := Lib.hid h
  have HM := Lib.hid k
  have HW := Lib.hid hw
  have HL := Lib.hid hml
  clear h k hw hml
  go_enter Try.func24, Try.ntmps24
  go_wp2
  go_loopg [6, 7, 8] m (fun gh q r i wx => gh ≤ m ∧ i = .int .i64 ((m - gh : Nat) : Int) ∧ (∃ s, q = .int .u64 s ∧ ∃ f, r = .bool f ∧ Hid (flT ts ms (m - gh) = (s, f))) ∧ Hid (Ext w wx))
  case atStart => exact ⟨Nat.le_refl _, by simp, ⟨0, rfl, false, rfl, Lib.hid (by rw [Nat.sub_self]; rfl)⟩, Lib.hid (Ext.refl _)⟩
  case round =>
    obtain ⟨hg, hi, ⟨s, rfl, f, rfl, hs⟩, hx⟩ := hrel
    obtain ⟨k, hk⟩ : ∃ k, k = m - gk := ⟨_, rfl⟩
    rw [← hk] at hi hs
    subst hi
    by_cases hz : gk = 0
    · have hkn : ¬ (k : Int) < (m : Int) := by omega
      have E := Lib.hid (show flT ts ms ms.length = (s, f) from by rw [HL.out, show m = k by omega]; exact hs.out)
      clear hk hg hz hs
      go_wp2
      go_ret2
      exact ⟨by rw [E.out] <;> rfl, hx.out⟩
    · have hkn : (k : Int) < (m : Int) := by omega
      obtain ⟨v, hv⟩ : ∃ v, v = tk ts k := ⟨_, rfl⟩
      obtain ⟨b, hb⟩ : ∃ b, b = isB ms k := ⟨_, rfl⟩
      have t1 := rTok_any A n c ts k wr (HT.out.ext hx.out)
      rw [← hv] at t1
      have T1 := Lib.hid t1
      have t2 := rIs_any B m d ms k wr (HM.out.ext hx.out)
      rw [← hb] at t2
      have T2 := Lib.hid t2
      have hst : flT ts ms (k + 1) = if b && (!f || decide (v < s)) then (v, true) else (s, f) := by rw [flT, ← hb, ← hv, hs.out]
      have HS := Lib.hid hst
      have HK := Lib.hid (And.intro hk (And.intro hg hz))
      clear hk hg hz hv hb hs t1 hst t2
      cases b
      · cases f
        · go_wp2_with fail
          refine T2.out.mono ?_
          rintro e w2 ⟨rfl, rfl⟩
          go_wp2
          go_roundg (gk - 1)
          case measure => have := HK.out; omega
          case rel => exact ⟨by have := HK.out; omega, num_eq (by have := HK.out; omega), ⟨s, rfl, false, rfl, Lib.hid (by rw [show m - (gk - 1) = k + 1 from by have := HK.out; omega, HS.out]; simp)⟩, hx⟩
        · go_wp2_with fail
          refine T2.out.mono ?_
          rintro e w2 ⟨rfl, rfl⟩
          go_wp2
          go_roundg (gk - 1)
          case measure => have := HK.out; omega
          case rel => exact ⟨by have := HK.out; omega, num_eq (by have := HK.out; omega), ⟨s, rfl, true, rfl, Lib.hid (by rw [show m - (gk - 1) = k + 1 from by have := HK.out; omega, HS.out]; simp)⟩, hx⟩
      · cases f
        · go_wp2_with fail
          refine T2.out.mono ?_
          rintro e w2 ⟨rfl, rfl⟩
          go_wp2_with fail
          refine T1.out.mono ?_
          rintro e w2 ⟨rfl, rfl⟩
          go_wp2
          go_roundg (gk - 1)
          case measure => have := HK.out; omega
          case rel => exact ⟨by have := HK.out; omega, num_eq (by have := HK.out; omega), ⟨v, rfl, true, rfl, Lib.hid (by rw [show m - (gk - 1) = k + 1 from by have := HK.out; omega, HS.out]; simp)⟩, hx⟩
        · by_cases hlt : v < s
          · go_wp2_with fail
            refine T2.out.mono ?_
            rintro e w2 ⟨rfl, rfl⟩
            go_wp2_with fail
            refine T1.out.mono ?_
            rintro e w2 ⟨rfl, rfl⟩
            go_wp2_with fail
            refine T1.out.mono ?_
            rintro e w2 ⟨rfl, rfl⟩
            go_wp2
            go_roundg (gk - 1)
            case measure => have := HK.out; omega
            case rel => exact ⟨by have := HK.out; omega, num_eq (by have := HK.out; omega), ⟨v, rfl, true, rfl, Lib.hid (by rw [show m - (gk - 1) = k + 1 from by have := HK.out; omega, HS.out]; simp [hlt])⟩, hx⟩
          · go_wp2_with fail
            refine T2.out.mono ?_
            rintro e w2 ⟨rfl, rfl⟩
            go_wp2_with fail
            refine T1.out.mono ?_
            rintro e w2 ⟨rfl, rfl⟩
            go_wp2
            go_roundg (gk - 1)
            case measure => have := HK.out; omega
            case rel => exact ⟨by have := HK.out; omega, num_eq (by have := HK.out; omega), ⟨s, rfl, true, rfl, Lib.hid (by rw [show m - (gk - 1) = k + 1 from by have := HK.out; omega, HS.out]; simp; try omega)⟩, hx⟩
set_option maxRecDepth 100000 in
set_option maxHeartbeats 4000000 in
theorem rQuorum_any (s : Int) (hs : Word s) (w : World) :
    Calls Try.prog 28 #[.int .u64 s] w fun e w' => e = .returned (.int .u64 (quoV s)) ∧ Ext w w' := by
  obtain ⟨s0, s1⟩ := hs
  obtain ⟨t, ht⟩ : ∃ t, t = s / 3 := ⟨_, rfl⟩
  obtain ⟨r, hr⟩ : ∃ r, r = s % 3 := ⟨_, rfl⟩
  obtain ⟨q, hq⟩ : ∃ q, q = 2 * r / 3 := ⟨_, rfl⟩
  have e1 : s / 3 = t := ht.symm
  have e2 : s % 3 = r := hr.symm
  have e3 : 2 * r / 3 = q := hq.symm
  have e1t : s.tdiv 3 = t := by rw [Int.tdiv_eq_ediv_of_nonneg s0]; exact e1
  have e2t : s.tmod 3 = r := by rw [Int.tmod_eq_emod_of_nonneg s0]; exact e2
  have b1 : 0 ≤ t := by omega
  have b2 : t ≤ 6148914691236517205 := by omega
  have b3 : 0 ≤ r := by omega
  have b4 : r < 3 := by omega
  have b5 : 0 ≤ q := by omega
  have b6 : q ≤ 1 := by omega
  have e3t : (2 * r).tdiv 3 = q := by rw [Int.tdiv_eq_ediv_of_nonneg (by omega)]; exact e3
  have E := Lib.hid (show quoV s = 2 * t + q + 1 from by unfold quoV; omega)
  clear ht hr hq
  go_enter Try.func28, Try.ntmps28
  go_wp2
  go_ret
  exact ⟨ret_int E.out.symm, Ext.refl _⟩
set_option maxRecDepth 100000 in
set_option maxHeartbeats 4000000 in
theorem actQuorum_any (s : Int) (hs : Word s) (w : World) :
    Calls Try.prog 27 #[.int .u64 s] w fun e w' => e = .returned (.int .u64 (quoV s)) ∧ Ext w w' := by
  obtain ⟨s0, s1⟩ := hs
  obtain ⟨S, rfl⟩ : ∃ S : Nat, s = S := ⟨s.toNat, by omega⟩
  have hS : S < 18446744073709551616 := by omega
  obtain ⟨hi, hhi⟩ : ∃ h : Nat, h = S * 2 / 18446744073709551616 := ⟨_, rfl⟩
  obtain ⟨lo, hlo⟩ : ∃ l : Nat, l = S * 2 % 18446744073709551616 := ⟨_, rfl⟩
  have M := Try.bits_Mul64 S 2 hS (by decide) w
  rw [← hhi, ← hlo] at M
  replace M := M.mono (fun e w' h => And.intro h.1 h.2.symm)
  have D := div64_any (hi : Int) (lo : Int) 3 (by omega) (by omega) (by decide) (by omega) (by omega) w
  obtain ⟨q, hq⟩ : ∃ q : Int, q = ((hi : Int) * 18446744073709551616 + (lo : Int)) / 3 := ⟨_, rfl⟩
  obtain ⟨r, hr⟩ : ∃ r : Int, r = ((hi : Int) * 18446744073709551616 + (lo : Int)) % 3 := ⟨_, rfl⟩
  rw [← hq, ← hr] at D
  have E := Lib.hid (show quoV S = q + 1 from by unfold quoV; omega)
  have b1 : 0 ≤ q := by omega
  have b2 : q ≤ 12297829382473034410 := by omega
  have HM := Lib.hid M
  have HD := Lib.hid D
  clear M D hhi hlo hq hr
  go_enter Try.func27, Try.ntmps27
  go_wp2_with fail
  refine HM.out.mono ?_
  rintro e w2 ⟨rfl, rfl⟩
  go_wp2_with fail
  refine HD.out.mono ?_
  rintro e w2 ⟨rfl, hx⟩
  have HX := Lib.hid (show Ext w w2 from Drw.ext hx)
  clear hx
  go_wp2
  go_ret
  exact ⟨ret_int E.out.symm, HX.out⟩
end Go.Proofs.Ytplmgcbjfmdebaa
