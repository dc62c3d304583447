/- distraintref17: ahead, Rank, Choose. Conditions stand in each lemma. -/
import Derived.Test.YtplmgcbjfmdebaaAct7
import Derived.Test.YtplmgcbjfmdebaaFixSpec
set_option linter.unusedVariables false
set_option linter.unusedSimpArgs false
namespace Go.Proofs.Ytplmgcbjfmdebaa
open Go.RowKit Go.Shelf Go.ChangeShapes Go.WideShapes Go.Deep

theorem max_run (n m K : Nat) (hK : K = max n m) : ∀ ts t w, (Builtin.max_ ts t #[.int .i64 (n : Int), .int .i64 (m : Int)]).run Try.prog w = .ok (.int .i64 (K : Int)) w := by
  intro ts t w
  rw [run_max_int2, hK]
  congr 2
  split <;> omega
theorem aheadT_snoc (ts : List Int) (ms : List Bool) (k i : Nat) : aheadT ts ms (k + 1) i = aheadT ts ms k i + (if cnt ts ms k && decide (rich (pr ts k) (pr ts i)) then 1 else 0) := by
  unfold aheadT
  rw [List.range_succ, List.countP_append]
  congr 1
  simp [List.countP_cons]
theorem aheadT_le (ts : List Int) (ms : List Bool) (k i : Nat) : aheadT ts ms k i ≤ k := by
  unfold aheadT
  exact Nat.le_trans List.countP_le_length (by simp)
theorem rich_pr (ts : List Int) (k i : Nat) : rich (pr ts k) (pr ts i) ↔ tk ts i < tk ts k ∨ tk ts k = tk ts i ∧ k < i := by
  unfold rich pr
  simp only
  omega
theorem rankN_snoc (ts : List Int) (ms : List Bool) (n m : Nat) : rankN ts ms n (m + 1) = rankN ts ms n m ++ (if cnt ts ms m && decide (aheadL ts ms m = n) then [(m : Int)] else []) := by
  unfold rankN
  rw [List.range_succ, List.filter_append, List.map_append]
  by_cases h : (cnt ts ms m && decide (aheadL ts ms m = n)) = true <;> simp [h]
theorem rankN_len (ts : List Int) (ms : List Bool) (n m : Nat) : (rankN ts ms n m).length ≤ m := by
  unfold rankN
  rw [List.length_map]
  exact Nat.le_trans (List.length_filter_le _ _) (by simp)
theorem rankT_snoc (ts : List Int) (ms : List Bool) (n : Nat) : rankT ts ms (n + 1) = rankT ts ms n ++ rankN ts ms n (allN ts ms) := by
  unfold rankT
  rw [List.range_succ, List.flatMap_append]
  simp
theorem rankT_len (ts : List Int) (ms : List Bool) : ∀ n, (rankT ts ms n).length ≤ n * allN ts ms
  | 0 => by simp [rankT]
  | n + 1 => by
    rw [rankT_snoc, List.length_append, Nat.add_mul, Nat.one_mul]
    exact Nat.add_le_add (rankT_len ts ms n) (rankN_len _ _ _ _)
def chooP (ts : List Int) (ms : List Bool) (most : Int) (k : Nat) : List Bool := (List.range k).map fun i => cnt ts ms i && decide ((aheadL ts ms i : Int) < most)
theorem chooP_snoc (ts : List Int) (ms : List Bool) (most : Int) (k : Nat) : chooP ts ms most (k + 1) = chooP ts ms most k ++ [cnt ts ms k && decide ((aheadL ts ms k : Int) < most)] := by
  unfold chooP
  rw [List.range_succ, List.map_append]
  rfl
theorem chooP_len (ts : List Int) (ms : List Bool) (most : Int) (k : Nat) : (chooP ts ms most k).length = k := by unfold chooP; simp
set_option maxRecDepth 100000 in
set_option maxHeartbeats 4000000 in
theorem rAhead_any (A B : Option Addr) (n c m d : Nat) (ts : List Int) (ms : List Bool) (i : Nat) (w : World) (h : Sl w 1 A n c (iv .u64 ts)) (k : Sl w 1 B m d (bv ms)) (hn : n ≤ 1000) (hm : m ≤ 1000) (hi : i ≤ 2000) :
    Calls Try.prog 45 #[.slice A n c, .slice B m d, .int .i64 (i : Int)] w fun e w' => e = .returned (.int .i64 (aheadL ts ms i : Int)) ∧ Ext w w' := by
  obtain ⟨K, hK⟩ : ∃ K, K = max n m := ⟨_, rfl⟩
  have hKa : allN ts ms = K := by unfold allN; rw [h.ilen, k.blen, hK]
  have hKs : K ≤ 1000 := by omega
  have hmax := max_run n m K hK
  have HT := Lib.hid h
  have HM := Lib.hid k
  have HKK := Lib.hid (And.intro hK hKa)
  clear h k hK hKa
  go_enter Try.func45, Try.ntmps45
  go_wp2
  go_loopg [7, 8] K (fun gh q i8 wx => gh ≤ K ∧ i8 = .int .i64 ((K - gh : Nat) : Int) ∧ (∃ z : Nat, q = .int .i64 (z : Int) ∧ z ≤ 1000 ∧ Hid (z = aheadT ts ms (K - gh) i)) ∧ Hid (Ext w wx))
  case atStart => exact ⟨Nat.le_refl _, by simp, ⟨0, rfl, by omega, Lib.hid (by rw [Nat.sub_self]; rfl)⟩, Lib.hid (Ext.refl _)⟩
  case round =>
    obtain ⟨hg, hi8, ⟨z, rfl, hzs, hze⟩, hx⟩ := hrel
    obtain ⟨k, hk⟩ : ∃ k, k = K - gk := ⟨_, rfl⟩
    rw [← hk] at hi8 hze
    subst hi8
    by_cases hz : gk = 0
    · have hkn : ¬ (k : Int) < (K : Int) := by omega
      have E := Lib.hid (show z = aheadL ts ms i from by rw [hze.out, show k = K by omega]; unfold aheadL; rw [HKK.out.2])
      clear hk hg hz hze
      go_wp2
      go_ret
      exact ⟨ret_int (by rw [E.out]), hx.out⟩
    · have hkn : (k : Int) < (K : Int) := by omega
      obtain ⟨v, hv⟩ : ∃ v, v = tk ts k := ⟨_, rfl⟩
      obtain ⟨u, hu⟩ : ∃ u, u = tk ts i := ⟨_, rfl⟩
      obtain ⟨b, hb⟩ : ∃ b, b = cnt ts ms k := ⟨_, rfl⟩
      have t1 := rTok_any A n c ts k wr (HT.out.ext hx.out)
      have t2 := rTok_any A n c ts i wr (HT.out.ext hx.out)
      have t3 := rCounts_any A B n c m d ts ms k wr (HT.out.ext hx.out) (HM.out.ext hx.out)
      rw [← hv] at t1
      rw [← hu] at t2
      rw [← hb] at t3
      have T1 := Lib.hid t1
      have T2 := Lib.hid t2
      have T3 := Lib.hid t3
      have hs := aheadT_snoc ts ms k i
      rw [← hb, ← hze.out] at hs
      have hr := rich_pr ts k i
      rw [← hv, ← hu] at hr
      have hz1 : aheadT ts ms (k + 1) i ≤ k + 1 := aheadT_le _ _ _ _
      have HH := Lib.hid (And.intro hs (And.intro hr hz1))
      have HK := Lib.hid (And.intro hk (And.intro hg hz))
      clear hk hg hz hv hu hb t1 t2 t3 hs hr hze hz1
      cases b
      · have E := Lib.hid (show z = aheadT ts ms (k + 1) i from by rw [HH.out.1]; simp)
        have E2 := 0
        clear HH
        go_wp2_with fail
        refine T1.out.mono ?_
        rintro e w2 ⟨rfl, rfl⟩
        go_wp2_with fail
        refine T2.out.mono ?_
        rintro e w2 ⟨rfl, rfl⟩
        go_wp2_with fail
        refine T3.out.mono ?_
        rintro e w2 ⟨rfl, rfl⟩
        go_wp2
        go_roundg (gk - 1)
        case measure => have := HK.out; omega
        case rel => exact ⟨by have := HK.out; omega, num_eq (by have := HK.out; omega), ⟨_, rfl, by omega, Lib.hid (by rw [show K - (gk - 1) = k + 1 from by have := HK.out; omega]; exact E.out)⟩, hx⟩
      · by_cases c1 : u < v
        · have E := Lib.hid (show z + 1 = aheadT ts ms (k + 1) i from by rw [HH.out.1, decide_eq_true (HH.out.2.1.2 (.inl c1))]; simp)
          have E2 : z + 1 ≤ 1000 := by have := HH.out.2.2; have := E.out; have := HK.out; omega
          clear HH
          go_wp2_with fail
          refine T1.out.mono ?_
          rintro e w2 ⟨rfl, rfl⟩
          go_wp2_with fail
          refine T2.out.mono ?_
          rintro e w2 ⟨rfl, rfl⟩
          go_wp2_with fail
          refine T3.out.mono ?_
          rintro e w2 ⟨rfl, rfl⟩
          go_wp2
          go_roundg (gk - 1)
          case measure => have := HK.out; omega
          case rel => exact ⟨by have := HK.out; omega, num_eq (by have := HK.out; omega), ⟨_, num_eq (by push_cast; rfl), by omega, Lib.hid (by rw [show K - (gk - 1) = k + 1 from by have := HK.out; omega]; exact E.out)⟩, hx⟩
        · by_cases c2 : v = u
          · have c3 : (v == u) = true := by simpa using c2
            by_cases c4 : k < i
            · have c5 : (k : Int) < (i : Int) := by omega
              have E := Lib.hid (show z + 1 = aheadT ts ms (k + 1) i from by rw [HH.out.1, decide_eq_true (HH.out.2.1.2 (.inr ⟨c2, c4⟩))]; simp)
              have E2 : z + 1 ≤ 1000 := by have := HH.out.2.2; have := E.out; have := HK.out; omega
              clear HH
              go_wp2_with fail
              refine T1.out.mono ?_
              rintro e w2 ⟨rfl, rfl⟩
              go_wp2_with fail
              refine T2.out.mono ?_
              rintro e w2 ⟨rfl, rfl⟩
              go_wp2_with fail
              refine T3.out.mono ?_
              rintro e w2 ⟨rfl, rfl⟩
              go_wp2
              go_roundg (gk - 1)
              case measure => have := HK.out; omega
              case rel => exact ⟨by have := HK.out; omega, num_eq (by have := HK.out; omega), ⟨_, num_eq (by push_cast; rfl), by omega, Lib.hid (by rw [show K - (gk - 1) = k + 1 from by have := HK.out; omega]; exact E.out)⟩, hx⟩
            · have c5 : ¬ (k : Int) < (i : Int) := by omega
              have E := Lib.hid (show z = aheadT ts ms (k + 1) i from by rw [HH.out.1, decide_eq_false (fun hr => absurd (HH.out.2.1.1 hr) (by omega))]; simp)
              have E2 := 0
              clear HH
              go_wp2_with fail
              refine T1.out.mono ?_
              rintro e w2 ⟨rfl, rfl⟩
              go_wp2_with fail
              refine T2.out.mono ?_
              rintro e w2 ⟨rfl, rfl⟩
              go_wp2_with fail
              refine T3.out.mono ?_
              rintro e w2 ⟨rfl, rfl⟩
              go_wp2
              go_roundg (gk - 1)
              case measure => have := HK.out; omega
              case rel => exact ⟨by have := HK.out; omega, num_eq (by have := HK.out; omega), ⟨_, rfl, by omega, Lib.hid (by rw [show K - (gk - 1) = k + 1 from by have := HK.out; omega]; exact E.out)⟩, hx⟩
          · have c3 : (v == u) = false := by simpa using c2
            have E := Lib.hid (show z = aheadT ts ms (k + 1) i from by rw [HH.out.1, decide_eq_false (fun hr => absurd (HH.out.2.1.1 hr) (by omega))]; simp)
            have E2 := 0
            clear HH
            go_wp2_with fail
            refine T1.out.mono ?_
            rintro e w2 ⟨rfl, rfl⟩
            go_wp2_with fail
            refine T2.out.mono ?_
            rintro e w2 ⟨rfl, rfl⟩
            go_wp2_with fail
            refine T3.out.mono ?_
            rintro e w2 ⟨rfl, rfl⟩
            go_wp2
            go_roundg (gk - 1)
            case measure => have := HK.out; omega
            case rel => exact ⟨by have := HK.out; omega, num_eq (by have := HK.out; omega), ⟨_, rfl, by omega, Lib.hid (by rw [show K - (gk - 1) = k + 1 from by have := HK.out; omega]; exact E.out)⟩, hx⟩
set_option maxRecDepth 100000 in
set_option maxHeartbeats 4000000 in
theorem rChoose_any (A B : Option Addr) (n c m d : Nat) (ts : List Int) (ms : List Bool) (most : Int) (w : World) (h : Sl w 1 A n c (iv .u64 ts)) (k : Sl w 1 B m d (bv ms)) (hn : n ≤ 1000) (hm : m ≤ 1000) :
    Calls Try.prog 17 #[.slice A n c, .slice B m d, .int .i64 most] w (RetBool (chooV ts ms most) w) := by
  obtain ⟨i0, hi0, hz0, hz1, hz2⟩ := info_parts infoBool
  obtain ⟨K, hK⟩ : ∃ K, K = max n m := ⟨_, rfl⟩
  have hKa : allN ts ms = K := by unfold allN; rw [h.ilen, k.blen, hK]
  have hKs : K ≤ 1000 := by omega
  have hmax := max_run n m K hK
  have HT := Lib.hid h
  have HM := Lib.hid k
  have HKK := Lib.hid (And.intro hK hKa)
  clear h k hK hKa
  go_enter Try.func17, Try.ntmps17
  go_wp2
  go_loopg [7, 8] K (fun gh q i8 wx => gh ≤ K ∧ i8 = .int .i64 ((K - gh : Nat) : Int) ∧ Hid (OwnBool wx w.heap.size q (K - gh) (chooP ts ms most (K - gh))) ∧ Hid (Ext w wx))
  case atStart => exact ⟨Nat.le_refl _, by simp, Lib.hid (by rw [Nat.sub_self]; exact OwnBool.nil _ _), Lib.hid (Ext.refl _)⟩
  case round =>
    obtain ⟨hg, hi8, ho, hx⟩ := hrel
    obtain ⟨k, hk⟩ : ∃ k, k = K - gk := ⟨_, rfl⟩
    rw [← hk] at hi8 ho
    subst hi8
    obtain ⟨A7, c7, rfl, _, _⟩ := own_parts2 ho.out
    by_cases hz : gk = 0
    · have hkn : ¬ (k : Int) < (K : Int) := by omega
      have E := Lib.hid (show RetBool (chooV ts ms most) w (.returned (.slice A7 k c7)) wr from by
        refine RetBool.mk ?_ hx.out
        have h := ho.out
        rw [show k = K by omega] at h ⊢
        have e : chooP ts ms most K = chooV ts ms most := by unfold chooP chooV; rw [HKK.out.2]
        rw [e] at h
        rw [chooV_len, HKK.out.2]
        exact h)
      clear hk hg hz ho hx
      go_wp2
      go_ret
      exact E.out
    · have hkn : (k : Int) < (K : Int) := by omega
      have hks : k ≤ 1000 := by omega
      obtain ⟨b, hb⟩ : ∃ b, b = cnt ts ms k := ⟨_, rfl⟩
      obtain ⟨z, hzz⟩ : ∃ z, z = aheadL ts ms k := ⟨_, rfl⟩
      have t3 := rCounts_any A B n c m d ts ms k wr (HT.out.ext hx.out) (HM.out.ext hx.out)
      have t4 := rAhead_any A B n c m d ts ms k wr (HT.out.ext hx.out) (HM.out.ext hx.out) hn hm (by omega)
      have hs := chooP_snoc ts ms most k
      rw [← hb, ← hzz] at hs
      rw [← hb] at t3
      rw [← hzz] at t4
      have T3 := Lib.hid t3
      have T4 := Lib.hid t4
      have HH := Lib.hid hs
      have HK := Lib.hid (And.intro hk (And.intro hg hz))
      have hwx := Ext.size hx.out
      clear hk hg hz hb hzz t3 t4 hs
      cases b
      · go_wp2_with fail
        refine T3.out.mono ?_
        rintro e w2 ⟨rfl, rfl⟩
        go_wp2_with (at_builtin; refine wpList_append_new _ rfl _ _ 23 rfl w.heap.size 4 i0 (.bool false) 1 1 Try.underlying23 hi0 hz0 hz1 hz2 rfl (by decide) _ k (bv (chooP ts ms most k)) (by rfl) ho.out #[.bool (false)] 1 (by first | rfl | simp [Act.eval, go_sem]) rfl (by intro u hu; simp at hu; subst hu; rfl) (by omega) (by decide) (by first | omega | (simp; omega)) ?_; intro v9 w9 hown9 hb9; have XX := Lib.hid (show Ext w w9 from Ext.below hx.out hb9); have E0 := Lib.hid hown9; clear hown9 hb9)
        have E := Lib.hid (show OwnBool w9 w.heap.size v9 (k + 1) (chooP ts ms most (k + 1)) from by rw [HH.out]; unfold OwnBool; simpa [bv] using E0.out)
        go_wp2
        go_roundg (gk - 1)
        case measure => have := HK.out; omega
        case rel => exact ⟨by have := HK.out; omega, num_eq (by have := HK.out; omega), by rw [show K - (gk - 1) = k + 1 from by have := HK.out; omega]; exact E, XX⟩
      · go_wp2_with fail
        refine T3.out.mono ?_
        rintro e w2 ⟨rfl, rfl⟩
        go_wp2_with fail
        refine T4.out.mono ?_
        rintro e w2 ⟨rfl, hx2⟩
        have HO2 := Lib.hid (OwnBool.ext ho.out hx2)
        have HX2 := Lib.hid (hx.out.trans hx2)
        have hw2 := Ext.size HX2.out
        clear hx2 ho hx hwx
        go_wp2_with (at_builtin; refine wpList_append_new _ rfl _ _ 23 rfl w.heap.size 4 i0 (.bool false) 1 1 Try.underlying23 hi0 hz0 hz1 hz2 rfl (by decide) _ k (bv (chooP ts ms most k)) (by rfl) HO2.out #[.bool (decide ((z : Int) < most))] 1 (by first | rfl | simp [Act.eval, go_sem]) rfl (by intro u hu; simp at hu; subst hu; rfl) (by omega) (by decide) (by first | omega | (simp; omega)) ?_; intro v9 w9 hown9 hb9; have XX := Lib.hid (show Ext w w9 from Ext.below HX2.out hb9); have E0 := Lib.hid hown9; clear hown9 hb9)
        have E := Lib.hid (show OwnBool w9 w.heap.size v9 (k + 1) (chooP ts ms most (k + 1)) from by rw [HH.out]; unfold OwnBool; simpa [bv] using E0.out)
        go_wp2
        go_roundg (gk - 1)
        case measure => have := HK.out; omega
        case rel => exact ⟨by have := HK.out; omega, num_eq (by have := HK.out; omega), by rw [show K - (gk - 1) = k + 1 from by have := HK.out; omega]; exact E, XX⟩
set_option maxRecDepth 100000 in
set_option maxHeartbeats 4000000 in
theorem rRank_any (A B : Option Addr) (n c m d : Nat) (ts : List Int) (ms : List Bool) (w : World) (h : Sl w 1 A n c (iv .u64 ts)) (k : Sl w 1 B m d (bv ms)) (hn : n ≤ 1000) (hm : m ≤ 1000) :
    Calls Try.prog 15 #[.slice A n c, .slice B m d] w (RetInt (rankV ts ms) w) := by
  obtain ⟨i0, hi0, hz0, hz1, hz2⟩ := info_parts infoInt
  obtain ⟨K, hK⟩ : ∃ K, K = max n m := ⟨_, rfl⟩
  have hKa : allN ts ms = K := by unfold allN; rw [h.ilen, k.blen, hK]
  have hKs : K ≤ 1000 := by omega
  have hmax := max_run n m K hK
  have HT := Lib.hid h
  have HM := Lib.hid k
  have HKK := Lib.hid (And.intro hK hKa)
  clear h k hK hKa
  go_enter Try.func15, Try.ntmps15
  go_wp2
  go_loopg [5, 7] K (fun gh q i7 wx => gh ≤ K ∧ i7 = .int .i64 ((K - gh : Nat) : Int) ∧ Hid (OwnInt wx w.heap.size q (rankT ts ms (K - gh)).length (rankT ts ms (K - gh))) ∧ Hid (Ext w wx))
  case atStart => exact ⟨Nat.le_refl _, by simp, Lib.hid (by rw [Nat.sub_self]; exact OwnInt.nil _ _), Lib.hid (Ext.refl _)⟩
  case round =>
    obtain ⟨hg, hi7, ho, hx⟩ := hrel
    obtain ⟨gk2, hgk2⟩ : ∃ g : Nat, g = gk := ⟨_, rfl⟩
    subst hgk2
    obtain ⟨N, hN⟩ : ∃ k, k = K - gk2 := ⟨_, rfl⟩
    rw [← hN] at hi7 ho
    subst hi7
    obtain ⟨A7, c7, rfl, _, _⟩ := own_parts2 ho.out
    by_cases hz : gk2 = 0
    · have hkn : ¬ (N : Int) < (K : Int) := by omega
      have E := Lib.hid (show RetInt (rankV ts ms) w (.returned (.slice A7 (rankT ts ms N).length c7)) wr from by
        refine RetInt.mk ?_ hx.out
        have h := ho.out
        rw [show N = K by omega] at h ⊢
        have e : rankT ts ms K = rankV ts ms := by unfold rankV; rw [HKK.out.2]
        rw [e] at h ⊢
        exact h)
      clear hN hg hz ho hx
      go_wp2
      go_ret
      exact E.out
    · have hkn : (N : Int) < (K : Int) := by omega
      have HG2 := Lib.hid (And.intro hN (And.intro hg hz))
      have hlT : (rankT ts ms N).length ≤ 1000000 := by
        refine Nat.le_trans (rankT_len ts ms N) ?_
        rw [HKK.out.2]
        exact Nat.mul_le_mul (show N ≤ 1000 by omega) hKs
      have HLT := Lib.hid hlT
      have ho2 := ho
      have hx2 := hx
      clear hN hg hz ho hx hlT
      go_wp2
      go_loopg [5, 8] K (fun gh q i8 wx => gh ≤ K ∧ i8 = .int .i64 ((K - gh : Nat) : Int) ∧ Hid (OwnInt wx w.heap.size q (rankT ts ms N ++ rankN ts ms N (K - gh)).length (rankT ts ms N ++ rankN ts ms N (K - gh))) ∧ Hid (Ext w wx))
      case atStart => exact ⟨Nat.le_refl _, by simp, by rw [Nat.sub_self]; simpa [rankN] using ho2, hx2⟩
      case round =>
        clear ho2 hx2
        obtain ⟨hg, hi8, ho, hx⟩ := hrel
        obtain ⟨k, hk⟩ : ∃ k, k = K - gk := ⟨_, rfl⟩
        rw [← hk] at hi8 ho
        subst hi8
        obtain ⟨L, hL⟩ : ∃ L, L = rankT ts ms N ++ rankN ts ms N k := ⟨_, rfl⟩
        rw [← hL] at ho
        obtain ⟨A8, c8, rfl, _, _⟩ := own_parts2 ho.out
        by_cases hz : gk = 0
        · have hkn2 : ¬ (k : Int) < (K : Int) := by omega
          have E := Lib.hid (show OwnInt wr w.heap.size (.slice A8 L.length c8) (rankT ts ms (N + 1)).length (rankT ts ms (N + 1)) from by
            rw [rankT_snoc, HKK.out.2, show K = k by omega, ← hL]
            exact ho.out)
          clear hk hg hz ho hL
          go_wp2
          go_roundg (gk2 - 1)
          case measure => have := HG2.out; omega
          case rel => exact ⟨by have := HG2.out; omega, num_eq (by have := HG2.out; omega), by rw [show K - (gk2 - 1) = N + 1 from by have := HG2.out; omega]; exact E, hx⟩
        · have hkn2 : (k : Int) < (K : Int) := by omega
          have hks : k ≤ 1000 := by omega
          obtain ⟨b, hb⟩ : ∃ b, b = cnt ts ms k := ⟨_, rfl⟩
          obtain ⟨z, hzz⟩ : ∃ z, z = aheadL ts ms k := ⟨_, rfl⟩
          have t3 := rCounts_any A B n c m d ts ms k wr (HT.out.ext hx.out) (HM.out.ext hx.out)
          have t4 := rAhead_any A B n c m d ts ms k wr (HT.out.ext hx.out) (HM.out.ext hx.out) hn hm (by omega)
          have hs := rankN_snoc ts ms N k
          rw [← hb, ← hzz] at hs
          rw [← hb] at t3
          rw [← hzz] at t4
          have T3 := Lib.hid t3
          have T4 := Lib.hid t4
          have hLl : L.length ≤ 1001000 := by
            have h1 := HLT.out
            have h2 := rankN_len ts ms N k
            rw [hL, List.length_append]; omega
          have HH := Lib.hid (And.intro hs hL)
          have HK := Lib.hid (And.intro hk (And.intro hg hz))
          have hwx := Ext.size hx.out
          clear hk hg hz hb hzz t3 t4 hs hL
          cases b
          · have E := Lib.hid (show OwnInt wr w.heap.size (.slice A8 L.length c8) (rankT ts ms N ++ rankN ts ms N (k + 1)).length (rankT ts ms N ++ rankN ts ms N (k + 1)) from by rw [HH.out.1]; simpa [← HH.out.2] using ho.out)
            go_wp2_with fail
            refine T3.out.mono ?_
            rintro e w2 ⟨rfl, rfl⟩
            go_wp2
            go_roundg (gk - 1)
            case measure => have := HK.out; omega
            case rel => exact ⟨by have := HK.out; omega, num_eq (by have := HK.out; omega), by rw [show K - (gk - 1) = k + 1 from by have := HK.out; omega]; exact E, hx⟩
          · by_cases hzN : z = N
            · have e1 : ((z : Int) == (N : Int)) = true := by simp [hzN]
              have HZ := Lib.hid hzN
              clear hzN
              go_wp2_with fail
              refine T3.out.mono ?_
              rintro e w2 ⟨rfl, rfl⟩
              go_wp2_with fail
              refine T4.out.mono ?_
              rintro e w2 ⟨rfl, hx2⟩
              have HO2 := Lib.hid (OwnInt.ext ho.out hx2)
              have HX2 := Lib.hid (hx.out.trans hx2)
              have hw2 := Ext.size HX2.out
              clear hx2 ho hx hwx
              go_wp2_with (at_builtin; refine wpList_append_new _ rfl _ _ 27 rfl w.heap.size 3 i0 (.int .i64 0) 1 8 Try.underlying27 hi0 hz0 hz1 hz2 rfl (by decide) _ L.length (iv .i64 L) (by rfl) HO2.out #[.int .i64 (k : Int)] 1 (by first | rfl | simp [Act.eval, go_sem]) rfl (by intro u hu; simp at hu; subst hu; rfl) (by omega) (by decide) (by first | omega | (simp; omega)) ?_; intro v9 w9 hown9 hb9; have XX := Lib.hid (show Ext w w9 from Ext.below HX2.out hb9); have E0 := Lib.hid hown9; clear hown9 hb9)
              have E := Lib.hid (show OwnInt w9 w.heap.size v9 (rankT ts ms N ++ rankN ts ms N (k + 1)).length (rankT ts ms N ++ rankN ts ms N (k + 1)) from by
                have e2 : rankT ts ms N ++ rankN ts ms N (k + 1) = L ++ [(k : Int)] := by rw [HH.out.1, HZ.out, HH.out.2]; simp
                rw [e2, List.length_append]
                unfold OwnInt
                simpa [iv] using E0.out)
              go_wp2
              go_roundg (gk - 1)
              case measure => have := HK.out; omega
              case rel => exact ⟨by have := HK.out; omega, num_eq (by have := HK.out; omega), by rw [show K - (gk - 1) = k + 1 from by have := HK.out; omega]; exact E, XX⟩
            · have e1 : ((z : Int) == (N : Int)) = false := by simp; omega
              have HZ := Lib.hid hzN
              clear hzN
              go_wp2_with fail
              refine T3.out.mono ?_
              rintro e w2 ⟨rfl, rfl⟩
              go_wp2_with fail
              refine T4.out.mono ?_
              rintro e w2 ⟨rfl, hx2⟩
              have HX2 := Lib.hid (hx.out.trans hx2)
              have E := Lib.hid (show OwnInt w2 w.heap.size (.slice A8 L.length c8) (rankT ts ms N ++ rankN ts ms N (k + 1)).length (rankT ts ms N ++ rankN ts ms N (k + 1)) from by
                have e2 : rankT ts ms N ++ rankN ts ms N (k + 1) = L := by rw [HH.out.1, HH.out.2]; simp [HZ.out]
                rw [e2]
                exact OwnInt.ext ho.out hx2)
              clear hx2
              go_wp2
              go_roundg (gk - 1)
              case measure => have := HK.out; omega
              case rel => exact ⟨by have := HK.out; omega, num_eq (by have := HK.out; omega), by rw [show K - (gk - 1) = k + 1 from by have := HK.out; omega]; exact E, HX2⟩
end Go.Proofs.Ytplmgcbjfmdebaa
