/- active and distraintref17: Diff, Sum, Floor, Quorum. Conditions stand in each lemma. -/
import Derived.Test.YtplmgcbjfmdebaaAct9
import Derived.Test.YtplmgcbjfmdebaaAct10
import Derived.Test.YtplmgcbjfmdebaaFixF
import Derived.Test.YtplmgcbjfmdebaaFixRefF
set_option linter.unusedVariables false
set_option linter.unusedSimpArgs false
namespace Go.Proofs.Ytplmgcbjfmdebaa
open Go.RowKit Go.Shelf Go.ChangeShapes Go.WideShapes Go.Deep

/-- who comes in, who goes out, up to a place -/
def difI (a b : List Bool) (m : Nat) : List Int := ((List.range m).filter fun i => isB b i && !isB a i).map Int.ofNat
def difO (a b : List Bool) (m : Nat) : List Int := ((List.range m).filter fun i => isB a i && !isB b i).map Int.ofNat
theorem difI_snoc (a b : List Bool) (m : Nat) : difI a b (m + 1) = difI a b m ++ (if isB b m && !isB a m then [(m : Int)] else []) := by
  unfold difI
  rw [List.range_succ, List.filter_append, List.map_append]
  by_cases h : (isB b m && !isB a m) = true <;> simp [h]
theorem difO_snoc (a b : List Bool) (m : Nat) : difO a b (m + 1) = difO a b m ++ (if isB a m && !isB b m then [(m : Int)] else []) := by
  unfold difO
  rw [List.range_succ, List.filter_append, List.map_append]
  by_cases h : (isB a m && !isB b m) = true <;> simp [h]
theorem difI_len (a b : List Bool) (m : Nat) : (difI a b m).length ≤ m := by
  unfold difI
  rw [List.length_map]
  exact Nat.le_trans (List.length_filter_le _ _) (by simp)
theorem difO_len (a b : List Bool) (m : Nat) : (difO a b m).length ≤ m := by
  unfold difO
  rw [List.length_map]
  exact Nat.le_trans (List.length_filter_le _ _) (by simp)
/-- what those in have together, up to a place -/
def sumT (ts : List Int) (ms : List Bool) : Nat → Int
  | 0 => 0
  | k + 1 => sumT ts ms k + if isB ms k then tk ts k else 0
def sumW (ts : List Int) (ms : List Bool) : Int := if sumT ts ms ms.length < 18446744073709551616 then sumT ts ms ms.length else 18446744073709551615
theorem word_tk {ts : List Int} (h : ∀ x ∈ ts, Word x) (k : Nat) : Word (tk ts k) := by
  unfold tk
  rw [List.getD_eq_getElem?_getD]
  rcases e : ts[k]? with _ | x
  · exact ⟨by simp, by simp⟩
  · exact h x (List.mem_of_getElem? e)
theorem sumT_nonneg {ts : List Int} (h : ∀ x ∈ ts, Word x) (ms : List Bool) : ∀ k, 0 ≤ sumT ts ms k
  | 0 => Int.le_refl 0
  | k + 1 => by
    have := sumT_nonneg h ms k
    have := (word_tk h k).1
    unfold sumT
    split <;> omega
theorem sumT_mono {ts : List Int} (h : ∀ x ∈ ts, Word x) (ms : List Bool) (k : Nat) : ∀ j, sumT ts ms k ≤ sumT ts ms (k + j)
  | 0 => Int.le_refl _
  | j + 1 => by
    have h1 := sumT_mono h ms k j
    have := (word_tk h (k + j)).1
    rw [show k + (j + 1) = (k + j) + 1 from rfl, sumT]
    split <;> omega
/-- the least one that is in, up to a place -/
def flT (ts : List Int) (ms : List Bool) : Nat → Int × Bool
  | 0 => (0, false)
  | k + 1 => if isB ms k && (!(flT ts ms k).2 || decide (tk ts k < (flT ts ms k).1)) then (tk ts k, true) else flT ts ms k
def quoV (s : Int) : Int := 2 * s / 3 + 1
theorem Apart.symm2 {v v2 : Value} (h : Apart v v2) : Apart v2 v := fun k h2 h1 => h k h1 h2
/-- two lists handed back -/
def RetTwo (l r : List Int) (w : World) (e : Ending) (w' : World) : Prop := ∃ A c B d, e = .returned (.tuple #[.slice A l.length c, .slice B r.length d]) ∧ OwnInt w' w.heap.size (.slice A l.length c) l.length l ∧ OwnInt w' w.heap.size (.slice B r.length d) r.length r ∧ Ext w w'
set_option maxRecDepth 100000 in
set_option maxHeartbeats 4000000 in
theorem actDiff_any (A B : Option Addr) (n c m d : Nat) (us bs : List Bool) (w : World) (h : Sl w 1 A n c (bv us)) (k : Sl w 1 B m d (bv bs)) (hn : n ≤ 1000) (hm : m ≤ 1000) :
    Calls Try.prog 21 #[.slice A n c, .slice B m d] w (RetTwo (difI us bs (max us.length bs.length)) (difO us bs (max us.length bs.length)) w) := by
  obtain ⟨i0, hi0, hz0, hz1, hz2⟩ := info_parts infoInt
  obtain ⟨K, hK⟩ : ∃ K, K = max n m := ⟨_, rfl⟩
  have hKa : max us.length bs.length = K := by rw [h.blen, k.blen, hK]
  rw [hKa]
  have hKs : K ≤ 1000 := by omega
  have HT := Lib.hid h
  have HM := Lib.hid k
  have HKK := Lib.hid hK
  clear h k hK hKa
  go_enter Try.func21, Try.ntmps21
  go_wp2_with fail
  refine (allBB_any A B n c m d K _ HKK.out).mono ?_
  rintro e w2 ⟨rfl, rfl⟩
  go_wp2_with fail
  go_loopg [4, 5, 14] K (fun gh q r i wx => gh ≤ K ∧ i = .int .i64 ((K - gh : Nat) : Int) ∧ Hid (OwnInt wx w.heap.size q (difI us bs (K - gh)).length (difI us bs (K - gh))) ∧ Hid (OwnInt wx w.heap.size r (difO us bs (K - gh)).length (difO us bs (K - gh))) ∧ Hid (Apart q r) ∧ Hid (Ext w wx))
  case atStart => exact ⟨Nat.le_refl _, by simp, Lib.hid (by rw [Nat.sub_self]; exact OwnInt.nil _ _), Lib.hid (by rw [Nat.sub_self]; exact OwnInt.nil _ _), Lib.hid (Apart.nil _), Lib.hid (Ext.refl _)⟩
  case round =>
    obtain ⟨hg, hi, ho1, ho2, hap, hx⟩ := hrel
    obtain ⟨k, hk⟩ : ∃ k, k = K - gk := ⟨_, rfl⟩
    rw [← hk] at hi ho1 ho2
    subst hi
    obtain ⟨L, hL⟩ : ∃ L, L = difI us bs k := ⟨_, rfl⟩
    obtain ⟨R, hR⟩ : ∃ R, R = difO us bs k := ⟨_, rfl⟩
    rw [← hL] at ho1
    rw [← hR] at ho2
    obtain ⟨A7, c7, rfl, _, _⟩ := own_parts2 ho1.out
    obtain ⟨A8, c8, rfl, _, _⟩ := own_parts2 ho2.out
    by_cases hz : gk = 0
    · have hkn : ¬ (k : Int) < (K : Int) := by omega
      have E := Lib.hid (show RetTwo (difI us bs K) (difO us bs K) w (.returned (.tuple #[.slice A7 L.length c7, .slice A8 R.length c8])) wr from by
        rw [show K = k by omega, ← hL, ← hR]
        exact ⟨A7, c7, A8, c8, rfl, ho1.out, ho2.out, hx.out⟩)
      clear hk hg hz ho1 ho2 hx hap hL hR
      go_wp2
      go_ret2
      exact E.out
    · have hkn : (k : Int) < (K : Int) := by omega
      obtain ⟨a, ha⟩ : ∃ a, a = isB us k := ⟨_, rfl⟩
      obtain ⟨b, hb⟩ : ∃ b, b = isB bs k := ⟨_, rfl⟩
      have t1 := atB_any A n c us k wr (HT.out.ext hx.out)
      have t2 := atB_any B m d bs k wr (HM.out.ext hx.out)
      rw [← ha] at t1
      rw [← hb] at t2
      have T1 := Lib.hid t1
      have T2 := Lib.hid t2
      have d1 := difI_snoc us bs k
      have d2 := difO_snoc us bs k
      rw [← ha, ← hb, ← hL] at d1
      rw [← ha, ← hb, ← hR] at d2
      have hLl : L.length ≤ 1000 := by rw [hL]; exact Nat.le_trans (difI_len _ _ _) (by omega)
      have hRl : R.length ≤ 1000 := by rw [hR]; exact Nat.le_trans (difO_len _ _ _) (by omega)
      have HD := Lib.hid (And.intro d1 d2)
      have HK := Lib.hid (And.intro hk (And.intro hg hz))
      have hwx := Ext.size hx.out
      clear hk hg hz ha hb t1 t2 d1 d2 hL hR
      cases a
      · cases b
        · go_wp2_with fail
          refine T1.out.mono ?_
          rintro e w2 ⟨rfl, rfl⟩
          go_wp2_with fail
          refine T2.out.mono ?_
          rintro e w2 ⟨rfl, rfl⟩
          go_wp2
          go_roundg (gk - 1)
          case measure => have := HK.out; omega
          case rel => exact ⟨by have := HK.out; omega, num_eq (by have := HK.out; omega), Lib.hid (by rw [show K - (gk - 1) = k + 1 from by have := HK.out; omega, HD.out.1]; simpa using ho1.out), Lib.hid (by rw [show K - (gk - 1) = k + 1 from by have := HK.out; omega, HD.out.2]; simpa using ho2.out), hap, hx⟩
        · go_wp2_with fail
          refine T1.out.mono ?_
          rintro e w2 ⟨rfl, rfl⟩
          go_wp2_with fail
          refine T2.out.mono ?_
          rintro e w2 ⟨rfl, rfl⟩
          go_wp2_with (at_builtin; refine wpList_append_but _ rfl _ _ 27 rfl w.heap.size 3 i0 (.int .i64 0) 1 8 Try.underlying27 hi0 hz0 hz1 hz2 rfl (by decide) _ L.length (iv .i64 L) (by rfl) ho1.out #[.int .i64 (k : Int)] 1 (by first | rfl | simp [Act.eval, go_sem]) rfl (by intro u hu; simp at hu; subst hu; rfl) (by omega) (by decide) (by first | omega | (simp; omega)) ?_; intro v9 w9 hown9 hb9 hf9; have E0 := Lib.hid (And.intro hown9 (And.intro hb9 hf9)); clear hown9 hb9 hf9)
          have E1 := Lib.hid (show OwnInt w9 w.heap.size v9 (difI us bs (k + 1)).length (difI us bs (k + 1)) from by
            have e2 : difI us bs (k + 1) = L ++ [(k : Int)] := by rw [HD.out.1]; simp
            rw [e2, List.length_append]
            unfold OwnInt
            simpa [iv] using E0.out.1)
          have E2 := Lib.hid (ownInt_but ho2.out E0.out.2.1 (fun j hj hs => hap.out j hs hj))
          have E3 := Lib.hid (show Apart v9 (.slice A8 R.length c8) from fun j hj hj2 => by
            rcases E0.out.2.2 j hj with h | h
            · exact hap.out j h hj2
            · have := (World.ownsRow.lt ho2.out j hj2).2; omega)
          have E4 := Lib.hid (show Ext w w9 from hx.out.trans2 E0.out.2.1 (fun j hj hs => by have := (World.ownsRow.lt ho1.out j hs).1; omega))
          clear ho1 ho2 hap hx E0
          go_wp2
          go_roundg (gk - 1)
          case measure => have := HK.out; omega
          case rel => exact ⟨by have := HK.out; omega, num_eq (by have := HK.out; omega), Lib.hid (by rw [show K - (gk - 1) = k + 1 from by have := HK.out; omega]; exact E1.out), Lib.hid (by rw [show K - (gk - 1) = k + 1 from by have := HK.out; omega]; exact (by rw [HD.out.2]; simpa using E2.out)), E3, E4⟩
      · cases b
        · go_wp2_with fail
          refine T1.out.mono ?_
          rintro e w2 ⟨rfl, rfl⟩
          go_wp2_with fail
          refine T2.out.mono ?_
          rintro e w2 ⟨rfl, rfl⟩
          go_wp2_with (at_builtin; refine wpList_append_but _ rfl _ _ 27 rfl w.heap.size 3 i0 (.int .i64 0) 1 8 Try.underlying27 hi0 hz0 hz1 hz2 rfl (by decide) _ R.length (iv .i64 R) (by rfl) ho2.out #[.int .i64 (k : Int)] 1 (by first | rfl | simp [Act.eval, go_sem]) rfl (by intro u hu; simp at hu; subst hu; rfl) (by omega) (by decide) (by first | omega | (simp; omega)) ?_; intro v9 w9 hown9 hb9 hf9; have E0 := Lib.hid (And.intro hown9 (And.intro hb9 hf9)); clear hown9 hb9 hf9)
          have E1 := Lib.hid (show OwnInt w9 w.heap.size v9 (difO us bs (k + 1)).length (difO us bs (k + 1)) from by
            have e2 : difO us bs (k + 1) = R ++ [(k : Int)] := by rw [HD.out.2]; simp
            rw [e2, List.length_append]
            unfold OwnInt
            simpa [iv] using E0.out.1)
          have E2 := Lib.hid (ownInt_but ho1.out E0.out.2.1 (fun j hj hs => hap.out.symm2 j hs hj))
          have E3 := Lib.hid (show Apart v9 (.slice A7 L.length c7) from fun j hj hj2 => by
            rcases E0.out.2.2 j hj with h | h
            · exact hap.out.symm2 j h hj2
            · have := (World.ownsRow.lt ho1.out j hj2).2; omega)
          have E4 := Lib.hid (show Ext w w9 from hx.out.trans2 E0.out.2.1 (fun j hj hs => by have := (World.ownsRow.lt ho2.out j hs).1; omega))
          clear ho2 ho1 hap hx E0
          go_wp2
          go_roundg (gk - 1)
          case measure => have := HK.out; omega
          case rel => exact ⟨by have := HK.out; omega, num_eq (by have := HK.out; omega), Lib.hid (by rw [show K - (gk - 1) = k + 1 from by have := HK.out; omega]; exact (by rw [HD.out.1]; simpa using E2.out)), Lib.hid (by rw [show K - (gk - 1) = k + 1 from by have := HK.out; omega]; exact E1.out), Lib.hid E3.out.symm2, E4⟩
        · go_wp2_with fail
          refine T1.out.mono ?_
          rintro e w2 ⟨rfl, rfl⟩
          go_wp2_with fail
          refine T2.out.mono ?_
          rintro e w2 ⟨rfl, rfl⟩
          go_wp2
          go_roundg (gk - 1)
          case measure => have := HK.out; omega
          case rel => exact ⟨by have := HK.out; omega, num_eq (by have := HK.out; omega), Lib.hid (by rw [show K - (gk - 1) = k + 1 from by have := HK.out; omega, HD.out.1]; simpa using ho1.out), Lib.hid (by rw [show K - (gk - 1) = k + 1 from by have := HK.out; omega, HD.out.2]; simpa using ho2.out), hap, hx⟩
set_option maxRecDepth 100000 in
set_option maxHeartbeats 4000000 in
theorem rDiff_any (A B : Option Addr) (n c m d : Nat) (us bs : List Bool) (w : World) (h : Sl w 1 A n c (bv us)) (k : Sl w 1 B m d (bv bs)) (hn : n ≤ 1000) (hm : m ≤ 1000) :
    Calls Try.prog 22 #[.slice A n c, .slice B m d] w (RetTwo (difI us bs (max us.length bs.length)) (difO us bs (max us.length bs.length)) w) := by
  obtain ⟨i0, hi0, hz0, hz1, hz2⟩ := info_parts infoInt
  obtain ⟨K, hK⟩ : ∃ K, K = max n m := ⟨_, rfl⟩
  have hKa : max us.length bs.length = K := by rw [h.blen, k.blen, hK]
  rw [hKa]
  have hKs : K ≤ 1000 := by omega
  have hmax := max_run n m K hK
  have HT := Lib.hid h
  have HM := Lib.hid k
  have HKK := Lib.hid hK
  clear h k hK hKa
  go_enter Try.func22, Try.ntmps22
  go_wp2
  go_loopg [6, 7, 8] K (fun gh q r i wx => gh ≤ K ∧ i = .int .i64 ((K - gh : Nat) : Int) ∧ Hid (OwnInt wx w.heap.size q (difI us bs (K - gh)).length (difI us bs (K - gh))) ∧ Hid (OwnInt wx w.heap.size r (difO us bs (K - gh)).length (difO us bs (K - gh))) ∧ Hid (Apart q r) ∧ Hid (Ext w wx))
  case atStart => exact ⟨Nat.le_refl _, by simp, Lib.hid (by rw [Nat.sub_self]; exact OwnInt.nil _ _), Lib.hid (by rw [Nat.sub_self]; exact OwnInt.nil _ _), Lib.hid (Apart.nil _), Lib.hid (Ext.refl _)⟩
  case round =>
    obtain ⟨hg, hi, ho1, ho2, hap, hx⟩ := hrel
    obtain ⟨k, hk⟩ : ∃ k, k = K - gk := ⟨_, rfl⟩
    rw [← hk] at hi ho1 ho2
    subst hi
    obtain ⟨L, hL⟩ : ∃ L, L = difI us bs k := ⟨_, rfl⟩
    obtain ⟨R, hR⟩ : ∃ R, R = difO us bs k := ⟨_, rfl⟩
    rw [← hL] at ho1
    rw [← hR] at ho2
    obtain ⟨A7, c7, rfl, _, _⟩ := own_parts2 ho1.out
    obtain ⟨A8, c8, rfl, _, _⟩ := own_parts2 ho2.out
    by_cases hz : gk = 0
    · have hkn : ¬ (k : Int) < (K : Int) := by omega
      have E := Lib.hid (show RetTwo (difI us bs K) (difO us bs K) w (.returned (.tuple #[.slice A7 L.length c7, .slice A8 R.length c8])) wr from by
        rw [show K = k by omega, ← hL, ← hR]
        exact ⟨A7, c7, A8, c8, rfl, ho1.out, ho2.out, hx.out⟩)
      clear hk hg hz ho1 ho2 hx hap hL hR
      go_wp2
      go_ret2
      exact E.out
    · have hkn : (k : Int) < (K : Int) := by omega
      obtain ⟨a, ha⟩ : ∃ a, a = isB us k := ⟨_, rfl⟩
      obtain ⟨b, hb⟩ : ∃ b, b = isB bs k := ⟨_, rfl⟩
      have t1 := rIs_any A n c us k wr (HT.out.ext hx.out)
      have t2 := rIs_any B m d bs k wr (HM.out.ext hx.out)
      rw [← ha] at t1
      rw [← hb] at t2
      have T1 := Lib.hid t1
      have T2 := Lib.hid t2
      have d1 := difI_snoc us bs k
      have d2 := difO_snoc us bs k
      rw [← ha, ← hb, ← hL] at d1
      rw [← ha, ← hb, ← hR] at d2
      have hLl : L.length ≤ 1000 := by rw [hL]; exact Nat.le_trans (difI_len _ _ _) (by omega)
      have hRl : R.length ≤ 1000 := by rw [hR]; exact Nat.le_trans (difO_len _ _ _) (by omega)
      have HD := Lib.hid (And.intro d1 d2)
      have HK := Lib.hid (And.intro hk (And.intro hg hz))
      have hwx := Ext.size hx.out
      have HAB := Lib.hid ha
      clear hk hg hz ha hb t1 t2 d1 d2 hL hR
      cases a
      · cases b
        · go_wp2_with fail
          refine T2.out.mono ?_
          rintro e w2 ⟨rfl, rfl⟩
          go_wp2_with fail
          refine T1.out.mono ?_
          rintro e w2 ⟨rfl, rfl⟩
          go_wp2
          go_roundg (gk - 1)
          case measure => have := HK.out; omega
          case rel => exact ⟨by have := HK.out; omega, num_eq (by have := HK.out; omega), Lib.hid (by rw [show K - (gk - 1) = k + 1 from by have := HK.out; omega, HD.out.1]; simpa using ho1.out), Lib.hid (by rw [show K - (gk - 1) = k + 1 from by have := HK.out; omega, HD.out.2]; simpa using ho2.out), hap, hx⟩
        · go_wp2_with fail
          refine T2.out.mono ?_
          rintro e w2 ⟨rfl, rfl⟩
          go_wp2_with fail
          refine T1.out.mono ?_
          rintro e w2 ⟨rfl, rfl⟩
          go_wp2_with (at_builtin; refine wpList_append_but _ rfl _ _ 27 rfl w.heap.size 3 i0 (.int .i64 0) 1 8 Try.underlying27 hi0 hz0 hz1 hz2 rfl (by decide) _ L.length (iv .i64 L) (by rfl) ho1.out #[.int .i64 (k : Int)] 1 (by first | rfl | simp [Act.eval, go_sem]) rfl (by intro u hu; simp at hu; subst hu; rfl) (by omega) (by decide) (by first | omega | (simp; omega)) ?_; intro v9 w9 hown9 hb9 hf9; have E0 := Lib.hid (And.intro hown9 (And.intro hb9 hf9)); clear hown9 hb9 hf9)
          have E1 := Lib.hid (show OwnInt w9 w.heap.size v9 (difI us bs (k + 1)).length (difI us bs (k + 1)) from by
            have e2 : difI us bs (k + 1) = L ++ [(k : Int)] := by rw [HD.out.1]; simp
            rw [e2, List.length_append]
            unfold OwnInt
            simpa [iv] using E0.out.1)
          have E2 := Lib.hid (ownInt_but ho2.out E0.out.2.1 (fun j hj hs => hap.out j hs hj))
          have E3 := Lib.hid (show Apart v9 (.slice A8 R.length c8) from fun j hj hj2 => by
            rcases E0.out.2.2 j hj with h | h
            · exact hap.out j h hj2
            · have := (World.ownsRow.lt ho2.out j hj2).2; omega)
          have E4 := Lib.hid (show Ext w w9 from hx.out.trans2 E0.out.2.1 (fun j hj hs => by have := (World.ownsRow.lt ho1.out j hs).1; omega))
          clear ho1 ho2 hap hx E0
          have T1b := Lib.hid (show _ from by have h := rIs_any A n c us k w9 (HT.out.ext E4.out); rw [← HAB.out] at h; exact h)
          go_wp2_with fail
          refine T1b.out.mono ?_
          rintro e w2 ⟨rfl, rfl⟩
          go_wp2
          go_roundg (gk - 1)
          case measure => have := HK.out; omega
          case rel => exact ⟨by have := HK.out; omega, num_eq (by have := HK.out; omega), Lib.hid (by rw [show K - (gk - 1) = k + 1 from by have := HK.out; omega]; exact E1.out), Lib.hid (by rw [show K - (gk - 1) = k + 1 from by have := HK.out; omega]; exact (by rw [HD.out.2]; simpa using E2.out)), E3, E4⟩
      · cases b
        · go_wp2_with fail
          refine T2.out.mono ?_
          rintro e w2 ⟨rfl, rfl⟩
          go_wp2_with fail
          refine T1.out.mono ?_
          rintro e w2 ⟨rfl, rfl⟩
          go_wp2_with fail
          refine T2.out.mono ?_
          rintro e w2 ⟨rfl, rfl⟩
          go_wp2_with (at_builtin; refine wpList_append_but _ rfl _ _ 27 rfl w.heap.size 3 i0 (.int .i64 0) 1 8 Try.underlying27 hi0 hz0 hz1 hz2 rfl (by decide) _ R.length (iv .i64 R) (by rfl) ho2.out #[.int .i64 (k : Int)] 1 (by first | rfl | simp [Act.eval, go_sem]) rfl (by intro u hu; simp at hu; subst hu; rfl) (by omega) (by decide) (by first | omega | (simp; omega)) ?_; intro v9 w9 hown9 hb9 hf9; have E0 := Lib.hid (And.intro hown9 (And.intro hb9 hf9)); clear hown9 hb9 hf9)
          have E1 := Lib.hid (show OwnInt w9 w.heap.size v9 (difO us bs (k + 1)).length (difO us bs (k + 1)) from by
            have e2 : difO us bs (k + 1) = R ++ [(k : Int)] := by rw [HD.out.2]; simp
            rw [e2, List.length_append]
            unfold OwnInt
            simpa [iv] using E0.out.1)
          have E2 := Lib.hid (ownInt_but ho1.out E0.out.2.1 (fun j hj hs => hap.out.symm2 j hs hj))
          have E3 := Lib.hid (show Apart v9 (.slice A7 L.length c7) from fun j hj hj2 => by
            rcases E0.out.2.2 j hj with h | h
            · exact hap.out.symm2 j h hj2
            · have := (World.ownsRow.lt ho1.out j hj2).2; omega)
          have E4 := Lib.hid (show Ext w w9 from hx.out.trans2 E0.out.2.1 (fun j hj hs => by have := (World.ownsRow.lt ho2.out j hs).1; omega))
          clear ho2 ho1 hap hx E0
          go_wp2
          go_roundg (gk - 1)
          case measure => have := HK.out; omega
          case rel => exact ⟨by have := HK.out; omega, num_eq (by have := HK.out; omega), Lib.hid (by rw [show K - (gk - 1) = k + 1 from by have := HK.out; omega]; exact (by rw [HD.out.1]; simpa using E2.out)), Lib.hid (by rw [show K - (gk - 1) = k + 1 from by have := HK.out; omega]; exact E1.out), Lib.hid E3.out.symm2, E4⟩
        · go_wp2_with fail
          refine T2.out.mono ?_
          rintro e w2 ⟨rfl, rfl⟩
          go_wp2_with fail
          refine T1.out.mono ?_
          rintro e w2 ⟨rfl, rfl⟩
          go_wp2_with fail
          refine T1.out.mono ?_
          rintro e w2 ⟨rfl, rfl⟩
          go_wp2_with fail
          refine T2.out.mono ?_
          rintro e w2 ⟨rfl, rfl⟩
          go_wp2
          go_roundg (gk - 1)
          case measure => have := HK.out; omega
          case rel => exact ⟨by have := HK.out; omega, num_eq (by have := HK.out; omega), Lib.hid (by rw [show K - (gk - 1) = k + 1 from by have := HK.out; omega, HD.out.1]; simpa using ho1.out), Lib.hid (by rw [show K - (gk - 1) = k + 1 from by have := HK.out; omega, HD.out.2]; simpa using ho2.out), hap, hx⟩
end Go.Proofs.Ytplmgcbjfmdebaa
