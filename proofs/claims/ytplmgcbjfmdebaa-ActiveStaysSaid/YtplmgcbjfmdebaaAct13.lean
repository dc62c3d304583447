/- law17: bools, awake, ActiveKnown. Conditions stand in each lemma. -/
import Derived.Test.YtplmgcbjfmdebaaAct12
set_option linter.unusedVariables false
set_option linter.unusedSimpArgs false
namespace Go.Proofs.Ytplmgcbjfmdebaa
open Go.RowKit Go.Shelf Go.ChangeShapes Go.WideShapes Go.Deep

theorem wd_newA (W : World) (L : List Int) (n : Nat) (A : Option Addr) (cs : Array Value) (hc : cs.toList = iv .u64 L) (e : A = some ⟨W.heap.size, 0, none⟩) (hl : L.length = n) (hn : n ≤ 1000000) : Sl (W.alloc (.cells cs 36)) 1 A n n (iv .u64 L) := by
  subst e
  rw [← hc]
  have h0 : cs.size = n := by rw [← hl, ← iv_len .u64 L, ← hc]; simp
  exact sl_new W 36 1 cs n (by omega) hn
theorem in_newA (W : World) (L : List Int) (n : Nat) (A : Option Addr) (cs : Array Value) (hc : cs.toList = iv .i64 L) (e : A = some ⟨W.heap.size, 0, none⟩) (hl : L.length = n) (hn : n ≤ 1000000) : Sl (W.alloc (.cells cs 3)) 1 A n n (iv .i64 L) := by
  subst e
  rw [← hc]
  have h0 : cs.size = n := by rw [← hl, ← iv_len .i64 L, ← hc]; simp
  exact sl_new W 3 1 cs n (by omega) hn
theorem words_of {L : List Int} (h : L.all (fun x => decide (0 ≤ x ∧ x < 18446744073709551616)) = true) : ∀ x ∈ L, Word x := by
  intro x hx
  have h2 : 0 ≤ x ∧ x < 18446744073709551616 := of_decide_eq_true (List.all_eq_true.1 h x hx)
  exact h2
theorem word_of {a : Int} (h : decide (0 ≤ a ∧ a < 18446744073709551616) = true) : Word a := by
  have h2 : 0 ≤ a ∧ a < 18446744073709551616 := of_decide_eq_true h
  exact h2
def one49 (c : UInt8) : Bool := c == 49
theorem one49_eq (c : UInt8) : (((c.toNat : Int)) == 49) = one49 c := by
  unfold one49
  by_cases h : c = 49
  · subst h; rfl
  · have h3 : (49 : UInt8).toNat = 49 := rfl
    have h2 : ¬ (c.toNat : Int) = 49 := fun e => h (UInt8.toNat_inj.1 (by omega))
    rw [beq_eq_false_iff_ne.2 h2, beq_eq_false_iff_ne.2 h]
set_option maxRecDepth 100000 in
set_option maxHeartbeats 4000000 in
theorem bools17_any (s : ByteArray) (w : World) (hs : s.size ≤ 1000) :
    Calls Try.prog 29 #[.string s] w (RetBool (s.data.toList.map one49) w) := by
  obtain ⟨i0, hi0, hz0, hz1, hz2⟩ := info_parts infoBool
  obtain ⟨K, hK⟩ : ∃ K, K = s.size := ⟨_, rfl⟩
  have hKd : s.data.toList.length = K := by rw [hK, Array.length_toList]; rfl
  have hKs : K ≤ 1000 := by omega
  obtain ⟨L, hL⟩ : ∃ L, L = s.data.toList.map one49 := ⟨_, rfl⟩
  have hLl : L.length = K := by rw [hL, List.length_map, hKd]
  have HIX : Hid (∀ (k : Nat) (h : k < K), ∃ x : Int, (∀ w : World, (Instr.index 9 (.string s) (.int .i64 (k : Int))).run Try.prog w = .ok (.int .u8 x) w) ∧ (x == 49) = L.getD k false) := Lib.hid (by
    intro k h
    have hks : k < s.size := by omega
    refine ⟨((s[k]'hks).toNat : Int), fun w => ?_, ?_⟩
    · rw [run_index_string w 9 s .i64 (k : Int) Try.underlying9, dif_pos ⟨by omega, by omega⟩]
      simp
    · rw [one49_eq, hL, List.getD_eq_getElem?_getD, List.getElem?_map, List.getElem?_eq_getElem (by omega)]
      simp [ByteArray.getElem_eq_getElem_data])
  rw [← hL]
  have HL := Lib.hid hLl
  have hlen : ∀ (t ty : TypeId) (w : World), Try.prog.underlying t = some .string → (Builtin.len_ #[t] ty #[.string s]).run Try.prog w = .ok (.int .i64 (K : Int)) w := by
    intro t ty w ht
    rw [run_len_string w t ty s ht, hK]; rfl
  have hlen2 : ∀ (ty : TypeId) (w : World), (Builtin.len_ #[9] ty #[.string s]).run Try.prog w = .ok (.int .i64 (K : Int)) w := fun ty w => hlen _ _ w Try.underlying9
  clear hlen hK hKd hL hLl hs
  go_enter Try.func29, Try.ntmps29
  go_wp2
  go_loopg [3, 4] K (fun gh q i wx => gh ≤ K ∧ i = .int .i64 ((K - gh : Nat) : Int) ∧ Hid (OwnBool wx w.heap.size q (K - gh) (L.take (K - gh))) ∧ Hid (Ext w wx))
  case atStart => exact ⟨Nat.le_refl _, by simp, Lib.hid (by rw [Nat.sub_self]; exact OwnBool.nil _ _), Lib.hid (Ext.refl _)⟩
  case round =>
    obtain ⟨hg, hi, ho, hx⟩ := hrel
    obtain ⟨k, hk⟩ : ∃ k, k = K - gk := ⟨_, rfl⟩
    rw [← hk] at hi ho
    subst hi
    obtain ⟨A7, c7, rfl, _, _⟩ := own_parts2 ho.out
    by_cases hz : gk = 0
    · have hkn : ¬ (k : Int) < (K : Int) := by omega
      have E := Lib.hid (show RetBool L w (.returned (.slice A7 k c7)) wr from by
        refine RetBool.mk ?_ hx.out
        have h := ho.out
        rw [List.take_of_length_le (by have := HL.out; omega)] at h
        rw [show L.length = k by have := HL.out; omega]
        exact h)
      clear hk hg hz ho hx
      go_wp2
      go_ret
      exact E.out
    · have hkn : (k : Int) < (K : Int) := by omega
      obtain ⟨x, hix, hxe⟩ := HIX.out k (by omega)
      have HE := Lib.hid hxe
      have HK := Lib.hid (And.intro hk (And.intro hg hz))
      have hwx := Ext.size hx.out
      have hks : k ≤ 1000 := by omega
      clear hk hg hz hxe
      go_wp2_with (at_builtin; refine wpList_append_new _ rfl _ _ 23 rfl w.heap.size 4 i0 (.bool false) 1 1 Try.underlying23 hi0 hz0 hz1 hz2 rfl (by decide) _ k (bv (L.take k)) (by rfl) ho.out #[.bool (x == 49)] 1 (by first | rfl | simp [Act.eval, go_sem]) rfl (by intro u hu; simp at hu; subst hu; rfl) (by omega) (by decide) (by first | omega | (simp; omega)) ?_; intro v9 w9 hown9 hb9; have XX := Lib.hid (show Ext w w9 from Ext.below hx.out hb9); have E0 := Lib.hid hown9; clear hown9 hb9)
      have E := Lib.hid (show OwnBool w9 w.heap.size v9 (k + 1) (L.take (k + 1)) from by
        have e : L.take (k + 1) = L.take k ++ [x == 49] := by
          rw [HE.out, List.take_succ_eq_append_getElem (by have := HL.out; have := HK.out; omega), List.getD_eq_getElem?_getD, List.getElem?_eq_getElem (by have := HL.out; have := HK.out; omega)]
          rfl
        rw [e]
        unfold OwnBool
        simpa [bv] using E0.out)
      go_wp2
      go_roundg (gk - 1)
      case measure => have := HK.out; omega
      case rel => exact ⟨by have := HK.out; omega, num_eq (by have := HK.out; omega), by rw [show K - (gk - 1) = k + 1 from by have := HK.out; omega]; exact E, XX⟩
theorem bools17_ev (s : ByteArray) (L : List Bool) (k : Nat) (w : World) (hs : s.size ≤ 1000) (hL : s.data.toList.map one49 = L) (hk : L.length = k) :
    Calls Try.prog 29 #[.string s] w fun e w' => ∃ A c, e = .returned (.slice A k c) ∧ OwnBool w' w.heap.size (.slice A k c) k L ∧ Ext w w' := by
  subst hk; subst hL
  exact (bools17_any s w hs).mono fun e w' ⟨A, c, h1, _, h2, h3⟩ => ⟨A, c, h1, h2, h3⟩
theorem rank_ev (A B : Option Addr) (n c m d : Nat) (ts : List Int) (ms : List Bool) (R : List Int) (k : Nat) (w : World) (h : Sl w 1 A n c (iv .u64 ts)) (k' : Sl w 1 B m d (bv ms)) (hn : n ≤ 1000) (hm : m ≤ 1000) (hw : ∀ x ∈ ts, Word x) (hR : rankV ts ms = R) (hk : R.length = k) :
    Calls Try.prog 12 #[.slice A n c, .slice B m d] w fun e w' => ∃ A c, e = .returned (.slice A k c) ∧ OwnInt w' w.heap.size (.slice A k c) k R ∧ Ext w w' := by
  subst hk; subst hR
  exact (actRank_any A B n c m d ts ms w h k' hn hm hw).mono fun e w' ⟨A, c, h1, _, h2, h3⟩ => ⟨A, c, h1, h2, h3⟩
theorem choose_ev (A B : Option Addr) (n c m d : Nat) (ts : List Int) (ms : List Bool) (most : Int) (R : List Bool) (k : Nat) (w : World) (h : Sl w 1 A n c (iv .u64 ts)) (k' : Sl w 1 B m d (bv ms)) (hn : n ≤ 1000) (hm : m ≤ 1000) (hw : ∀ x ∈ ts, Word x) (hR : chooV ts ms most = R) (hk : R.length = k) :
    Calls Try.prog 13 #[.slice A n c, .slice B m d, .int .i64 most] w fun e w' => ∃ A c, e = .returned (.slice A k c) ∧ OwnBool w' w.heap.size (.slice A k c) k R ∧ Ext w w' := by
  subst hk; subst hR
  exact (actChoose_any A B n c m d ts ms most w h k' hn hm hw).mono fun e w' ⟨A, c, h1, _, h2, h3⟩ => ⟨A, c, h1, h2, h3⟩
theorem diff_ev (A B : Option Addr) (n c m d : Nat) (us bs : List Bool) (I O : List Int) (i j : Nat) (w : World) (h : Sl w 1 A n c (bv us)) (k : Sl w 1 B m d (bv bs)) (hn : n ≤ 1000) (hm : m ≤ 1000) (hI : difI us bs (max us.length bs.length) = I) (hO : difO us bs (max us.length bs.length) = O) (hi : I.length = i) (hj : O.length = j) :
    Calls Try.prog 21 #[.slice A n c, .slice B m d] w fun e w' => ∃ A c B d, e = .returned (.tuple #[.slice A i c, .slice B j d]) ∧ OwnInt w' w.heap.size (.slice A i c) i I ∧ OwnInt w' w.heap.size (.slice B j d) j O ∧ Ext w w' := by
  subst hi; subst hj; subst hI; subst hO
  exact actDiff_any A B n c m d us bs w h k hn hm
theorem floor_ev (A B : Option Addr) (n c m d : Nat) (ts : List Int) (ms : List Bool) (v : Int) (f : Bool) (w : World) (h : Sl w 1 A n c (iv .u64 ts)) (k : Sl w 1 B m d (bv ms)) (hm : m ≤ 1000) (hw : ∀ x ∈ ts, Word x) (hf : flT ts ms ms.length = (v, f)) :
    Calls Try.prog 23 #[.slice A n c, .slice B m d] w fun e w' => e = .returned (.tuple #[.int .u64 v, .bool f]) ∧ Ext w w' := by
  have := actFloor_any A B n c m d ts ms w h k hm hw
  rwa [hf] at this
theorem sum_ev (A B : Option Addr) (n c m d : Nat) (ts : List Int) (ms : List Bool) (v : Int) (w : World) (h : Sl w 1 A n c (iv .u64 ts)) (k : Sl w 1 B m d (bv ms)) (hm : m ≤ 1000) (hw : ∀ x ∈ ts, Word x) (hv : sumW ts ms = v) :
    Calls Try.prog 25 #[.slice A n c, .slice B m d] w fun e w' => e = .returned (.int .u64 v) ∧ Ext w w' := by
  have := actSum_any A B n c m d ts ms w h k hm hw
  rwa [hv] at this
theorem quo_ev (s v : Int) (w : World) (hs : Word s) (hv : quoV s = v) : Calls Try.prog 27 #[.int .u64 s] w fun e w' => e = .returned (.int .u64 v) ∧ Ext w w' := by
  have := actQuorum_any s hs w
  rwa [hv] at this
set_option maxRecDepth 100000 in
set_option maxHeartbeats 4000000 in
theorem awake17_any (w : World) : Calls Try.prog 9 #[] w fun r w' => r = .returned (.bool true) ∧ Ext w w' := by
  have HW5 := Lib.hid (show Sl (w.alloc (.cells #[.int .u64 5, .int .u64 9, .int .u64 5, .int .u64 0, .int .u64 7] 36)) 1 (some ⟨w.heap.size, 0, none⟩) 5 5 (iv .u64 [5, 9, 5, 0, 7]) from wd_newA w [5, 9, 5, 0, 7] 5 _ _ rfl rfl rfl (by omega))
  go_enter Try.func9, Try.ntmps9
  go_wp2_with fail
  (with_reducible refine (bools17_ev ⟨#[49, 49, 49, 49, 49]⟩ [true, true, true, true, true] 5 _ (by decide) (by decide) rfl).mono ?_)
  rintro e w1 ⟨B1, bB1, rfl, hB1, hx1⟩
  have z1 := hx1.size
  try simp at z1
  replace HW5 := Lib.hid (HW5.out.ext (Ext.trans (by repeat (first | with_reducible exact Ext.refl _ | with_reducible refine Ext.drew ?_ | with_reducible refine Ext.drewN ?_ _ | with_reducible refine Ext.alloc ?_ _ | with_reducible refine Ext.setCell ?_ (by first | omega | (simp; done) | (simp; omega)) _)) hx1))
  have X1 : Hid (Ext w w1) := Lib.hid (Ext.trans (by repeat (first | with_reducible exact Ext.refl w | with_reducible refine Ext.drew ?_ | with_reducible refine Ext.drewN ?_ _ | with_reducible refine Ext.alloc ?_ _ | with_reducible refine Ext.setCell ?_ (by first | omega | (simp; done) | (simp; omega)) _)) hx1)
  have HB1 := Lib.hid hB1
  clear hx1 z1 hB1
  go_wp2_with fail
  (with_reducible refine (rank_ev _ B1 5 5 5 bB1 [5, 9, 5, 0, 7] [true, true, true, true, true] [1, 4, 0, 2] 4 _ (HW5.out.ext (by repeat (first | with_reducible exact Ext.refl _ | with_reducible refine Ext.drew ?_ | with_reducible refine Ext.drewN ?_ _ | with_reducible refine Ext.alloc ?_ _ | with_reducible refine Ext.setCell ?_ (by first | omega | (simp; done) | (simp; omega)) _))) (OwnBool.sl (HB1.out.ext (by repeat (first | with_reducible exact Ext.refl _ | with_reducible refine Ext.drew ?_ | with_reducible refine Ext.drewN ?_ _ | with_reducible refine Ext.alloc ?_ _ | with_reducible refine Ext.setCell ?_ (by first | omega | (simp; done) | (simp; omega)) _)))) (by decide) (by decide) (words_of rfl) (by decide) rfl).mono ?_)
  rintro e w2 ⟨A1, cA1, rfl, hA1, hx2⟩
  have z2 := hx2.size
  try simp at z2
  replace HW5 := Lib.hid (HW5.out.ext (Ext.trans (by repeat (first | with_reducible exact Ext.refl _ | with_reducible refine Ext.drew ?_ | with_reducible refine Ext.drewN ?_ _ | with_reducible refine Ext.alloc ?_ _ | with_reducible refine Ext.setCell ?_ (by first | omega | (simp; done) | (simp; omega)) _)) hx2))
  have X2 : Hid (Ext w w2) := Lib.hid (Ext.trans (by repeat (first | with_reducible exact X1.out | with_reducible refine Ext.drew ?_ | with_reducible refine Ext.drewN ?_ _ | with_reducible refine Ext.alloc ?_ _ | with_reducible refine Ext.setCell ?_ (by first | omega | (simp; done) | (simp; omega)) _)) hx2)
  have HA1 := Lib.hid hA1
  clear HB1 X1 hx2 z2 hA1
  go_wp2_with fail
  (with_reducible refine (kSameInts_eq A1 _ 4 cA1 4 4 [1, 4, 0, 2] _ (OwnInt.sl (HA1.out.ext (by repeat (first | with_reducible exact Ext.refl _ | with_reducible refine Ext.drew ?_ | with_reducible refine Ext.drewN ?_ _ | with_reducible refine Ext.alloc ?_ _ | with_reducible refine Ext.setCell ?_ (by first | omega | (simp; done) | (simp; omega)) _)))) (in_newA _ [1, 4, 0, 2] 4 _ _ (by first | rfl | (simp [iv]; done)) (by first | rfl | (simp; done)) rfl (by omega))).mono ?_)
  rintro e w3 ⟨rfl, hx3⟩
  have z3 := hx3.size
  try simp at z3
  replace HW5 := Lib.hid (HW5.out.ext (Ext.trans (by repeat (first | with_reducible exact Ext.refl _ | with_reducible refine Ext.drew ?_ | with_reducible refine Ext.drewN ?_ _ | with_reducible refine Ext.alloc ?_ _ | with_reducible refine Ext.setCell ?_ (by first | omega | (simp; done) | (simp; omega)) _)) hx3))
  have X3 : Hid (Ext w w3) := Lib.hid (Ext.trans (by repeat (first | with_reducible exact X2.out | with_reducible refine Ext.drew ?_ | with_reducible refine Ext.drewN ?_ _ | with_reducible refine Ext.alloc ?_ _ | with_reducible refine Ext.setCell ?_ (by first | omega | (simp; done) | (simp; omega)) _)) hx3)
  clear HA1 X2 hx3 z3
  go_wp2_with fail
  (with_reducible refine (bools17_ev ⟨#[49, 49, 49, 49, 49]⟩ [true, true, true, true, true] 5 _ (by decide) (by decide) rfl).mono ?_)
  rintro e w4 ⟨B2, bB2, rfl, hB2, hx4⟩
  have z4 := hx4.size
  try simp at z4
  replace HW5 := Lib.hid (HW5.out.ext (Ext.trans (by repeat (first | with_reducible exact Ext.refl _ | with_reducible refine Ext.drew ?_ | with_reducible refine Ext.drewN ?_ _ | with_reducible refine Ext.alloc ?_ _ | with_reducible refine Ext.setCell ?_ (by first | omega | (simp; done) | (simp; omega)) _)) hx4))
  have X4 : Hid (Ext w w4) := Lib.hid (Ext.trans (by repeat (first | with_reducible exact X3.out | with_reducible refine Ext.drew ?_ | with_reducible refine Ext.drewN ?_ _ | with_reducible refine Ext.alloc ?_ _ | with_reducible refine Ext.setCell ?_ (by first | omega | (simp; done) | (simp; omega)) _)) hx4)
  have HB2 := Lib.hid hB2
  clear X3 hx4 z4 hB2
  go_wp2_with fail
  (with_reducible refine (choose_ev _ B2 5 5 5 bB2 [5, 9, 5, 0, 7] [true, true, true, true, true] 3 [true, true, false, false, true] 5 _ (HW5.out.ext (by repeat (first | with_reducible exact Ext.refl _ | with_reducible refine Ext.drew ?_ | with_reducible refine Ext.drewN ?_ _ | with_reducible refine Ext.alloc ?_ _ | with_reducible refine Ext.setCell ?_ (by first | omega | (simp; done) | (simp; omega)) _))) (OwnBool.sl (HB2.out.ext (by repeat (first | with_reducible exact Ext.refl _ | with_reducible refine Ext.drew ?_ | with_reducible refine Ext.drewN ?_ _ | with_reducible refine Ext.alloc ?_ _ | with_reducible refine Ext.setCell ?_ (by first | omega | (simp; done) | (simp; omega)) _)))) (by decide) (by decide) (words_of rfl) (by decide) rfl).mono ?_)
  rintro e w5 ⟨A2, cA2, rfl, hA2, hx5⟩
  have z5 := hx5.size
  try simp at z5
  have X5 : Hid (Ext w w5) := Lib.hid (Ext.trans (by repeat (first | with_reducible exact X4.out | with_reducible refine Ext.drew ?_ | with_reducible refine Ext.drewN ?_ _ | with_reducible refine Ext.alloc ?_ _ | with_reducible refine Ext.setCell ?_ (by first | omega | (simp; done) | (simp; omega)) _)) hx5)
  have HA2 := Lib.hid hA2
  clear HB2 HW5 X4 hx5 z5 hA2
  go_wp2_with fail
  (with_reducible refine (bools17_ev ⟨#[49, 49, 48, 48, 49]⟩ [true, true, false, false, true] 5 _ (by decide) (by decide) rfl).mono ?_)
  rintro e w6 ⟨B3, bB3, rfl, hB3, hx6⟩
  have z6 := hx6.size
  try simp at z6
  replace HA2 := Lib.hid (HA2.out.ext (Ext.trans (by repeat (first | with_reducible exact Ext.refl _ | with_reducible refine Ext.drew ?_ | with_reducible refine Ext.drewN ?_ _ | with_reducible refine Ext.alloc ?_ _ | with_reducible refine Ext.setCell ?_ (by first | omega | (simp; done) | (simp; omega)) _)) hx6))
  have X6 : Hid (Ext w w6) := Lib.hid (Ext.trans (by repeat (first | with_reducible exact X5.out | with_reducible refine Ext.drew ?_ | with_reducible refine Ext.drewN ?_ _ | with_reducible refine Ext.alloc ?_ _ | with_reducible refine Ext.setCell ?_ (by first | omega | (simp; done) | (simp; omega)) _)) hx6)
  have HB3 := Lib.hid hB3
  clear X5 hx6 z6 hB3
  go_wp2_with fail
  (with_reducible refine (sameBools17_eq A2 B3 5 cA2 5 bB3 [true, true, false, false, true] _ (OwnBool.sl (HA2.out.ext (by repeat (first | with_reducible exact Ext.refl _ | with_reducible refine Ext.drew ?_ | with_reducible refine Ext.drewN ?_ _ | with_reducible refine Ext.alloc ?_ _ | with_reducible refine Ext.setCell ?_ (by first | omega | (simp; done) | (simp; omega)) _)))) (OwnBool.sl (HB3.out.ext (by repeat (first | with_reducible exact Ext.refl _ | with_reducible refine Ext.drew ?_ | with_reducible refine Ext.drewN ?_ _ | with_reducible refine Ext.alloc ?_ _ | with_reducible refine Ext.setCell ?_ (by first | omega | (simp; done) | (simp; omega)) _))))).mono ?_)
  rintro e w7 ⟨rfl, hx7⟩
  have z7 := hx7.size
  try simp at z7
  have X7 : Hid (Ext w w7) := Lib.hid (Ext.trans (by repeat (first | with_reducible exact X6.out | with_reducible refine Ext.drew ?_ | with_reducible refine Ext.drewN ?_ _ | with_reducible refine Ext.alloc ?_ _ | with_reducible refine Ext.setCell ?_ (by first | omega | (simp; done) | (simp; omega)) _)) hx7)
  clear HA2 HB3 X6 hx7 z7
  go_wp2_with fail
  have HW2 := Lib.hid (wd_newA w7 [5, 9] 2 (some ⟨w7.heap.size, 0, none⟩) #[.int .u64 5, .int .u64 9] rfl rfl rfl (by omega))
  (with_reducible refine (bools17_ev ⟨#[49, 49, 49]⟩ [true, true, true] 3 _ (by decide) (by decide) rfl).mono ?_)
  rintro e w8 ⟨B4, bB4, rfl, hB4, hx8⟩
  have z8 := hx8.size
  try simp at z8
  replace HW2 := Lib.hid (HW2.out.ext (Ext.trans (by repeat (first | with_reducible exact Ext.refl _ | with_reducible refine Ext.drew ?_ | with_reducible refine Ext.drewN ?_ _ | with_reducible refine Ext.alloc ?_ _ | with_reducible refine Ext.setCell ?_ (by first | omega | (simp; done) | (simp; omega)) _)) hx8))
  have X8 : Hid (Ext w w8) := Lib.hid (Ext.trans (by repeat (first | with_reducible exact X7.out | with_reducible refine Ext.drew ?_ | with_reducible refine Ext.drewN ?_ _ | with_reducible refine Ext.alloc ?_ _ | with_reducible refine Ext.setCell ?_ (by first | omega | (simp; done) | (simp; omega)) _)) hx8)
  have HB4 := Lib.hid hB4
  clear X7 hx8 z8 hB4
  go_wp2_with fail
  (with_reducible refine (sum_ev _ B4 2 2 3 bB4 [5, 9] [true, true, true] 14 _ (HW2.out.ext (by repeat (first | with_reducible exact Ext.refl _ | with_reducible refine Ext.drew ?_ | with_reducible refine Ext.drewN ?_ _ | with_reducible refine Ext.alloc ?_ _ | with_reducible refine Ext.setCell ?_ (by first | omega | (simp; done) | (simp; omega)) _))) (OwnBool.sl (HB4.out.ext (by repeat (first | with_reducible exact Ext.refl _ | with_reducible refine Ext.drew ?_ | with_reducible refine Ext.drewN ?_ _ | with_reducible refine Ext.alloc ?_ _ | with_reducible refine Ext.setCell ?_ (by first | omega | (simp; done) | (simp; omega)) _)))) (by decide) (words_of rfl) (by decide)).mono ?_)
  rintro e w9 ⟨rfl, hx9⟩
  have z9 := hx9.size
  try simp at z9
  have X9 : Hid (Ext w w9) := Lib.hid (Ext.trans (by repeat (first | with_reducible exact X8.out | with_reducible refine Ext.drew ?_ | with_reducible refine Ext.drewN ?_ _ | with_reducible refine Ext.alloc ?_ _ | with_reducible refine Ext.setCell ?_ (by first | omega | (simp; done) | (simp; omega)) _)) hx9)
  clear HW2 HB4 X8 hx9 z9
  go_wp2_with fail
  (with_reducible refine (quo_ev 100 67 _ (word_of rfl) (by decide)).mono ?_)
  rintro e w10 ⟨rfl, hx10⟩
  have z10 := hx10.size
  try simp at z10
  have X10 : Hid (Ext w w10) := Lib.hid (Ext.trans (by repeat (first | with_reducible exact X9.out | with_reducible refine Ext.drew ?_ | with_reducible refine Ext.drewN ?_ _ | with_reducible refine Ext.alloc ?_ _ | with_reducible refine Ext.setCell ?_ (by first | omega | (simp; done) | (simp; omega)) _)) hx10)
  clear X9 hx10 z10
  go_wp2_with fail
  go_ret
  exact ⟨rfl, (by repeat (first | with_reducible exact X10.out | with_reducible refine Ext.drew ?_ | with_reducible refine Ext.drewN ?_ _ | with_reducible refine Ext.alloc ?_ _ | with_reducible refine Ext.setCell ?_ (by first | omega | (simp; done) | (simp; omega)) _))⟩
end Go.Proofs.Ytplmgcbjfmdebaa
