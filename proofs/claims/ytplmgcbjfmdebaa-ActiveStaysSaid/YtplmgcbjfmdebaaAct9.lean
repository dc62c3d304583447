/- active: Choose; the reference's ahead, Rank and Choose. Conditions stand in each lemma. -/
import Derived.Test.YtplmgcbjfmdebaaAct8
set_option linter.unusedVariables false
set_option linter.unusedSimpArgs false
namespace Go.Proofs.Ytplmgcbjfmdebaa
open Go.RowKit Go.Shelf Go.ChangeShapes Go.WideShapes Go.Deep

theorem make_bools {i0 : TypeInfo} (hi0 : Try.prog.info? 4 = some i0) (hz0 : i0.zero = some (.bool false)) (hz1 : i0.size = 1) (hz2 : i0.bytes = 1) (n : Nat) (hn : n < 1099511627776) (w : World) :
    ∃ w', (Instr.makeSlice 23 (.int .i64 (n : Int)) (.int .i64 (n : Int))).run Try.prog w = .ok (.slice (some ⟨w.heap.size, 0, none⟩) n n) w' ∧ OwnBool w' w.heap.size (.slice (some ⟨w.heap.size, 0, none⟩) n n) n (List.replicate n false) ∧ Ext w w' := by
  obtain ⟨w', h1, h2, h3⟩ := run_make_full (P := Try.prog) w w.heap.size 23 4 i0 _ 1 Try.underlying23 hi0 hz0 hz1 .i64 .i64 n (by rw [hz2]; omega) (by simp [maxLen]; omega) (Nat.le_refl _)
  refine ⟨w', h1, ?_, (Ext.refl w).grown h3 (fun k e => by cases e)⟩
  have e : (madeCells (Value.bool false).cells (n * 1)).toList = bv (List.replicate n false) := by
    simp [madeCells, bv, Value.cells, Nat.mod_one, List.map_const']
  rw [e] at h2
  exact h2
theorem OwnBool.in_pos {w : World} {base n c : Nat} {A : Option Addr} {l : List Bool} (h : OwnBool w base (.slice A n c) n l) {k : Nat} (hk : k < n) : ∃ g, A = some ⟨g, 0, none⟩ ∧ base ≤ g ∧ g < w.heap.size ∧ w.cell? ⟨g, k, none⟩ = some (.bool (l.getD k false)) ∧ w.frozen? ⟨g, k, none⟩ = false := by
  rcases h.2 with ⟨h', h0⟩ | ⟨b, cap, cur, h', hbg, _⟩
  · omega
  · injection h' with h1 h2 h3
    subst h1
    have hl := World.ownsRow.lt h b rfl
    exact ⟨b, rfl, hl.1, hl.2, (World.ownsRow.cellAt h k (by omega)).trans (bv_get l k (by have := (Sl.own h).blen; omega)), World.ownsRow.frozenAt h k⟩
theorem Sl.away {w : World} {A : Option Addr} {sz n c : Nat} {xs : List Value} {g i : Nat} {u : Value} (h : Sl w sz A n c xs) (hne : ∀ b o s, A = some ⟨b, o, s⟩ → b ≠ g) : Sl (w.setCell ⟨g, i, none⟩ u) sz A n c xs := by
  obtain ⟨h1, h2, h3, h4⟩ := h
  refine ⟨h1, h2, h3, fun hp => ?_⟩
  obtain ⟨b, o, e, hb, hc⟩ := h4 hp
  have hn := hne b o none e
  refine ⟨b, o, e, by simpa using hb, fun j v hj => ?_⟩
  have := hc j v hj
  have hB : But (fun k => k = g) w (w.setCell ⟨g, i, none⟩ u) := (But.refl (fun k => k = g) w).setG u
  exact hB.has (by show ¬ b = g; exact hn) this
set_option maxRecDepth 100000 in
set_option maxHeartbeats 4000000 in
theorem actChoose_any (A B : Option Addr) (n c m d : Nat) (ts : List Int) (ms : List Bool) (most : Int) (w : World) (h : Sl w 1 A n c (iv .u64 ts)) (k : Sl w 1 B m d (bv ms)) (hn : n ≤ 1000) (hm : m ≤ 1000) (hw : ∀ x ∈ ts, Word x) :
    Calls Try.prog 13 #[.slice A n c, .slice B m d, .int .i64 most] w (RetBool (chooV ts ms most) w) := by
  obtain ⟨i0, hi0, hz0, hz1, hz2⟩ := info_parts infoBool
  obtain ⟨K, hK⟩ : ∃ K, K = max n m := ⟨_, rfl⟩
  have hKa : allN ts ms = K := by unfold allN; rw [h.ilen, k.blen, hK]
  have hKs : K ≤ 1000 := by omega
  obtain ⟨w1, hmk, hO, hX⟩ := make_bools hi0 hz0 hz1 hz2 K (by omega) w
  have HR := Lib.hid (actRank_any A B n c m d ts ms w1 (h.ext hX) (k.ext hX) hn hm hw)
  have HKK := Lib.hid (And.intro hK hKa)
  obtain ⟨g, hg⟩ : ∃ g, g = w.heap.size := ⟨_, rfl⟩
  rw [← hg] at hO hmk
  have HO := Lib.hid hO
  have HX := Lib.hid hX
  have HG := Lib.hid hg
  obtain ⟨R, hR⟩ : ∃ R, R = rankV ts ms := ⟨_, rfl⟩
  rw [← hR] at HR
  have HRV := Lib.hid hR
  clear h k hK hKa hw hO hX hg hR
  go_enter Try.func13, Try.ntmps13
  go_wp2_with fail
  refine (allWB_any A B n c m d K _ HKK.out.1).mono ?_
  rintro e w2 ⟨rfl, rfl⟩
  go_wp2_with fail
  refine HR.out.mono ?_
  rintro e w2 ⟨A2, c2, rfl, hnil, hO2, hX2⟩
  have HS2 := Lib.hid (OwnInt.sl hO2)
  have HB := Lib.hid (show OwnBool w2 g (.slice (some ⟨g, 0, none⟩) K K) K (chooT ts ms most 0) from by rw [choo_zero, HKK.out.2]; exact HO.out.ext hX2)
  have HX3 := Lib.hid (show Ext w w2 from HX.out.trans hX2)
  have hgw : g < w2.heap.size := (World.ownsRow.lt HB.out g rfl).2
  have HA2 := Lib.hid (show ∀ b o s, A2 = some ⟨b, o, s⟩ → b ≠ g from fun b o s e => by have h := (OwnInt.in_ hO2 b o s e).1; have := (World.ownsRow.lt HO.out g rfl).2; omega)
  have hRl : R.length ≤ K := by
    have h := rank_len ts ms
    have h2 := cntL_len_le ts ms (allN ts ms)
    rw [HKK.out.2] at h h2
    rw [HRV.out]; omega
  clear hnil hO2 hX2 HR HO HX hmk
  go_wp2_with fail
  go_loopg [18] R.length (fun gh i wx => gh ≤ R.length ∧ i = .int .i64 ((R.length - gh : Nat) : Int) ∧ Hid (Sl wx 1 A2 R.length c2 (iv .i64 R)) ∧ Hid (OwnBool wx g (.slice (some ⟨g, 0, none⟩) K K) K (chooT ts ms most (R.length - gh))) ∧ Hid (Ext w wx))
  case atStart => exact ⟨Nat.le_refl _, by simp, HS2, by rw [Nat.sub_self]; exact HB, HX3⟩
  case round =>
    clear HS2 HB HX3
    obtain ⟨hgk, hi, hs, hb, hx⟩ := hrel
    obtain ⟨k, hk⟩ : ∃ k, k = R.length - gk := ⟨_, rfl⟩
    rw [← hk] at hi hb
    subst hi
    by_cases hz : gk = 0
    · have hkn : ¬ (k : Int) < (R.length : Int) := by omega
      have E := Lib.hid (show RetBool (chooV ts ms most) w (.returned (.slice (some ⟨g, 0, none⟩) K K)) wr from by
        refine RetBool.mk ?_ hx.out
        have h := hb.out
        rw [show k = (rankV ts ms).length from by rw [← HRV.out]; omega, choo_end] at h
        rw [chooV_len, HKK.out.2, ← HG.out]
        exact h)
      clear hk hgk hz hs hb hx
      go_wp2
      go_ret
      exact E.out
    · have hkn : (k : Int) < (R.length : Int) := by omega
      obtain ⟨x, hxk⟩ : ∃ x, R[k]? = some x := ⟨_, List.getElem?_eq_getElem (by omega)⟩
      obtain ⟨i, rfl, hi1, hi2, hi3⟩ := rank_at (HRV.out ▸ hxk)
      rw [HKK.out.2] at hi1
      have hiK : (i : Int) < (K : Int) := by omega
      obtain ⟨b1, o1, rfl, hb1, hc1⟩ := hs.out.cell (show k < R.length from by omega)
      have x_0 := hc1 k (by omega)
      rw [show R.getD k 0 = (i : Int) from by rw [List.getD_eq_getElem?_getD, hxk]; rfl] at x_0
      obtain ⟨g', e', _, _, c_0, f_0⟩ := hb.out.in_pos hi1
      injection e' with e'
      injection e' with e'
      subst e'
      obtain ⟨u, hu⟩ : ∃ u, u = (chooT ts ms most k).getD i false := ⟨_, rfl⟩
      rw [← hu] at c_0
      have hne : ¬ b1 = g := HA2.out b1 o1 none rfl
      have hne2 : ¬ g = b1 := fun e => hne e.symm
      have HK := Lib.hid (And.intro hk (And.intro hgk (And.intro hz hxk)))
      clear hc1 hi1 hi2 hi3 hu hk hgk hz hxk
      go_wp2
      go_roundg (gk - 1)
      case measure => have := HK.out; omega
      case rel =>
        have h1 := (hb.out.stored i (.bool (decide ((k : Int) < most)))).1
        rw [bv_set, choo_step (HRV.out ▸ HK.out.2.2.2)] at h1
        refine ⟨by have := HK.out; omega, num_eq (by have := HK.out; omega), Lib.hid ?_, Lib.hid ?_, Lib.hid ?_⟩
        · exact Sl.away hs.out HA2.out
        · rw [show R.length - (gk - 1) = k + 1 from by have := HK.out; omega]
          exact h1
        · exact hx.out.setCell (p := ⟨g, i, none⟩) (by rw [HG.out]; exact Nat.le_refl _) _
end Go.Proofs.Ytplmgcbjfmdebaa
