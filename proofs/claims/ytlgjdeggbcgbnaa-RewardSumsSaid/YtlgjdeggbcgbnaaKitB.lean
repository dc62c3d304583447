/- The kit's OverBytes, LentBytes, KeptBytes. Conditions stand in each lemma. -/
import Derived.Test.YtlgjdeggbcgbnaaRefW
import Derived.Test.YtlgjdeggbcgbnaaBytesM
import Derived.Test.YtlgjdeggbcgbnaaHeld2
import Derived.Laws.OwnMore
set_option linter.unusedVariables false
set_option linter.unusedSimpArgs false
namespace Go.Proofs.Ytlgjdeggbcgbnaa
open Go.RowKit

theorem xor_all : ∀ r : Fin 256, 0 ≤ bits .xor .u8 (r.1 : Int) 165 ∧ bits .xor .u8 (r.1 : Int) 165 < 256 := by decide +kernel
theorem by_set (M : List Nat) (k x : Nat) : (by_ M).set k (.int .u8 (x : Int)) = by_ (M.set k x) := by
  unfold by_
  rw [List.map_set]
theorem byt_set {M : List Nat} (h : Byt M) {k x : Nat} (hx : x < 256) : Byt (M.set k x) := by
  intro y hy
  rcases List.mem_or_eq_of_mem_set hy with h1 | h1
  · exact h y h1
  · omega
set_option maxHeartbeats 1000000 in
theorem kOverBytes_some (g c : Nat) (M : List Nat) (hB : Byt M) (base : Nat) (w : World) (h : w.ownsRow base 5 1 (.slice (some ⟨g, 0, none⟩) M.length c) M.length (by_ M)) :
    Calls Try.prog 27 #[.slice (some ⟨g, 0, none⟩) M.length c] w fun r w' => (∃ v, r = .returned v) ∧ But (· = g) w w' := by
  have hs := (Sl.own h).small
  have HO := Lib.hid (And.intro h hB)
  clear h hB
  generalize hn : M.length = n at *
  replace hn := Lib.hid hn
  go_enter Try.func27, Try.ntmps27
  go_wp2
  go_loopg [2] n (fun gh i wx => gh ≤ n ∧ i = .int .i64 ((n - gh : Nat) : Int) ∧ ∃ M', wx.ownsRow base 5 1 (.slice (some ⟨g, 0, none⟩) n c) n (by_ M') ∧ Byt M' ∧ But (· = g) w wx)
  case atStart => exact ⟨Nat.le_refl _, by simp, M, HO.out.1, HO.out.2, But.refl _ _⟩
  case round =>
    obtain ⟨hg, hi, M', hw, hB', hb⟩ := hrel
    have hl := (Sl.own hw).len
    rw [by_len] at hl
    have HW := Lib.hid hw
    have HBB := Lib.hid (And.intro hB' hb)
    obtain ⟨k, hk⟩ : ∃ k, k = n - gk := ⟨_, rfl⟩
    rw [← hk] at hi
    subst hi
    by_cases hz : gk = 0
    · have hkn : ¬ (k : Int) < n := by omega
      clear hw hB' hb hl hg hk hz
      go_wp2
      go_end0
      exact ⟨⟨_, rfl⟩, HBB.out.2⟩
    · have hkn : (k : Int) < n := by omega
      have hkl : k < M'.length := by omega
      have hc := (hw.cellAt k (by omega)).trans (by_get M' k hkl)
      have hf := hw.frozenAt k
      have hcb := hB'.get k
      obtain ⟨x, hx⟩ : ∃ x : Nat, bits .xor .u8 (M'.getD k 0 : Int) 165 = (x : Int) ∧ x < 256 := by
        have := xor_all ⟨M'.getD k 0, hcb⟩
        simp only at this
        exact ⟨(bits .xor .u8 (M'.getD k 0 : Int) 165).toNat, by omega, by omega⟩
      have HX := Lib.hid hx
      have HK := Lib.hid (And.intro hk (And.intro hg hz))
      generalize M'.getD k 0 = y at *
      have hy0 : (0 : Int) ≤ (y : Int) := by omega
      have hy1 : (y : Int) < 256 := by omega
      clear hx hw hB' hb hl hk hg hz hkl hcb
      go_wp2
      go_roundg (gk - 1)
      case measure => have := HK.out; omega
      case rel =>
        refine ⟨by have := HK.out; omega, num_eq (by have := HK.out; omega), M'.set k x, ?_, byt_set HBB.out.1 HX.out.2, HBB.out.2.setCell (p := ⟨g, k, none⟩) rfl _⟩
        have h2 := HW.out.stored k (.int .u8 (x : Int))
        rw [by_set] at h2
        rw [HX.out.1]
        exact h2.1
theorem kOverBytes_any (v : Value) (M : List Nat) (hB : Byt M) (base : Nat) (w : World) (h : w.ownsRow base 5 1 v M.length (by_ M)) :
    Calls Try.prog 27 #[v] w fun r w' => (∃ v, r = .returned v) ∧ But (fun k => base ≤ k) w w' := by
  rcases h.2 with ⟨rfl, h0⟩ | ⟨g, cap, cur, rfl, hbg, _⟩
  · rw [h0] at *
    go_enter Try.func27, Try.ntmps27
    go_wp2
    go_loopg [2] 0 (fun gh i wx => i = .int .i64 0 ∧ wx = w)
    case atStart => exact ⟨rfl, rfl⟩
    case round =>
      obtain ⟨rfl, rfl⟩ := hrel
      go_wp2
      go_end0
      exact ⟨⟨_, rfl⟩, But.refl _ _⟩
  · refine (kOverBytes_some g cap M hB base w h).mono ?_
    rintro r w' ⟨h1, h2⟩
    exact ⟨h1, h2.mono fun k _ hk => by have hk2 : k = g := hk; omega⟩
def lentT : List Nat := [201, 202, 203, 204]
set_option maxRecDepth 100000 in
set_option maxHeartbeats 1000000 in
theorem kLentBytes_any (A : Option Addr) (c : Nat) (L : List Nat) (w : World) (h : Sl w 1 A L.length c (by_ L)) (hn : L.length < 1099511627000) :
    Calls Try.prog 28 #[.slice A L.length c] w fun r w' => ∃ p : Nat × Nat, r = .returned (.slice (some ⟨p.1, 0, none⟩) L.length p.2) ∧ w'.ownsRow w.heap.size 5 1 (.slice (some ⟨p.1, 0, none⟩) (L.length + 4) p.2) (L.length + 4) (by_ (L ++ lentT)) ∧ Ext w w' := by
  obtain ⟨i0, hi, hz0, hz1, hz2⟩ := info_parts u8_info
  have HS := Lib.hid h
  clear h
  generalize hL : L.length = n at *
  replace hL := Lib.hid hL
  go_enter Try.func28, Try.ntmps28
  go_wp2_with (first | (at_builtin; have hst := X1; clear hst; refine wpList_append_sl (w1.alloc (.cells #[.int .u8 201, .int .u8 202, .int .u8 203, .int .u8 204] 5)) rfl _ _ 40 rfl w.heap.size 5 i0 (.int .u8 0) 1 1 Try.underlying40 hi hz0 hz1 hz2 rfl (by decide) _ n (by_ L) (by rfl) (own_keep H1.out ((Ext.refl _).alloc _)) (some ⟨w1.heap.size, 0, none⟩) 4 4 (by_ lentT) (by rfl) (sl_new w1 5 1 #[.int .u8 201, .int .u8 202, .int .u8 203, .int .u8 204] 4 rfl (by decide)) by_one (by omega) (by decide) (by simp; omega) ?_; intro v2 w2 hown2 hb2; rw [by_append] at hown2; obtain ⟨g, cap, rfl⟩ := ownsRow_succ hown2; have H2 := Lib.hid hown2; have X2 := Lib.hid ((X1.out.alloc _).below hb2); have q0 := (Sl.own hown2).small; have q1 := (Sl.own hown2).2.1; have q2 := (Sl.own hown2).2.2.1; unfold maxLen at q2; clear hown2 hb2) | (at_builtin; refine wpList_append_sl (w.alloc (.cells #[] 5)) rfl _ _ 40 rfl w.heap.size 5 i0 (.int .u8 0) 1 1 Try.underlying40 hi hz0 hz1 hz2 rfl (by decide) _ 0 [] (by rfl) (own_empty w _ _) A n c (by_ L) (by rfl) (HS.out.ext ((Ext.refl _).alloc _)) by_one (by omega) (by decide) (by simp) ?_; intro v1 w1 hown1 hb1; simp only [Nat.zero_add, List.nil_append] at hown1; obtain ⟨A1, c1, rfl, s1⟩ := own_parts hown1; have H1 := Lib.hid hown1; have X1 := Lib.hid (((Ext.refl w).alloc (.cells #[] 5)).below hb1); have z1 := X1.out.size; clear hown1 hb1 s1))
  go_wp2_with fail
  go_ret
  exact ⟨(g, cap), rfl, H2.out, X2.out⟩
theorem conv_all {L : List Nat} {n : Nat} {c : Nat} {A : Option Addr} : ∀ w', Sl w' 1 A n c (by_ L) → (convert 40 9 (.slice A n c)).run Try.prog w' = .ok (.string (strOfNums (bs_ L))) w' := fun w' h => conv_by h
set_option maxRecDepth 100000 in
set_option maxHeartbeats 2000000 in
theorem kKeptBytes_any (g cap : Nat) (A : Option Addr) (c : Nat) (L : List Nat) (base : Nat) (w : World) (h : w.ownsRow base 5 1 (.slice (some ⟨g, 0, none⟩) (L.length + 4) cap) (L.length + 4) (by_ (L ++ lentT))) (hb : Sl w 1 A L.length c (by_ L)) :
    Calls Try.prog 31 #[.slice (some ⟨g, 0, none⟩) L.length cap, .slice A L.length c] w fun r w' => r = .returned (.bool true) ∧ Ext w w' := by
  have hs0 := Sl.own h
  have q0 := hs0.small
  have q1 := hs0.2.1
  have q2 := hs0.2.2.1
  unfold maxLen at q2
  obtain ⟨s1, hs1⟩ : ∃ s, s = strOfNums (bs_ L) := ⟨_, rfl⟩
  obtain ⟨s4, hs4⟩ : ∃ s, s = strOfNums (bs_ lentT) := ⟨_, rfl⟩
  have cv1 := conv_all (L := L) (n := L.length) (c := cap) (A := some ⟨g, 0, none⟩)
  have cv2 := conv_all (L := L) (n := L.length) (c := c) (A := A)
  have cv3 := conv_all (L := lentT) (n := 4) (c := cap - L.length) (A := some ⟨g, L.length, none⟩)
  have cv4 := conv_all (L := lentT) (n := 4) (c := 4) (A := some ⟨w.heap.size, 0, none⟩) (w.alloc (.cells #[.int .u8 201, .int .u8 202, .int .u8 203, .int .u8 204] 5)).drew ((sl_new w 5 1 #[.int .u8 201, .int .u8 202, .int .u8 203, .int .u8 204] 4 rfl (by decide)).ext ((Ext.refl _).drew))
  rw [← hs1] at cv1 cv2
  rw [← hs4] at cv3 cv4
  have t1 : Sl w 1 (some ⟨g, 0, none⟩) L.length cap (by_ L) := by
    have := hs0.take (m := L.length) (by omega)
    rw [Nat.mul_one] at this
    rwa [show (by_ (L ++ lentT)).take L.length = by_ L from by rw [← by_append, List.take_left' (by_len L)]] at this
  have t3 : Sl w 1 (some ⟨g, L.length, none⟩) 4 (cap - L.length) (by_ lentT) := by
    have := hs0.drop (k := L.length) (by omega)
    rw [if_neg (by omega), Nat.mul_one, show (by_ (L ++ lentT)).drop L.length = by_ lentT from by rw [← by_append, List.drop_left' (by_len L)], show L.length + 4 - L.length = 4 from by omega] at this
    simpa [addr_add] using this
  have t2 := hb
  clear h hb hs0 hs1 hs4
  generalize L.length = n at *
  have e1 : IntKind.i64.wrap ((n : Int) + 4) = (n : Int) + 4 := IntWalk.i64_in _ (by omega)
  have e2 : decide ((n : Int) + 4 ≤ (cap : Int)) = true := decide_eq_true (by omega)
  have e3 : (0 : Int) ≤ (n : Int) + 4 := by omega
  have e4 : ((n : Int) + 4).toNat = n + 4 := by omega
  have e5 : (n : Int) + 4 ≤ (cap : Int) := by omega
  have e6 : (n : Int) ≤ (n : Int) + 4 := by omega
  have e7 : ¬ cap = n := by omega
  go_enter Try.func31, Try.ntmps31
  go_wp2_with fail
  refine wp_region_held_drew (S := fun w' => Sl w' 1 (some ⟨g, 0, none⟩) n cap (by_ L) ∧ Sl w' 1 A n c (by_ L) ∧ Sl w' 1 (some ⟨g, n, none⟩) 4 (cap - n) (by_ lentT)) (by kernel_rfl) (by first | exact ⟨t1, t2, t3⟩ | exact ⟨t1.ext ((Ext.refl _).drew), t2.ext ((Ext.refl _).drew), t3.ext ((Ext.refl _).drew)⟩ | exact ⟨t1.ext (((Ext.refl _).drew).alloc _), t2.ext (((Ext.refl _).drew).alloc _), t3.ext (((Ext.refl _).drew).alloc _)⟩ | exact ⟨t1.ext (((Ext.refl _).alloc _).drew), t2.ext (((Ext.refl _).alloc _).drew), t3.ext (((Ext.refl _).alloc _).drew)⟩) (fun hHeld => ?_)
  (refine' take_in 0 rfl (by kernel_rfl) (by kernel_rfl) (by kernel_rfl) (fun _ _ _ h => h) (by rfl) (by assumption) ?_ ?_; rotate_left; focus (intro w hSw; (try dsimp only at hSw); go_simp; try with_reducible rfl)); try simp only [Act.put, List.setIfInBounds_toArray, List.set_cons_zero, List.set_cons_succ]
  (refine' take_in 1 rfl (by kernel_rfl) (by kernel_rfl) (by kernel_rfl) (fun _ _ _ h => h) (by rfl) (by assumption) ?_ ?_; rotate_left; focus (intro w hSw; (try dsimp only at hSw); go_simp; try with_reducible rfl)); try simp only [Act.put, List.setIfInBounds_toArray, List.set_cons_zero, List.set_cons_succ]
  (refine' take_in 2 rfl (by kernel_rfl) (by kernel_rfl) (by kernel_rfl) (fun _ _ _ h => h) (by rfl) (by assumption) ?_ ?_; rotate_left; focus (intro w hSw; (try dsimp only at hSw); go_simp; try with_reducible rfl)); try simp only [Act.put, List.setIfInBounds_toArray, List.set_cons_zero, List.set_cons_succ]
  (refine' take_in 3 rfl (by kernel_rfl) (by kernel_rfl) (by kernel_rfl) (fun _ _ _ h => h) (by rfl) (by assumption) ?_ ?_; rotate_left; focus (intro w hSw; (try dsimp only at hSw); go_simp; try with_reducible rfl)); try simp only [Act.put, List.setIfInBounds_toArray, List.set_cons_zero, List.set_cons_succ]
  (refine' take_in 4 rfl (by kernel_rfl) (by kernel_rfl) (by kernel_rfl) (fun _ _ _ h => h) (by rfl) (by assumption) ?_ ?_; rotate_left; focus (intro w hSw; (try dsimp only at hSw); go_simp; try with_reducible rfl)); try simp only [Act.put, List.setIfInBounds_toArray, List.set_cons_zero, List.set_cons_succ]
  (refine' take_in 5 rfl (by kernel_rfl) (by kernel_rfl) (by kernel_rfl) (fun _ _ _ h => h) (by rfl) (by assumption) ?_ ?_; rotate_left; focus (intro w hSw; (try dsimp only at hSw); go_simp; try with_reducible rfl)); try simp only [Act.put, List.setIfInBounds_toArray, List.set_cons_zero, List.set_cons_succ]
  (refine' take_in 6 rfl (by kernel_rfl) (by kernel_rfl) (by kernel_rfl) (fun _ _ _ h => h) (by rfl) (by assumption) ?_ ?_; rotate_left; focus (intro w hSw; (try dsimp only at hSw); go_simp; try with_reducible rfl)); try simp only [Act.put, List.setIfInBounds_toArray, List.set_cons_zero, List.set_cons_succ]
  (refine' take_in 7 rfl (by kernel_rfl) (by kernel_rfl) (by kernel_rfl) (fun _ _ _ h => h) (by rfl) (by assumption) ?_ ?_; rotate_left; focus (intro w hSw; (try dsimp only at hSw); go_simp; try with_reducible rfl)); try simp only [Act.put, List.setIfInBounds_toArray, List.set_cons_zero, List.set_cons_succ]
  (refine' take_in 8 rfl (by kernel_rfl) (by kernel_rfl) (by kernel_rfl) (fun _ _ _ h => h) (by rfl) (by assumption) ?_ ?_; rotate_left; focus (intro w hSw; (try dsimp only at hSw); go_simp; try with_reducible rfl)); try simp only [Act.put, List.setIfInBounds_toArray, List.set_cons_zero, List.set_cons_succ]
  (refine' take_in 9 rfl (by kernel_rfl) (by kernel_rfl) (by kernel_rfl) (fun _ _ _ h => h) (by rfl) (by assumption) ?_ ?_; rotate_left; focus (intro w hSw; (try dsimp only at hSw); go_simp; try with_reducible rfl)); try simp only [Act.put, List.setIfInBounds_toArray, List.set_cons_zero, List.set_cons_succ]
  (refine' take_in 10 rfl (by kernel_rfl) (by kernel_rfl) (by kernel_rfl) (fun _ _ _ h => h) (by rfl) (by assumption) ?_ ?_; rotate_left; focus (intro w hSw; (try dsimp only at hSw); go_simp; try with_reducible rfl)); try simp only [Act.put, List.setIfInBounds_toArray, List.set_cons_zero, List.set_cons_succ]
  (refine' take_in 11 rfl (by kernel_rfl) (by kernel_rfl) (by kernel_rfl) (fun _ _ _ h => h) (by rfl) (by assumption) ?_ ?_; rotate_left; focus (intro w hSw; (try dsimp only at hSw); go_simp; try with_reducible rfl)); try simp only [Act.put, List.setIfInBounds_toArray, List.set_cons_zero, List.set_cons_succ]
  (refine' take_in 12 rfl (by kernel_rfl) (by kernel_rfl) (by kernel_rfl) (fun _ _ _ h => h) (by rfl) (by assumption) ?_ ?_; rotate_left; focus (intro w hSw; (try dsimp only at hSw); go_simp; try with_reducible rfl)); try simp only [Act.put, List.setIfInBounds_toArray, List.set_cons_zero, List.set_cons_succ]
  (refine' take_in 13 rfl (by kernel_rfl) (by kernel_rfl) (by kernel_rfl) (fun _ _ _ h => h) (by rfl) (by assumption) ?_ ?_; rotate_left; focus (intro w hSw; (try dsimp only at hSw); go_simp; try with_reducible rfl)); try simp only [Act.put, List.setIfInBounds_toArray, List.set_cons_zero, List.set_cons_succ]
  (refine' take_in 14 rfl (by kernel_rfl) (by kernel_rfl) (by kernel_rfl) (fun _ _ _ h => h) (by rfl) (by assumption) ?_ ?_; rotate_left; focus (intro w hSw; (try dsimp only at hSw); go_simp; try with_reducible rfl)); try simp only [Act.put, List.setIfInBounds_toArray, List.set_cons_zero, List.set_cons_succ]
  (refine' take_in 15 rfl (by kernel_rfl) (by kernel_rfl) (by kernel_rfl) (fun _ _ _ h => h) (by rfl) (by assumption) ?_ ?_; rotate_left; focus (intro w hSw; (try dsimp only at hSw); go_simp; try with_reducible rfl)); try simp only [Act.put, List.setIfInBounds_toArray, List.set_cons_zero, List.set_cons_succ]
  (refine' take_in 16 rfl (by kernel_rfl) (by kernel_rfl) (by kernel_rfl) (fun _ _ _ h => h) (by rfl) (by assumption) ?_ ?_; rotate_left; focus (intro w hSw; (try dsimp only at hSw); go_simp; try with_reducible rfl)); try simp only [Act.put, List.setIfInBounds_toArray, List.set_cons_zero, List.set_cons_succ]
  (refine' take_in 17 rfl (by kernel_rfl) (by kernel_rfl) (by kernel_rfl) (fun _ _ _ h => h) (by rfl) (by assumption) ?_ ?_; rotate_left; focus (intro w hSw; (try dsimp only at hSw); go_simp; try with_reducible rfl)); try simp only [Act.put, List.setIfInBounds_toArray, List.set_cons_zero, List.set_cons_succ]
  (refine' take_in 18 rfl (by kernel_rfl) (by kernel_rfl) (by kernel_rfl) (fun _ _ _ h => h) (by rfl) (by assumption) ?_ ?_; rotate_left; focus (intro w hSw; (try dsimp only at hSw); go_simp; try with_reducible rfl)); try simp only [Act.put, List.setIfInBounds_toArray, List.set_cons_zero, List.set_cons_succ]
  (refine' take_in 19 rfl (by kernel_rfl) (by kernel_rfl) (by kernel_rfl) (fun _ _ _ h => h) (by rfl) (by assumption) ?_ ?_; rotate_left; focus (intro w hSw; (try dsimp only at hSw); go_simp; try with_reducible rfl)); try simp only [Act.put, List.setIfInBounds_toArray, List.set_cons_zero, List.set_cons_succ]
  (refine' take_in 20 rfl (by kernel_rfl) (by kernel_rfl) (by kernel_rfl) (fun _ _ _ h => h) (by rfl) (by assumption) ?_ ?_; rotate_left; focus (intro w hSw; (try dsimp only at hSw); go_simp; try with_reducible rfl)); try simp only [Act.put, List.setIfInBounds_toArray, List.set_cons_zero, List.set_cons_succ]
  (refine' take_in 21 rfl (by kernel_rfl) (by kernel_rfl) (by kernel_rfl) (fun _ _ _ h => h) (by rfl) (by assumption) ?_ ?_; rotate_left; focus (intro w hSw; (try dsimp only at hSw); go_simp; try with_reducible rfl)); try simp only [Act.put, List.setIfInBounds_toArray, List.set_cons_zero, List.set_cons_succ]
  (refine' take_in 22 rfl (by kernel_rfl) (by kernel_rfl) (by kernel_rfl) (fun _ _ _ h => h) (by rfl) (by assumption) ?_ ?_; rotate_left; focus (intro w hSw; (try dsimp only at hSw); go_simp; try with_reducible rfl)); try simp only [Act.put, List.setIfInBounds_toArray, List.set_cons_zero, List.set_cons_succ]
  (refine' take_in 23 rfl (by kernel_rfl) (by kernel_rfl) (by kernel_rfl) (fun _ _ _ h => h) (by rfl) (by assumption) ?_ ?_; rotate_left; focus (intro w hSw; (try dsimp only at hSw); go_simp; try with_reducible rfl)); try simp only [Act.put, List.setIfInBounds_toArray, List.set_cons_zero, List.set_cons_succ]
  (refine' take_in 24 rfl (by kernel_rfl) (by kernel_rfl) (by kernel_rfl) (fun _ _ _ h => h) (by rfl) (by assumption) ?_ ?_; rotate_left; focus (intro w hSw; (try dsimp only at hSw); go_simp; try with_reducible rfl)); try simp only [Act.put, List.setIfInBounds_toArray, List.set_cons_zero, List.set_cons_succ]
  (refine' take_in 25 rfl (by kernel_rfl) (by kernel_rfl) (by kernel_rfl) (fun _ _ _ h => h) (by rfl) (by assumption) ?_ ?_; rotate_left; focus (intro w hSw; (try dsimp only at hSw); go_simp; try with_reducible rfl)); try simp only [Act.put, List.setIfInBounds_toArray, List.set_cons_zero, List.set_cons_succ]
  (refine' take_in 26 rfl (by kernel_rfl) (by kernel_rfl) (by kernel_rfl) (fun _ _ _ h => h) (by rfl) (by assumption) ?_ ?_; rotate_left; focus (intro w hSw; (try dsimp only at hSw); go_simp; try with_reducible rfl)); try simp only [Act.put, List.setIfInBounds_toArray, List.set_cons_zero, List.set_cons_succ]
  (refine' take_in 27 rfl (by kernel_rfl) (by kernel_rfl) (by kernel_rfl) (fun _ _ _ h => h) (by rfl) (by assumption) ?_ ?_; rotate_left; focus (intro w hSw; (try dsimp only at hSw); go_simp; try with_reducible rfl)); try simp only [Act.put, List.setIfInBounds_toArray, List.set_cons_zero, List.set_cons_succ]
  (refine' take_in 28 rfl (by kernel_rfl) (by kernel_rfl) (by kernel_rfl) (fun _ _ _ h => h) (by rfl) (by assumption) ?_ ?_; rotate_left; focus (intro w hSw; (try dsimp only at hSw); go_simp; try with_reducible rfl)); try simp only [Act.put, List.setIfInBounds_toArray, List.set_cons_zero, List.set_cons_succ]
  refine' next_in 29 rfl (by kernel_rfl) (by rfl) (fun K hK => ?_)
  go_simp
  refine hK.out _ _ (by (first | exact ⟨t1, t2, t3⟩ | exact ⟨t1.ext ((Ext.refl _).drew), t2.ext ((Ext.refl _).drew), t3.ext ((Ext.refl _).drew)⟩ | exact ⟨t1.ext (((Ext.refl _).drew).alloc _), t2.ext (((Ext.refl _).drew).alloc _), t3.ext (((Ext.refl _).drew).alloc _)⟩ | exact ⟨t1.ext (((Ext.refl _).alloc _).drew), t2.ext (((Ext.refl _).alloc _).drew), t3.ext (((Ext.refl _).alloc _).drew)⟩)) (fun hHeld => ?_); clear hK K; try simp only [Act.put, List.setIfInBounds_toArray, List.set_cons_zero, List.set_cons_succ]
  refine' next_in 30 rfl (by kernel_rfl) (by rfl) (fun K hK => ?_)
  go_simp
  refine hK.out _ _ (by (first | exact ⟨t1, t2, t3⟩ | exact ⟨t1.ext ((Ext.refl _).drew), t2.ext ((Ext.refl _).drew), t3.ext ((Ext.refl _).drew)⟩ | exact ⟨t1.ext (((Ext.refl _).drew).alloc _), t2.ext (((Ext.refl _).drew).alloc _), t3.ext (((Ext.refl _).drew).alloc _)⟩ | exact ⟨t1.ext (((Ext.refl _).alloc _).drew), t2.ext (((Ext.refl _).alloc _).drew), t3.ext (((Ext.refl _).alloc _).drew)⟩)) (fun hHeld => ?_); clear hK K; try simp only [Act.put, List.setIfInBounds_toArray, List.set_cons_zero, List.set_cons_succ]
  (refine' take_in 31 rfl (by kernel_rfl) (by kernel_rfl) (by kernel_rfl) (fun _ _ _ h => h) (by rfl) (by assumption) ?_ ?_; rotate_left; focus (intro w hSw; (try dsimp only at hSw); go_simp; try with_reducible rfl)); try simp only [Act.put, List.setIfInBounds_toArray, List.set_cons_zero, List.set_cons_succ]
  (refine' take_in 32 rfl (by kernel_rfl) (by kernel_rfl) (by kernel_rfl) (fun _ _ _ h => h) (by rfl) (by assumption) ?_ ?_; rotate_left; focus (intro w hSw; (try dsimp only at hSw); go_simp; try with_reducible rfl)); try simp only [Act.put, List.setIfInBounds_toArray, List.set_cons_zero, List.set_cons_succ]
  (refine' take_in 33 rfl (by kernel_rfl) (by kernel_rfl) (by kernel_rfl) (fun _ _ _ h => h) (by rfl) (by assumption) ?_ ?_; rotate_left; focus (intro w hSw; (try dsimp only at hSw); go_simp; try with_reducible rfl)); try simp only [Act.put, List.setIfInBounds_toArray, List.set_cons_zero, List.set_cons_succ]
  refine wpAnyH_done (by kernel_rfl) ?_ _
  go_wp2_with fail
  go_ret
  exact ⟨rfl, (by repeat (first | with_reducible exact Ext.refl w | with_reducible refine Ext.drew ?_ | with_reducible refine Ext.drewN ?_ _ | with_reducible refine Ext.alloc ?_ _ | with_reducible refine Ext.setCell ?_ (by first | omega | (simp; done) | (simp; omega)) _))⟩
end Go.Proofs.Ytlgjdeggbcgbnaa
