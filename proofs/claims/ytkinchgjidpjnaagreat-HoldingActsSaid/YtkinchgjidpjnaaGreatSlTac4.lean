/- Tac, part 4. Conditions stand in each lemma. -/
import Derived.Test.YtkinchgjidpjnaaGreatSlTac3
set_option linter.unusedVariables false
set_option linter.unusedSimpArgs false
set_option maxRecDepth 100000
set_option maxHeartbeats 64000000
namespace Go.Proofs.YtkinchgjidpjnaaGreat
section
open Go.RowKit Go.ChangeShapes Go.WideShapes Go.Deep Go.Joins
theorem zSlTac4_0 {P : Prop} (h : P := by intro hh; have hh2 := own_rng HO.out _ hh; have hh3 := hap0 _ hh; omega) : P := h
theorem zSlTac4_1 {P : Prop} (h : P := by intro hh; have hh2 := own_rng HP.out _ hh; omega) : P := h
theorem zSlTac4_2 {P : Prop} (h : P := by repeat (first | exact HT.out | with_reducible refine SlB.ext ?_ (Ext.drew (Ext.refl _)) | with_reducible refine SlB.ext ?_ (Ext.drewN (Ext.refl _) _) | with_reducible refine SlB.ext ?_ (Ext.alloc (Ext.refl _) _) | refine SlB.set ?_ (by omega))) : P := h
theorem zSlTac4_3 {P : Prop} (h : P := by repeat (first | exact HS.out | with_reducible refine SlB.ext ?_ (Ext.drew (Ext.refl _)) | with_reducible refine SlB.ext ?_ (Ext.drewN (Ext.refl _) _) | with_reducible refine SlB.ext ?_ (Ext.alloc (Ext.refl _) _) | refine SlB.set ?_ (by omega))) : P := h
theorem zSlTac4_4 {P : Prop} (h : P := by intro hh; have hh2 := own_rng HL.out _ hh; have hh3 := hap0 _ hh; omega) : P := h
theorem zSlTac4_5 {P : Prop} (h : P := by (first | exact ⟨h_1, x_0, x_1, x_2, x_3, x_4, x_5⟩ | (simp [go_sem, World.cell?_alloc_past, *]; done))) : P := h
theorem zSlTac4_6 {P : Prop} (h : P := by repeat (first | with_reducible exact XU.out | with_reducible refine Ext.drew ?_ | with_reducible refine Ext.setCell ?_ (by first | omega | (simp; done) | (simp; omega)) _)) : P := h
theorem zSlTac4_7 {P : Prop} (h : P := by simp [results, Tryz.results70, go_sem, World.cell?_alloc_past, *]; try rfl) : P := h
theorem kCopyHolding_any (c c2 : Nat) (A A2 : Option Addr) (cl ps : List I6) (w : World) (h : Sl w 6 A cl.length c (cl.flatMap clsC)) (h2 : Sl w 6 A2 ps.length c2 (ps.flatMap posC)) (hn : cl.length < 1099511627776) (hn2 : ps.length < 1099511627776) :
  Calls Tryz.prog 13 #[.agg #[.slice A cl.length c, .slice A2 ps.length c2]] w fun r w' => ∃ v, r = .returned v ∧ HoldR cl ps w v w' := by
 obtain ⟨iCls, iCls_0, iCls_1, iCls_2, iCls_3⟩ := info_parts cls_info
 obtain ⟨iPos, iPos_0, iPos_1, iPos_2, iPos_3⟩ := info_parts pos_info
 have HS := Lib.hid h
 have HT := Lib.hid h2
 clear h h2
 go_enter Tryz.func13, Tryz.ntmps13
 go_wp2_with fail
 refine wp_region_held_drew (S := fun w' => w'.cell? ⟨w.heap.size, 0, none⟩ = some (.slice A cl.length c) ∧ w'.cell? ⟨w.heap.size, 1, none⟩ = some (.slice A2 ps.length c2)) (by kernel_rfl) (by (simp [go_sem, World.cell?_alloc_past]; done)) (fun hHeld => ?_)
 refine' zt 1 ?_
 refine' zt 2 ?_
 refine' zt 5 ?_
 refine' zt 6 ?_
 obtain ⟨u0, hu⟩ : ∃ u, u = World.drew ((w.alloc (.cells #[.slice A cl.length c, .slice A2 ps.length c2] 25)).alloc (.cells #[.slice none 0 0, .slice none 0 0] 25)) := ⟨_, rfl⟩
 rw [← hu]
 have XU : Hid (Ext w u0) := Lib.hid (by rw [hu]; repeat (first | with_reducible exact Ext.refl _ | with_reducible refine Ext.drew ?_ | with_reducible refine Ext.drewN ?_ _ | with_reducible refine Ext.alloc ?_ _ | with_reducible refine Ext.setCell ?_ (by first | omega | (simp; done) | (simp; omega)) _))
 have hz0 : w.heap.size + 2 ≤ u0.heap.size := by rw [hu]; simp
 have c0_0 : u0.cell? ⟨w.heap.size, 0, none⟩ = some (.slice A cl.length c) := by rw [hu]; simp [go_sem, World.cell?_alloc_past]
 have c0_1 : u0.cell? ⟨w.heap.size, 1, none⟩ = some (.slice A2 ps.length c2) := by rw [hu]; simp [go_sem, World.cell?_alloc_past]
 have r_0 : u0.cell? ⟨w.heap.size + 1, 0, none⟩ = some (.slice none 0 0) := by rw [hu]; simp [go_sem, World.cell?_alloc_past]
 have r_1 : u0.cell? ⟨w.heap.size + 1, 1, none⟩ = some (.slice none 0 0) := by rw [hu]; simp [go_sem, World.cell?_alloc_past]
 have r_0f : u0.frozen? ⟨w.heap.size + 1, 0, none⟩ = false := by rw [hu]; simp [go_sem, World.cell?_alloc_past]
 have r_1f : u0.frozen? ⟨w.heap.size + 1, 1, none⟩ = false := by rw [hu]; simp [go_sem, World.cell?_alloc_past]
 clear hu
 refine' next2_in 0 4 rfl rfl (by kernel_rfl) (by rfl) (by rfl) (fun K hK => ?_) (fun K hK => ?_)
 ·go_simp
  generalize hu : u0.alloc (.cells #[] 79) = u0a
  have hx : Ext u0 u0a := by rw [← hu]; exact (Ext.refl _).alloc _
  have E1 : Hid (World.ownsRow u0a (w.heap.size + 2) 79 6 (.slice (some ⟨u0.heap.size, 0, none⟩) 0 0) 0 []) := Lib.hid (by rw [← hu]; exact own_lower (own_empty _ _ _) (by omega))
  clear hu
  replace r_0f := hx.froz r_0 r_0f
  replace r_1f := hx.froz r_1 r_1f
  replace c0_0 := hx.has c0_0
  replace c0_1 := hx.has c0_1
  replace r_0 := hx.has r_0
  replace r_1 := hx.has r_1
  have hz := Ext.size hx
  replace XU : Hid (Ext w u0a) := Lib.hid (Ext.trans XU.out hx)
  clear hx
  have hq1 : w.heap.size + 2 ≤ u0.heap.size := by omega
  refine' zk hK (by exact ⟨c0_0, c0_1⟩) (fun hHeld => ?_); clear hK K
  refine' next2_in 3 4 rfl rfl (by kernel_rfl) (by rfl) (by rfl) (fun K hK => ?_) (fun K hK => ?_)
  ·refine oper_app _ (.tmp 3) (.tmp 5) 22 rfl (w.heap.size + 2) 79 iCls (.agg #[.int .i64 0, .int .i64 0, .int .i64 0, .int .i64 0, .int .u64 0, .int .u64 0]) 6 48 Tryz.underlying22 iCls_0 iCls_1 iCls_2 iCls_3 rfl (by decide) _ 0 [] (by rfl) E1.out A cl.length c (cl.flatMap clsC) (by rfl) (HS.out.ext XU.out) clsC_one (by omega) (by decide) (by omega) ?_
   intro v u0aa hown hx hn
   simp only [Nat.zero_add, List.nil_append] at hown
   obtain ⟨B, d, rfl, _, _⟩ := own_parts2 hown
   have hqq := own_rng E1.out
   replace r_0f := hx.froz (by intro hh; have := hqq _ hh; omega) r_0 r_0f
   replace r_1f := hx.froz (by intro hh; have := hqq _ hh; omega) r_1 r_1f
   replace c0_0 := hx.has (by intro hh; have := hqq _ hh; omega) c0_0
   replace c0_1 := hx.has (by intro hh; have := hqq _ hh; omega) c0_1
   replace r_0 := hx.has (by intro hh; have := hqq _ hh; omega) r_0
   replace r_1 := hx.has (by intro hh; have := hqq _ hh; omega) r_1
   have hz := hx.size
   replace XU : Hid (Ext w u0aa) := Lib.hid (Below.trans XU.out (hx.below (Ext.size XU.out) (fun k hk hh => by have := hqq _ hh; omega)))
   have O1 := Lib.hid hown
   clear hx hown hn hqq E1
   refine' zk hK (by exact ⟨c0_0, c0_1⟩) (fun hHeld => ?_); clear hK K
   refine' zn 4 (fun K hK => ?_)
   go_simp
   generalize hu : u0aa.alloc (.cells #[] 82) = u0aaa
   have hx : Ext u0aa u0aaa := by rw [← hu]; exact (Ext.refl _).alloc _
   have E2 : Hid (World.ownsRow u0aaa (w.heap.size + 2) 82 6 (.slice (some ⟨u0aa.heap.size, 0, none⟩) 0 0) 0 []) := Lib.hid (by rw [← hu]; exact own_lower (own_empty _ _ _) (by omega))
   clear hu
   replace r_0f := hx.froz r_0 r_0f
   replace r_1f := hx.froz r_1 r_1f
   replace c0_0 := hx.has c0_0
   replace c0_1 := hx.has c0_1
   replace r_0 := hx.has r_0
   replace r_1 := hx.has r_1
   have hz := Ext.size hx
   replace O1 := Lib.hid (own_keep O1.out hx)
   replace XU : Hid (Ext w u0aaa) := Lib.hid (Ext.trans XU.out hx)
   clear hx
   refine' zk hK (by exact ⟨c0_0, c0_1⟩) (fun hHeld => ?_); clear hK K
   refine' zn 7 (fun K hK => ?_)
   refine oper_app _ (.tmp 7) (.tmp 9) 23 rfl (w.heap.size + 2) 82 iPos (.agg #[.int .i64 0, .int .i64 0, .int .i64 0, .int .i64 0, .int .i64 0, .int .u64 0]) 6 48 Tryz.underlying23 iPos_0 iPos_1 iPos_2 iPos_3 rfl (by decide) _ 0 [] (by rfl) E2.out A2 ps.length c2 (ps.flatMap posC) (by rfl) (HT.out.ext XU.out) posC_one (by omega) (by decide) (by omega) ?_
   intro v u0aaaa hown hx hn
   simp only [Nat.zero_add, List.nil_append] at hown
   obtain ⟨B2, d2, rfl, _, _⟩ := own_parts2 hown
   have hqq := own_rng E2.out
   replace r_0f := hx.froz (by intro hh; have := hqq _ hh; omega) r_0 r_0f
   replace r_1f := hx.froz (by intro hh; have := hqq _ hh; omega) r_1 r_1f
   replace c0_0 := hx.has (by intro hh; have := hqq _ hh; omega) c0_0
   replace c0_1 := hx.has (by intro hh; have := hqq _ hh; omega) c0_1
   replace r_0 := hx.has (by intro hh; have := hqq _ hh; omega) r_0
   replace r_1 := hx.has (by intro hh; have := hqq _ hh; omega) r_1
   have hz := hx.size
   replace O1 := Lib.hid (own_but1Word O1.out hx (own_apart O1.out E2.out cls_pos))
   replace XU : Hid (Ext w u0aaaa) := Lib.hid (Below.trans XU.out (hx.below (Ext.size XU.out) (fun k hk hh => by have := hqq _ hh; omega)))
   have O2 := Lib.hid hown
   clear hx hown hn hqq E2
   refine' zk hK (by exact ⟨c0_0, c0_1⟩) (fun hHeld => ?_); clear hK K
   refine' zt 8 ?_
   refine' zn 9 (fun K hK => ?_)
   go_simp
   refine' zk hK (by (simp [go_sem, World.cell?_alloc_past, c0_0, c0_1]; done)) (fun hHeld => ?_); clear hK K
   refine wpAnyH_done (by kernel_rfl) ?_ _
   go_wp2_with fail
   refine bodyPost_ret (v := .agg #[.slice B cl.length d, .slice B2 ps.length d2]) (by simp [results, Tryz.results13, go_sem, World.cell?_alloc_past, r_0, r_1, r_0f, r_1f]; try rfl) rfl ⟨_, rfl, holdS_of (b := w.heap.size + 2) (by omega) (show World.ownsRow _ (w.heap.size + 2) _ _ _ _ _ from by repeat (first | with_reducible refine own_box ?_ (by omega) | with_reducible refine World.ownsRow.drew ?_ | exact O1.out)) (show World.ownsRow _ (w.heap.size + 2) _ _ _ _ _ from by repeat (first | with_reducible refine own_box ?_ (by omega) | with_reducible refine World.ownsRow.drew ?_ | exact O2.out)) zSlTac4_6⟩
  go_simp
  generalize hu : u0a.alloc (.cells #[] 82) = u0aa
  have hx : Ext u0a u0aa := by rw [← hu]; exact (Ext.refl _).alloc _
  have E2 : Hid (World.ownsRow u0aa (w.heap.size + 2) 82 6 (.slice (some ⟨u0a.heap.size, 0, none⟩) 0 0) 0 []) := Lib.hid (by rw [← hu]; exact own_lower (own_empty _ _ _) (by omega))
  clear hu
  replace r_0f := hx.froz r_0 r_0f
  replace r_1f := hx.froz r_1 r_1f
  replace c0_0 := hx.has c0_0
  replace c0_1 := hx.has c0_1
  replace r_0 := hx.has r_0
  replace r_1 := hx.has r_1
  have hz := Ext.size hx
  replace E1 := Lib.hid (own_keep E1.out hx)
  replace XU : Hid (Ext w u0aa) := Lib.hid (Ext.trans XU.out hx)
  clear hx
  refine' zk hK (by exact ⟨c0_0, c0_1⟩) (fun hHeld => ?_); clear hK K
  refine' zn 3 (fun K hK => ?_)
  refine oper_app _ (.tmp 3) (.tmp 5) 22 rfl (w.heap.size + 2) 79 iCls (.agg #[.int .i64 0, .int .i64 0, .int .i64 0, .int .i64 0, .int .u64 0, .int .u64 0]) 6 48 Tryz.underlying22 iCls_0 iCls_1 iCls_2 iCls_3 rfl (by decide) _ 0 [] (by rfl) E1.out A cl.length c (cl.flatMap clsC) (by rfl) (HS.out.ext XU.out) clsC_one (by omega) (by decide) (by omega) ?_
  intro v u0aaa hown hx hn
  simp only [Nat.zero_add, List.nil_append] at hown
  obtain ⟨B, d, rfl, _, _⟩ := own_parts2 hown
  have hqq := own_rng E1.out
  replace r_0f := hx.froz (by intro hh; have := hqq _ hh; omega) r_0 r_0f
  replace r_1f := hx.froz (by intro hh; have := hqq _ hh; omega) r_1 r_1f
  replace c0_0 := hx.has (by intro hh; have := hqq _ hh; omega) c0_0
  replace c0_1 := hx.has (by intro hh; have := hqq _ hh; omega) c0_1
  replace r_0 := hx.has (by intro hh; have := hqq _ hh; omega) r_0
  replace r_1 := hx.has (by intro hh; have := hqq _ hh; omega) r_1
  have hz := hx.size
  replace E2 := Lib.hid (own_but1Word E2.out hx (own_apart E2.out E1.out (fun e => cls_pos e.symm)))
  replace XU : Hid (Ext w u0aaa) := Lib.hid (Below.trans XU.out (hx.below (Ext.size XU.out) (fun k hk hh => by have := hqq _ hh; omega)))
  have O1 := Lib.hid hown
  clear hx hown hn hqq E1
  refine' zk hK (by exact ⟨c0_0, c0_1⟩) (fun hHeld => ?_); clear hK K
  refine' zn 7 (fun K hK => ?_)
  refine oper_app _ (.tmp 7) (.tmp 9) 23 rfl (w.heap.size + 2) 82 iPos (.agg #[.int .i64 0, .int .i64 0, .int .i64 0, .int .i64 0, .int .i64 0, .int .u64 0]) 6 48 Tryz.underlying23 iPos_0 iPos_1 iPos_2 iPos_3 rfl (by decide) _ 0 [] (by rfl) E2.out A2 ps.length c2 (ps.flatMap posC) (by rfl) (HT.out.ext XU.out) posC_one (by omega) (by decide) (by omega) ?_
  intro v u0aaaa hown hx hn
  simp only [Nat.zero_add, List.nil_append] at hown
  obtain ⟨B2, d2, rfl, _, _⟩ := own_parts2 hown
  have hqq := own_rng E2.out
  replace r_0f := hx.froz (by intro hh; have := hqq _ hh; omega) r_0 r_0f
  replace r_1f := hx.froz (by intro hh; have := hqq _ hh; omega) r_1 r_1f
  replace c0_0 := hx.has (by intro hh; have := hqq _ hh; omega) c0_0
  replace c0_1 := hx.has (by intro hh; have := hqq _ hh; omega) c0_1
  replace r_0 := hx.has (by intro hh; have := hqq _ hh; omega) r_0
  replace r_1 := hx.has (by intro hh; have := hqq _ hh; omega) r_1
  have hz := hx.size
  replace O1 := Lib.hid (own_but1Word O1.out hx (own_apart O1.out E2.out cls_pos))
  replace XU : Hid (Ext w u0aaaa) := Lib.hid (Below.trans XU.out (hx.below (Ext.size XU.out) (fun k hk hh => by have := hqq _ hh; omega)))
  have O2 := Lib.hid hown
  clear hx hown hn hqq E2
  refine' zk hK (by exact ⟨c0_0, c0_1⟩) (fun hHeld => ?_); clear hK K
  refine' zt 8 ?_
  refine' zn 9 (fun K hK => ?_)
  go_simp
  refine' zk hK (by (simp [go_sem, World.cell?_alloc_past, c0_0, c0_1]; done)) (fun hHeld => ?_); clear hK K
  refine wpAnyH_done (by kernel_rfl) ?_ _
  go_wp2_with fail
  refine bodyPost_ret (v := .agg #[.slice B cl.length d, .slice B2 ps.length d2]) (by simp [results, Tryz.results13, go_sem, World.cell?_alloc_past, r_0, r_1, r_0f, r_1f]; try rfl) rfl ⟨_, rfl, holdS_of (b := w.heap.size + 2) (by omega) (show World.ownsRow _ (w.heap.size + 2) _ _ _ _ _ from by repeat (first | with_reducible refine own_box ?_ (by omega) | with_reducible refine World.ownsRow.drew ?_ | exact O1.out)) (show World.ownsRow _ (w.heap.size + 2) _ _ _ _ _ from by repeat (first | with_reducible refine own_box ?_ (by omega) | with_reducible refine World.ownsRow.drew ?_ | exact O2.out)) zSlTac4_6⟩
 go_simp
 generalize hu : u0.alloc (.cells #[] 82) = u0a
 have hx : Ext u0 u0a := by rw [← hu]; exact (Ext.refl _).alloc _
 have E2 : Hid (World.ownsRow u0a (w.heap.size + 2) 82 6 (.slice (some ⟨u0.heap.size, 0, none⟩) 0 0) 0 []) := Lib.hid (by rw [← hu]; exact own_lower (own_empty _ _ _) (by omega))
 clear hu
 replace r_0f := hx.froz r_0 r_0f
 replace r_1f := hx.froz r_1 r_1f
 replace c0_0 := hx.has c0_0
 replace c0_1 := hx.has c0_1
 replace r_0 := hx.has r_0
 replace r_1 := hx.has r_1
 have hz := Ext.size hx
 replace XU : Hid (Ext w u0a) := Lib.hid (Ext.trans XU.out hx)
 clear hx
 refine' zk hK (by exact ⟨c0_0, c0_1⟩) (fun hHeld => ?_); clear hK K
 refine' zn 0 (fun K hK => ?_)
 go_simp
 generalize hu : u0a.alloc (.cells #[] 79) = u0aa
 have hx : Ext u0a u0aa := by rw [← hu]; exact (Ext.refl _).alloc _
 have E1 : Hid (World.ownsRow u0aa (w.heap.size + 2) 79 6 (.slice (some ⟨u0a.heap.size, 0, none⟩) 0 0) 0 []) := Lib.hid (by rw [← hu]; exact own_lower (own_empty _ _ _) (by omega))
 clear hu
 replace r_0f := hx.froz r_0 r_0f
 replace r_1f := hx.froz r_1 r_1f
 replace c0_0 := hx.has c0_0
 replace c0_1 := hx.has c0_1
 replace r_0 := hx.has r_0
 replace r_1 := hx.has r_1
 have hz := Ext.size hx
 replace E2 := Lib.hid (own_keep E2.out hx)
 replace XU : Hid (Ext w u0aa) := Lib.hid (Ext.trans XU.out hx)
 clear hx
 have hq1 : w.heap.size + 2 ≤ u0a.heap.size := by omega
 refine' zk hK (by exact ⟨c0_0, c0_1⟩) (fun hHeld => ?_); clear hK K
 refine' zn 3 (fun K hK => ?_)
 refine oper_app _ (.tmp 3) (.tmp 5) 22 rfl (w.heap.size + 2) 79 iCls (.agg #[.int .i64 0, .int .i64 0, .int .i64 0, .int .i64 0, .int .u64 0, .int .u64 0]) 6 48 Tryz.underlying22 iCls_0 iCls_1 iCls_2 iCls_3 rfl (by decide) _ 0 [] (by rfl) E1.out A cl.length c (cl.flatMap clsC) (by rfl) (HS.out.ext XU.out) clsC_one (by omega) (by decide) (by omega) ?_
 intro v u0aaa hown hx hn
 simp only [Nat.zero_add, List.nil_append] at hown
 obtain ⟨B, d, rfl, _, _⟩ := own_parts2 hown
 have hqq := own_rng E1.out
 replace r_0f := hx.froz (by intro hh; have := hqq _ hh; omega) r_0 r_0f
 replace r_1f := hx.froz (by intro hh; have := hqq _ hh; omega) r_1 r_1f
 replace c0_0 := hx.has (by intro hh; have := hqq _ hh; omega) c0_0
 replace c0_1 := hx.has (by intro hh; have := hqq _ hh; omega) c0_1
 replace r_0 := hx.has (by intro hh; have := hqq _ hh; omega) r_0
 replace r_1 := hx.has (by intro hh; have := hqq _ hh; omega) r_1
 have hz := hx.size
 replace E2 := Lib.hid (own_but1Word E2.out hx (own_apart E2.out E1.out (fun e => cls_pos e.symm)))
 replace XU : Hid (Ext w u0aaa) := Lib.hid (Below.trans XU.out (hx.below (Ext.size XU.out) (fun k hk hh => by have := hqq _ hh; omega)))
 have O1 := Lib.hid hown
 clear hx hown hn hqq E1
 refine' zk hK (by exact ⟨c0_0, c0_1⟩) (fun hHeld => ?_); clear hK K
 refine' zn 7 (fun K hK => ?_)
 refine oper_app _ (.tmp 7) (.tmp 9) 23 rfl (w.heap.size + 2) 82 iPos (.agg #[.int .i64 0, .int .i64 0, .int .i64 0, .int .i64 0, .int .i64 0, .int .u64 0]) 6 48 Tryz.underlying23 iPos_0 iPos_1 iPos_2 iPos_3 rfl (by decide) _ 0 [] (by rfl) E2.out A2 ps.length c2 (ps.flatMap posC) (by rfl) (HT.out.ext XU.out) posC_one (by omega) (by decide) (by omega) ?_
 intro v u0aaaa hown hx hn
 simp only [Nat.zero_add, List.nil_append] at hown
 obtain ⟨B2, d2, rfl, _, _⟩ := own_parts2 hown
 have hqq := own_rng E2.out
 replace r_0f := hx.froz (by intro hh; have := hqq _ hh; omega) r_0 r_0f
 replace r_1f := hx.froz (by intro hh; have := hqq _ hh; omega) r_1 r_1f
 replace c0_0 := hx.has (by intro hh; have := hqq _ hh; omega) c0_0
 replace c0_1 := hx.has (by intro hh; have := hqq _ hh; omega) c0_1
 replace r_0 := hx.has (by intro hh; have := hqq _ hh; omega) r_0
 replace r_1 := hx.has (by intro hh; have := hqq _ hh; omega) r_1
 have hz := hx.size
 replace O1 := Lib.hid (own_but1Word O1.out hx (own_apart O1.out E2.out cls_pos))
 replace XU : Hid (Ext w u0aaaa) := Lib.hid (Below.trans XU.out (hx.below (Ext.size XU.out) (fun k hk hh => by have := hqq _ hh; omega)))
 have O2 := Lib.hid hown
 clear hx hown hn hqq E2
 refine' zk hK (by exact ⟨c0_0, c0_1⟩) (fun hHeld => ?_); clear hK K
 refine' zt 8 ?_
 refine' zn 9 (fun K hK => ?_)
 go_simp
 refine' zk hK (by (simp [go_sem, World.cell?_alloc_past, c0_0, c0_1]; done)) (fun hHeld => ?_); clear hK K
 refine wpAnyH_done (by kernel_rfl) ?_ _
 go_wp2_with fail
 refine bodyPost_ret (v := .agg #[.slice B cl.length d, .slice B2 ps.length d2]) (by simp [results, Tryz.results13, go_sem, World.cell?_alloc_past, r_0, r_1, r_0f, r_1f]; try rfl) rfl ⟨_, rfl, holdS_of (b := w.heap.size + 2) (by omega) (show World.ownsRow _ (w.heap.size + 2) _ _ _ _ _ from by repeat (first | with_reducible refine own_box ?_ (by omega) | with_reducible refine World.ownsRow.drew ?_ | exact O1.out)) (show World.ownsRow _ (w.heap.size + 2) _ _ _ _ _ from by repeat (first | with_reducible refine own_box ?_ (by omega) | with_reducible refine World.ownsRow.drew ?_ | exact O2.out)) zSlTac4_6⟩
theorem kOverHolding_own (n c n2 c2 : Nat) (A A2 : Option Addr) (cl ps : List I6) (base : Nat) (w : World) (h : OwnCls w base (.slice A cl.length c) cl.length cl) (h2 : OwnPos w base (.slice A2 ps.length c2) ps.length ps) :
  Calls Tryz.prog 21 #[.agg #[.slice A cl.length c, .slice A2 ps.length c2]] w fun r w' => (∃ v, r = .returned v) ∧ But (fun k => (∃ o s, A = some ⟨k, o, s⟩) ∨ (∃ o s, A2 = some ⟨k, o, s⟩)) w w' := by
 have HS := Lib.hid h
 have HT := Lib.hid h2
 have hap := own_apart h2 h (fun e => cls_pos e.symm)
 have hr1 := own_rng h
 have hr2 := own_rng h2
 have hbw : ∀ k, (∃ o s, A = some ⟨k, o, s⟩) → k < w.heap.size := fun k ⟨o, s, e⟩ => by subst e; exact (hr1 k rfl).2
 have hbw2 : ∀ k, (∃ o s, A2 = some ⟨k, o, s⟩) → k < w.heap.size := fun k ⟨o, s, e⟩ => by subst e; exact (hr2 k rfl).2
 have hap2 : ∀ j, (Value.slice A2 ps.length c2).ownBlock = some j → ¬ ∃ o s, A = some ⟨j, o, s⟩ := fun j hj ⟨o, s, e⟩ => by subst e; exact hap j hj rfl
 clear h h2 hap
 go_enter Tryz.func21, Tryz.ntmps21
 go_wp2_with fail
 (with_reducible refine (kOverClasses_own A c cl base _ (OwnCls.ext HS.out (Ext.alloc (Ext.refl _) _))).mono ?_)
 rintro e w1 ⟨⟨v1, rfl⟩, hx1⟩
 have hz1 := hx1.size
 have c0_1 : w1.cell? ⟨w.heap.size, 1, none⟩ = some (.slice A2 ps.length c2) := hx1.has (by intro hh; have := hbw _ hh; omega) (by simp [go_sem, World.cell?_alloc_past])
 have HT1 : Hid (OwnPos w1 base (.slice A2 ps.length c2) ps.length ps) := Lib.hid (own_but1Word (own_keep HT.out (Ext.alloc (Ext.refl _) _)) hx1 hap2)
 have B1 := Lib.hid ((But.ofExt (Ext.alloc (Ext.refl w) _)).trans (hx1.mono (S' := fun k => (∃ o s, A = some ⟨k, o, s⟩) ∨ (∃ o s, A2 = some ⟨k, o, s⟩)) (fun k _ h => .inl h)))
 clear hx1 HS HT
 go_wp2_with fail
 (with_reducible refine (kOverPositions_own A2 c2 ps base _ HT1.out).mono ?_)
 rintro e w2 ⟨⟨v2, rfl⟩, hx2⟩
 have B2 := Lib.hid (But.trans B1.out (hx2.mono (S' := fun k => (∃ o s, A = some ⟨k, o, s⟩) ∨ (∃ o s, A2 = some ⟨k, o, s⟩)) (fun k _ h => .inr h)))
 clear hx2 HT1 B1
 go_wp2_with fail
 go_end0
 exact ⟨⟨_, rfl⟩, B2.out⟩
theorem pol_ne (x0 x1 y0 y1 : Int) (w : World) : (binOp .neq 61 (.agg #[.int .u64 x0, .int .u64 x1]) (.agg #[.int .u64 y0, .int .u64 y1])).run Tryz.prog w = .ok (.bool (!(x0 == y0 && x1 == y1))) w := by
 have hS : Tryz.prog.underlying 61 = some (.struct (Tryz.prog.fieldsOf 61)) := by kernel_rfl
 have hp : Tryz.prog.stoodInHeld 61 = false := by kernel_rfl
 rw [run_neq_struct, show (10000 : Nat) = 9999 + 1 from rfl, run_equalIn_agg w 9999 61 _ _ hS hp]
 simp only [Program.fieldsOf, Tryz.underlying61]
 go_simp
 by_cases h0 : x0 = y0 <;> by_cases h1 : x1 = y1 <;> simp [h0, h1]
theorem two_not_true {a b a' b' : Int} (h : a = a' ∧ b = b') : (!(a == a' && b == b')) = false := by simp [h]
theorem two_not_false {a b a' b' : Int} (h : ¬ (a = a' ∧ b = b')) : (!(a == a' && b == b')) = true := by rw [two_false h]; rfl
theorem rBk (V S P F v h : Int) (hh : h ≤ 4294967296) (w : World) : Calls Tryz.prog 86 #[.agg #[.int .i64 V, .int .i64 S, .int .i64 P, .int .i64 F], .int .i64 v, .int .i64 h, .int .i64 (-1)] w fun r w' => r = .returned (.bool (bkdB V S P F v h 0)) ∧ Ext w w' := by
 have H := rBacked12_any V S P F v h (-1) (by omega) w
 rw [bkdB_neg] at H
 exact H
theorem CutJ.start (cl : List I6) (v h p : Int) : CutJ cl v h p 0 [] [] 0 := ⟨by simp [cutCs], by simp [losCs], by simp [losN, addF]⟩
theorem CutJ.skip {cl CL : List I6} {v h p N : Int} {k : Nat} {LS : List I5} {c : I6} (H : CutJ cl v h p k CL LS N) (hc : cl[k]? = some c) (hb : bkC c v h = false) : CutJ cl v h p (k + 1) (CL ++ [c]) LS N := by
 refine ⟨?_, ?_, H.en⟩
 ·rw [H.ecl, take_one hc]; unfold cutCs; rw [List.filterMap_append]; simp [cutC_skip hb]
 rw [H.els, take_one hc]; unfold losCs; rw [List.filterMap_append]; simp [losC_skip hb]
theorem CutJ.hit {cl CL : List I6} {v h p N : Int} {k : Nat} {LS : List I5} {a b d e t s : Int} (H : CutJ cl v h p k CL LS N) (hc : cl[k]? = some (a, b, d, e, t, s)) (hb : bkC (a, b, d, e, t, s) v h = true) :
  (cutT t s p = 0 ∧ cutS t s p = 0 → CutJ cl v h p (k + 1) CL (LS ++ [(a, b, d, e, cutN t s p)]) (N + cutN t s p)) ∧ (¬ (cutT t s p = 0 ∧ cutS t s p = 0) → CutJ cl v h p (k + 1) (CL ++ [(a, b, d, e, cutT t s p, cutS t s p)]) (LS ++ [(a, b, d, e, cutN t s p)]) (N + cutN t s p)) := by
 have e1 : cutC v h p (a, b, d, e, t, s) = optC a b d e (cutT t s p) (cutS t s p) := cutC_hit hb
 have e2 : losC v h p (a, b, d, e, t, s) = some (a, b, d, e, cutN t s p) := losC_hit hb
 have hls : LS ++ [(a, b, d, e, cutN t s p)] = losCs v h p (cl.take (k + 1)) := by
  rw [H.els, take_one hc]; unfold losCs; rw [List.filterMap_append]; simp [e2]
 have hn : N + cutN t s p = losN (LS ++ [(a, b, d, e, cutN t s p)]) := by
  unfold losN
  rw [addF_app, H.en]
  simp [losN, addF]
 constructor
 ·intro hz
  refine ⟨?_, hls, hn⟩
  rw [H.ecl, take_one hc]; unfold cutCs; rw [List.filterMap_append]
  simp [e1, optC, hz]
 intro hz
 refine ⟨?_, hls, hn⟩
 rw [H.ecl, take_one hc]; unfold cutCs; rw [List.filterMap_append]
 simp [e1, optC, hz]
theorem CutJ.sum {cl CL ps : List I6} {v h p N : Int} {k : Nat} {LS : List I5} {a b d e t s : Int} (H : CutJ cl v h p k CL LS N) (hk : HOk cl ps) (hw : ∀ c ∈ cl, WdC c) (p0 : 0 ≤ p) (p1 : p ≤ 1000000000) (hc : cl[k]? = some (a, b, d, e, t, s)) : 0 ≤ N ∧ N + cutN t s p < 18446744073709551616 ∧ 0 ≤ cutN t s p :=
 CutI.sum (CL := CL ++ cl.drop k) (PS := ps.filter (fun x => !goneB v h p (cl.take k) x)) ⟨by rw [H.ecl], rfl, H.els, H.en⟩ hk hw p0 p1 hc
theorem CutJ.clen {cl CL : List I6} {v h p N : Int} {k : Nat} {LS : List I5} (H : CutJ cl v h p k CL LS N) : CL.length ≤ k ∧ LS.length ≤ k := by
 have h1 : (cutCs v h p (cl.take k)).length ≤ (cl.take k).length := List.length_filterMap_le ..
 have h2 : (losCs v h p (cl.take k)).length ≤ (cl.take k).length := List.length_filterMap_le ..
 rw [List.length_take] at h1 h2
 rw [H.ecl, H.els]
 omega
theorem r13Cut_any (c c2 : Nat) (A A2 : Option Addr) (cl ps : List I6) (v h p : Int) (w : World) (hs : Sl w 6 A cl.length c (cl.flatMap clsC)) (hs2 : Sl w 6 A2 ps.length c2 (ps.flatMap posC)) (hn2 : ps.length < 1099511000) (hw : ∀ x ∈ cl, WdC x) (hw2 : ∀ x ∈ ps, WdP x) (hp : Word p) :
  Calls Tryz.prog 70 #[.agg #[.slice A cl.length c, .slice A2 ps.length c2], .int .i64 v, .int .i64 h, .int .u64 p] w (RetK (hcutV cl ps v h p) w) := by
 obtain ⟨iLoss, iLoss_0, iLoss_1, iLoss_2, iLoss_3⟩ := info_parts loss_info
 obtain ⟨iCls, iCls_0, iCls_1, iCls_2, iCls_3⟩ := info_parts cls_info
 obtain ⟨iPos, iPos_0, iPos_1, iPos_2, iPos_3⟩ := info_parts pos_info
 have C1 := Lib.hid (fun (w' : World) (hx : Ext w w') => r13Check_any cl.length c ps.length c2 A A2 cl ps w' (hs.ext hx) (hs2.ext hx) hw hw2)
 obtain ⟨R, hR⟩ : ∃ R, R = hcutV cl ps v h p := ⟨_, rfl⟩
 rw [← hR]
 have HR := Lib.hid hR
 obtain ⟨E, hE⟩ : ∃ E, E = chkH cl ps := ⟨_, rfl⟩
 by_cases he : ¬ E = 0
 ·obtain rfl : R = ([], [], [], 0, E) := hR.trans (hcutV_err (by unfold hcutE; rw [if_pos (by rw [← hE]; exact he), hE]) he)
  rw [← hE] at C1
  have heb : (E != 0) = true := by simpa using he
  clear hs hs2 hw hw2 hE hR HR hp hn2
  go_enter Tryz.func70, Tryz.ntmps70
  go_wp2_with fail
  (with_reducible refine (C1.out _ zxt).mono ?_)
  rintro e w1 ⟨rfl, hx1⟩
  have c1_0f : w1.frozen? ⟨w.heap.size + 1, 0, none⟩ = false := hx1.froz (v := .slice none 0 0) zcv zcv
  have c1_1f : w1.frozen? ⟨w.heap.size + 1, 1, none⟩ = false := hx1.froz (v := .slice none 0 0) zcv zcv
  have c1_0 : w1.cell? ⟨w.heap.size + 1, 0, none⟩ = some (.slice none 0 0) := hx1.has zcv
  have c1_1 : w1.cell? ⟨w.heap.size + 1, 1, none⟩ = some (.slice none 0 0) := hx1.has zcv
  have z1 := hx1.size
  try simp at z1
  have rc1 := zr (w.heap.size + 1) w1
  have X1 : Hid (Ext w w1) := Lib.hid (Ext.trans zxt hx1)
  clear hx1
  go_wp2_with fail
  refine bodyPost_ret (v := .tuple #[.agg #[.slice none 0 0, .slice none 0 0], .slice none 0 0, .int .u64 0, .int .i64 E]) zSlTac4_7 rfl (RetK.nil ?_)
  exact zxt
 replace he : E = 0 := by omega
 have hk := (chkH_iff cl ps).1 (hE.symm.trans he)
 have C2 := Lib.hid (fun w => r13validator_any v w)
 obtain ⟨VB, hVB⟩ : ∃ B, B = decide (0 ≤ v ∧ v < 32) := ⟨_, rfl⟩
 rw [← hVB] at C2
 have HX := Lib.hid (show (VB = false → hcutE cl ps v h p = 3) ∧ (h < 1 → hcutE cl ps v h p = 3) ∧ (4294967296 < h → hcutE cl ps v h p = 3) ∧ (1000000000 < p → hcutE cl ps v h p = 3) ∧ (VB = true → ¬ h < 1 → ¬ 4294967296 < h → ¬ 1000000000 < p → hcutE cl ps v h p = 0) from by
  have hVt : VB = true → ¬ (v < 0 ∨ 32 ≤ v) := fun hh => by have := of_decide_eq_true (hVB.symm.trans hh); omega
  have hVf : VB = false → (v < 0 ∨ 32 ≤ v) := fun hh => by have := of_decide_eq_false (hVB.symm.trans hh); omega
  unfold hcutE
  rw [if_neg (by rw [← hE]; simpa using he)]
  refine ⟨fun h1 => ?_, fun h1 => ?_, fun h1 => ?_, fun h1 => ?_, fun h1 h2 h3 h4 => ?_⟩
  ·rw [if_pos (.inl (hVf h1))]
  ·rw [if_pos (.inr (.inl (.inl h1)))]
  ·rw [if_pos (.inr (.inl (.inr h1)))]
  ·rw [if_pos (.inr (.inr h1))]
  rw [if_neg (by intro hh; rcases hh with hh | (hh | hh) | hh; exact hVt h1 hh; exact h2 hh; exact h3 hh; exact h4 hh)])
 have HS := Lib.hid hs.low
 have HT := Lib.hid hs2.low
 have HK := Lib.hid (And.intro hk (And.intro hw (And.intro hp.1 hp.2)))
 have hlen := hk.len
 have hsm := hs.small
 have hsm2 := hs2.small
 rw [← hE] at C1
 subst he
 clear hs hs2 hw hw2 hE hR hp hk hVB
 go_enter Tryz.func70, Tryz.ntmps70
 go_wp2_with fail
 (with_reducible refine (C1.out _ zxt).mono ?_)
 rintro e w1 ⟨rfl, hx1⟩
 have c0_0f : w1.frozen? ⟨w.heap.size, 0, none⟩ = false := hx1.froz (v := .slice A cl.length c) zcv zcv
 have c0_1f : w1.frozen? ⟨w.heap.size, 1, none⟩ = false := hx1.froz (v := .slice A2 ps.length c2) zcv zcv
 have c0_0 : w1.cell? ⟨w.heap.size, 0, none⟩ = some (.slice A cl.length c) := hx1.has zcv
 have c0_1 : w1.cell? ⟨w.heap.size, 1, none⟩ = some (.slice A2 ps.length c2) := hx1.has zcv
 have c1_0f : w1.frozen? ⟨w.heap.size + 1, 0, none⟩ = false := hx1.froz (v := .slice none 0 0) zcv zcv
 have c1_1f : w1.frozen? ⟨w.heap.size + 1, 1, none⟩ = false := hx1.froz (v := .slice none 0 0) zcv zcv
 have c1_0 : w1.cell? ⟨w.heap.size + 1, 0, none⟩ = some (.slice none 0 0) := hx1.has zcv
 have c1_1 : w1.cell? ⟨w.heap.size + 1, 1, none⟩ = some (.slice none 0 0) := hx1.has zcv
 have z1 := hx1.size
 try simp at z1
 have lt_c0_c1 := zl w.heap.size (w.heap.size + 1)
 have rc0 := zr w.heap.size w1
 have rc1 := zr (w.heap.size + 1) w1
 replace HS := Lib.hid (HS.out.ext (Ext.trans zxt hx1))
 replace HT := Lib.hid (HT.out.ext (Ext.trans zxt hx1))
 have X1 : Hid (Ext w w1) := Lib.hid (Ext.trans zxt hx1)
 clear hx1
 rcases (show VB = false ∨ VB = true from by cases VB <;> simp) with rfl | rfl
 ·obtain rfl : R = ([], [], [], 0, 3) := HR.out.trans (hcutV_err (HX.out.1 (by trivial)) (by decide))
  go_wp2_with fail
  (with_reducible refine (C2.out _).mono ?_)
  rintro e w_1 ⟨rfl, hs0⟩
  have hs1 := hs0.symm
  clear hs0
  subst hs1
  go_wp2_with fail
  refine bodyPost_ret (v := .tuple #[.agg #[.slice none 0 0, .slice none 0 0], .slice none 0 0, .int .u64 0, .int .i64 3]) zSlTac4_7 rfl (RetK.nil ?_)
  exact zxt
 by_cases q1 : h < 1
 ·have q1d : decide (h < 1) = true := decide_eq_true q1
  obtain rfl : R = ([], [], [], 0, 3) := HR.out.trans (hcutV_err (HX.out.2.1 q1) (by decide))
  go_wp2_with fail
  (with_reducible refine (C2.out _).mono ?_)
  rintro e w_1 ⟨rfl, hs0⟩
  have hs1 := hs0.symm
  clear hs0
  subst hs1
  go_wp2_with fail
  refine bodyPost_ret (v := .tuple #[.agg #[.slice none 0 0, .slice none 0 0], .slice none 0 0, .int .u64 0, .int .i64 3]) zSlTac4_7 rfl (RetK.nil ?_)
  exact zxt
 have q1d : decide (h < 1) = false := decide_eq_false q1
 by_cases q2 : 4294967296 < h
 ·have q2d : decide (4294967296 < h) = true := decide_eq_true q2
  obtain rfl : R = ([], [], [], 0, 3) := HR.out.trans (hcutV_err (HX.out.2.2.1 q2) (by decide))
  go_wp2_with fail
  (with_reducible refine (C2.out _).mono ?_)
  rintro e w_1 ⟨rfl, hs0⟩
  have hs1 := hs0.symm
  clear hs0
  subst hs1
  go_wp2_with fail
  refine bodyPost_ret (v := .tuple #[.agg #[.slice none 0 0, .slice none 0 0], .slice none 0 0, .int .u64 0, .int .i64 3]) zSlTac4_7 rfl (RetK.nil ?_)
  exact zxt
 have q2d : decide (4294967296 < h) = false := decide_eq_false q2
 go_wp2_with fail
 (with_reducible refine (C2.out _).mono ?_)
 rintro e w_1 ⟨rfl, hs0⟩
 have hs1 := hs0.symm
 clear hs0
 subst hs1
 by_cases q3 : 1000000000 < p
 ·have q3d : decide (1000000000 < p) = true := decide_eq_true q3
  obtain rfl : R = ([], [], [], 0, 3) := HR.out.trans (hcutV_err (HX.out.2.2.2.1 q3) (by decide))
  go_wp2_with fail
  refine bodyPost_ret (v := .tuple #[.agg #[.slice none 0 0, .slice none 0 0], .slice none 0 0, .int .u64 0, .int .i64 3]) zSlTac4_7 rfl (RetK.nil ?_)
  exact zxt
 have q3d : decide (1000000000 < p) = false := decide_eq_false q3
 have HX0 := Lib.hid (HX.out.2.2.2.2 (by trivial) (by omega) (by omega) (by omega))
 have p1 : p ≤ 1000000000 := by omega
 have hh1 : h ≤ 4294967296 := by omega
 clear HX
 go_wp2_with fail
 go_loopg [14, 15, 16] cl.length (fun gh s14 s15 i wx => gh ≤ cl.length ∧ i = .int .i64 ((cl.length - gh : Nat) : Int) ∧ ∃ (B3 A7 : Option Addr) (d3 c7 : Nat) (CL : List I6) (LS : List I5) (N : Int), s14 = .slice A7 LS.length c7 ∧ s15 = .int .u64 N ∧ Hid (CutJ cl v h p (cl.length - gh) CL LS N) ∧ Hid (Bk wx (w.heap.size) (.slice A cl.length c) (.slice A2 ps.length c2)) ∧ Hid (Bk wx (w.heap.size + 1) (.slice none 0 0) (.slice none 0 0)) ∧ Hid (Bk wx (w1.heap.size) (.slice B3 CL.length d3) (.slice none 0 0)) ∧ Hid (OwnCls wx (w1.heap.size + 1) (.slice B3 CL.length d3) CL.length CL) ∧ Hid (OwnLoss wx (w1.heap.size + 1) (.slice A7 LS.length c7) LS.length LS) ∧ Hid (SlB w.heap.size wx 6 A cl.length c (cl.flatMap clsC)) ∧ Hid (SlB w.heap.size wx 6 A2 ps.length c2 (ps.flatMap posC)) ∧ w1.heap.size + 1 ≤ wx.heap.size ∧ Hid (Ext w wx))
 case atStart => exact ⟨Nat.le_refl _, by simp, none, none, 0, 0, [], [], 0, rfl, rfl, by rw [Nat.sub_self]; exact Lib.hid (CutJ.start ..), Lib.hid ⟨by first | exact c0_0 | (simp [go_sem, World.cell?_alloc_past, *]; done), by first | exact c0_0f | (simp [go_sem, World.cell?_alloc_past, *]; done), by first | exact c0_1 | (simp [go_sem, World.cell?_alloc_past, *]; done), by first | exact c0_1f | (simp [go_sem, World.cell?_alloc_past, *]; done)⟩, Lib.hid ⟨by first | exact c1_0 | (simp [go_sem, World.cell?_alloc_past, *]; done), by first | exact c1_0f | (simp [go_sem, World.cell?_alloc_past, *]; done), by first | exact c1_1 | (simp [go_sem, World.cell?_alloc_past, *]; done), by first | exact c1_1f | (simp [go_sem, World.cell?_alloc_past, *]; done)⟩, Lib.hid ⟨by first | exact c2_0 | (simp [go_sem, World.cell?_alloc_past, *]; done), by first | exact c2_0f | (simp [go_sem, World.cell?_alloc_past, *]; done), by first | exact c2_1 | (simp [go_sem, World.cell?_alloc_past, *]; done), by first | exact c2_1f | (simp [go_sem, World.cell?_alloc_past, *]; done)⟩, Lib.hid (OwnCls.nil _ _), Lib.hid (OwnLoss.nil _ _), Lib.hid (HS.out.ext zxt), Lib.hid (HT.out.ext zxt), by first | omega | (simp; done) | (simp; omega), Lib.hid zxt⟩
 clear HS HT
 obtain ⟨hg, hi, B3, A7, d3, c7, CL, LS, N, rfl, rfl, HI, BH, BR, BU, HO, HL, HS, HT, hBr, XR⟩ := hrel
 obtain ⟨k, hkk⟩ : ∃ k, k = cl.length - gk := ⟨_, rfl⟩
 rw [← hkk] at hi HI
 subst hi
 have h_0 := BH.out.c0
 have h_1 := BH.out.c1
 have h_0f := BH.out.f0
 have h_1f := BH.out.f1
 have hlh := cell_lt h_0
 have hnh : ¬ w.heap.size = wr.heap.size := by omega
 have r_0 := BR.out.c0
 have r_1 := BR.out.c1
 have r_0f := BR.out.f0
 have r_1f := BR.out.f1
 have hlr := cell_lt r_0
 have hnr : ¬ w.heap.size + 1 = wr.heap.size := by omega
 have u_0 := BU.out.c0
 have u_1 := BU.out.c1
 have u_0f := BU.out.f0
 have u_1f := BU.out.f1
 have hlu := cell_lt u_0
 have hnu : ¬ w1.heap.size = wr.heap.size := by omega
 clear BH BR BU
 by_cases hz : gk = 0
 ·have hkn : ¬ (k : Int) < (cl.length : Int) := by omega
  obtain ⟨e1, e2, e3⟩ := HI.out.done (by omega)
  have HD := Lib.hid (And.intro e1 (And.intro e2 e3))
  have hCL := HI.out.clen
  have hkk2 : k ≤ cl.length := by omega
  clear e1 e2 e3 hkk hg hz HI
  go_wp2_with fail
  go_loopg [21] ps.length (fun gh i wx => gh ≤ ps.length ∧ i = .int .i64 ((ps.length - gh : Nat) : Int) ∧ ∃ (B4 : Option Addr) (d4 : Nat) (PS : List I6), Hid (PS = (ps.take (ps.length - gh)).filter (fun x => (getK kC CL (stP x)).isSome)) ∧ Hid (Bk wx (w.heap.size) (.slice A cl.length c) (.slice A2 ps.length c2)) ∧ Hid (Bk wx (w.heap.size + 1) (.slice none 0 0) (.slice none 0 0)) ∧ Hid (Bk wx (w1.heap.size) (.slice B3 CL.length d3) (.slice B4 PS.length d4)) ∧ Hid (OwnCls wx (w1.heap.size + 1) (.slice B3 CL.length d3) CL.length CL) ∧ Hid (OwnLoss wx (w1.heap.size + 1) (.slice A7 LS.length c7) LS.length LS) ∧ Hid (OwnPos wx (w1.heap.size + 1) (.slice B4 PS.length d4) PS.length PS) ∧ Hid (SlB w.heap.size wx 6 A cl.length c (cl.flatMap clsC)) ∧ Hid (SlB w.heap.size wx 6 A2 ps.length c2 (ps.flatMap posC)) ∧ w1.heap.size + 1 ≤ wx.heap.size ∧ Hid (Ext w wx))
  case atStart => exact ⟨Nat.le_refl _, by simp, none, 0, [], by rw [Nat.sub_self]; exact Lib.hid (by simp), Lib.hid ⟨by first | exact h_0 | (simp [go_sem, World.cell?_alloc_past, *]; done), by first | exact h_0f | (simp [go_sem, World.cell?_alloc_past, *]; done), by first | exact h_1 | (simp [go_sem, World.cell?_alloc_past, *]; done), by first | exact h_1f | (simp [go_sem, World.cell?_alloc_past, *]; done)⟩, Lib.hid ⟨by first | exact r_0 | (simp [go_sem, World.cell?_alloc_past, *]; done), by first | exact r_0f | (simp [go_sem, World.cell?_alloc_past, *]; done), by first | exact r_1 | (simp [go_sem, World.cell?_alloc_past, *]; done), by first | exact r_1f | (simp [go_sem, World.cell?_alloc_past, *]; done)⟩, Lib.hid ⟨by first | exact u_0 | (simp [go_sem, World.cell?_alloc_past, *]; done), by first | exact u_0f | (simp [go_sem, World.cell?_alloc_past, *]; done), by first | exact u_1 | (simp [go_sem, World.cell?_alloc_past, *]; done), by first | exact u_1f | (simp [go_sem, World.cell?_alloc_past, *]; done)⟩, HO, HL, Lib.hid (OwnPos.nil _ _), HS, HT, hBr, XR⟩
  clear HO HL HS HT XR hBr h_0 h_0f h_1 h_1f r_0 r_0f r_1 r_1f u_0 u_0f u_1 u_1f hlh hlr hlu hnh hnr hnu
  obtain ⟨hg, hi, B4, d4, PS, HF, BH, BR, BU, HO, HL, HP, HS, HT, hBr, XR⟩ := hrel
  obtain ⟨j, hjj⟩ : ∃ j, j = ps.length - gk := ⟨_, rfl⟩
  rw [← hjj] at hi HF
  subst hi
  have h_0 := BH.out.c0
  have h_1 := BH.out.c1
  have h_0f := BH.out.f0
  have h_1f := BH.out.f1
  have hlh := cell_lt h_0
  have hnh : ¬ w.heap.size = wr.heap.size := by omega
  have r_0 := BR.out.c0
  have r_1 := BR.out.c1
  have r_0f := BR.out.f0
  have r_1f := BR.out.f1
  have hlr := cell_lt r_0
  have hnr : ¬ w.heap.size + 1 = wr.heap.size := by omega
  have u_0 := BU.out.c0
  have u_1 := BU.out.c1
  have u_0f := BU.out.f0
  have u_1f := BU.out.f1
  have hlu := cell_lt u_0
  have hnu : ¬ w1.heap.size = wr.heap.size := by omega
  clear BH BR BU
  by_cases hz : gk = 0
  ·have hjn : ¬ (j : Int) < (ps.length : Int) := by omega
   obtain ⟨e1, e2, e3⟩ := HD.out
   have e4 : PS = keepP (cutCs v h p cl) ps := by rw [HF.out, List.take_of_length_le (by omega)]; unfold keepP; rw [e1]
   obtain rfl : R = (CL, PS, LS, N, 0) := by rw [HR.out, hcutV_ok HX0.out, e4, ← e1, ← e2, e3, ← e2]
   clear e1 e2 e3 e4 hjj hg hz HF HR
   go_wp2
   refine bodyPost_ret (v := .tuple #[.agg #[.slice B3 CL.length d3, .slice B4 PS.length d4], .slice A7 LS.length c7, .int .u64 N, .int .i64 0]) (by simp [results, Tryz.results70, go_sem, World.cell?_alloc_past, r_0, r_1, r_0f, r_1f]; try rfl) rfl (RetK.mk (b := w1.heap.size + 1) (by omega) (show World.ownsRow _ (w1.heap.size + 1) _ _ _ _ _ from by repeat (first | with_reducible refine own_box ?_ (by omega) | exact HO.out)) (show World.ownsRow _ (w1.heap.size + 1) _ _ _ _ _ from by repeat (first | with_reducible refine own_box ?_ (by omega) | exact HP.out)) (show World.ownsRow _ (w1.heap.size + 1) _ _ _ _ _ from by repeat (first | with_reducible refine own_box ?_ (by omega) | exact HL.out)) (by repeat (first | with_reducible exact XR.out | with_reducible refine Ext.setCell ?_ (by first | omega | (simp; done) | (simp; omega)) _)))
  have hjn : (j : Int) < (ps.length : Int) := by omega
  have hjl : j < ps.length := by omega
  obtain ⟨b2, o2, rfl, hb2, hc_x⟩ := HT.out.sl.rec_ posC_len (show 0 < ps.length from by omega)
  obtain ⟨xw, hl_x⟩ : ∃ x, ps[j]? = some x := ⟨_, List.getElem?_eq_getElem (by omega)⟩
  have x_0 := hc_x (j) xw hl_x 0 _ rfl
  have x_1 := hc_x (j) xw hl_x 1 _ rfl
  have x_2 := hc_x (j) xw hl_x 2 _ rfl
  have x_3 := hc_x (j) xw hl_x 3 _ rfl
  have x_4 := hc_x (j) xw hl_x 4 _ rfl
  have x_5 := hc_x (j) xw hl_x 5 _ rfl
  obtain ⟨po, pv, ps_, pp, pf, ph⟩ := xw
  simp only at x_0 x_1 x_2 x_3 x_4 x_5
  rw [Nat.add_zero] at x_0
  rw [← Nat.add_assoc] at x_1 x_2 x_3 x_4 x_5
  have HX1 := Lib.hid (And.intro hl_x (And.intro hjj (And.intro hg hz)))
  have hb2w := HT.out.2 (by omega) b2 o2 none rfl
  have hb2s : ¬ b2 = wr.heap.size := by omega
  have hb2u : ¬ b2 = w1.heap.size := by omega
  have hb2u2 : ¬ w1.heap.size = b2 := by omega
  have hwu : ¬ w.heap.size = w1.heap.size := by omega
  have hwu2 : ¬ w1.heap.size = w.heap.size := by omega
  have CC := Lib.hid (fun (w' : World) (hx : Sl w' 6 B3 CL.length d3 (CL.flatMap clsC)) => r13class_any CL.length d3 PS.length d4 B3 B4 CL pv ps_ pp pf w' hx)
  have hPS : PS.length ≤ j := by rw [HF.out]; exact Nat.le_trans (List.length_filter_le ..) (by rw [List.length_take]; omega)
  have hap : ∀ i, (Value.slice B4 PS.length d4).ownBlock = some i → ¬ i = w1.heap.size := fun i hi hh => by have h9 := own_rng HP.out i hi; omega
  clear hl_x hc_x hjj hg hz hjl
  go_wp2_with fail
  refine wp_region_held_drew (S := fun w' => w'.cell? ⟨w.heap.size, 1, none⟩ = some (.slice (some ⟨b2, o2, none⟩) ps.length c2) ∧ w'.cell? ⟨w1.heap.size, 0, none⟩ = some (.slice B3 CL.length d3) ∧ w'.cell? ⟨w1.heap.size, 1, none⟩ = some (.slice B4 PS.length d4) ∧ w'.cell? ⟨b2, o2 + j * 6 + 1, none⟩ = some (.int .i64 pv) ∧ w'.cell? ⟨b2, o2 + j * 6 + 2, none⟩ = some (.int .i64 ps_) ∧ w'.cell? ⟨b2, o2 + j * 6 + 3, none⟩ = some (.int .i64 pp) ∧ w'.cell? ⟨b2, o2 + j * 6 + 4, none⟩ = some (.int .i64 pf)) (by kernel_rfl) (by first | with_reducible exact ⟨h_1, u_0, u_1, x_1, x_2, x_3, x_4⟩ | (simp [go_sem, World.cell?_alloc_past, *]; done)) (fun hHeld => ?_)
  refine' zt 0 ?_
  refine' zt 1 ?_
  refine' zt 2 ?_
  refine' zt 3 ?_
  refine' zt 4 ?_
  refine' zt 5 ?_
  refine' zt 6 ?_
  refine' zn 7 (fun K hK => ?_)
  go_simp
  (with_reducible refine (CC.out _ (OwnCls.sl (HO.out.ext zxt))).mono ?_)
  rintro e w31 ⟨ci, rfl, hfi, hx31⟩
  replace h_0f := zf hx31 h_0 h_0f
  replace h_1f := zf hx31 h_1 h_1f
  replace h_0 := zh hx31 h_0
  replace h_1 := zh hx31 h_1
  replace r_0f := zf hx31 r_0 r_0f
  replace r_1f := zf hx31 r_1 r_1f
  replace r_0 := zh hx31 r_0
  replace r_1 := zh hx31 r_1
  replace u_0f := zf hx31 u_0 u_0f
  replace u_1f := zf hx31 u_1 u_1f
  replace u_0 := zh hx31 u_0
  replace u_1 := zh hx31 u_1
  replace x_0 := zh hx31 x_0
  replace x_1 := zh hx31 x_1
  replace x_2 := zh hx31 x_2
  replace x_3 := zh hx31 x_3
  replace x_4 := zh hx31 x_4
  replace x_5 := zh hx31 x_5
  have z31 := hx31.size
  try simp at z31
  have rh := zr w.heap.size w31
  have rr := zr (w.heap.size + 1) w31
  have ru := zr w1.heap.size w31
  have rx := zr b2 w31
  replace HO := Lib.hid (HO.out.ext (Ext.trans zxt hx31))
  replace HL := Lib.hid (HL.out.ext (Ext.trans zxt hx31))
  replace HP := Lib.hid (HP.out.ext (Ext.trans zxt hx31))
  replace HS := Lib.hid (HS.out.ext (Ext.trans zxt hx31))
  replace HT := Lib.hid (HT.out.ext (Ext.trans zxt hx31))
  have X31 : Hid (Ext w w31) := Lib.hid (Ext.trans zxt hx31)
  clear XR hx31
  have HFI := Lib.hid hfi
  clear hfi
  refine' zk hK (by (first | exact ⟨h_1, u_0, u_1, x_1, x_2, x_3, x_4⟩ | (simp [go_sem, World.cell?_alloc_past, *]; done))) (fun hHeld => ?_); clear hK K
  refine' zt 8 ?_
  refine wpAnyH_done (by kernel_rfl) ?_ _
  rcases HFI.out.symm with ⟨m, xw, rfl, hM, hG⟩ | ⟨rfl, hN⟩
  ·have hm0 : (0 : Int) ≤ (m : Int) := by omega
   have hmd : decide ((0 : Int) ≤ (m : Int)) = true := decide_eq_true hm0
   have HG := Lib.hid hG
   clear hM hG HFI
   go_wp2_with fail
   refine wp_region_held_drew (S := fun w' => w'.cell? ⟨w.heap.size, 1, none⟩ = some (.slice (some ⟨b2, o2, none⟩) ps.length c2) ∧ w'.cell? ⟨b2, o2 + j * 6, none⟩ = some (.int .i64 po) ∧ w'.cell? ⟨b2, o2 + j * 6 + 1, none⟩ = some (.int .i64 pv) ∧ w'.cell? ⟨b2, o2 + j * 6 + 2, none⟩ = some (.int .i64 ps_) ∧ w'.cell? ⟨b2, o2 + j * 6 + 3, none⟩ = some (.int .i64 pp) ∧ w'.cell? ⟨b2, o2 + j * 6 + 4, none⟩ = some (.int .i64 pf) ∧ w'.cell? ⟨b2, o2 + j * 6 + 5, none⟩ = some (.int .u64 ph)) (by kernel_rfl) (by first | with_reducible exact ⟨h_1, x_0, x_1, x_2, x_3, x_4, x_5⟩ | (simp [go_sem, World.cell?_alloc_past, *]; done)) (fun hHeld => ?_)
   refine' zt 0 ?_
   refine' zt 2 ?_
   refine' zt 3 ?_
   refine' zt 4 ?_
   refine' zt 5 ?_
   refine' zt 6 ?_
   refine' next2_in 1 7 rfl rfl (by kernel_rfl) (by rfl) (by rfl) (fun K hK => ?_) (fun K hK => ?_)
   ·go_simp
    refine' zk hK zSlTac4_5 (fun hHeld => ?_); clear hK K
    refine' zn 7 (fun K hK => ?_)
    go_simp
    refine' zk hK zSlTac4_5 (fun hHeld => ?_); clear hK K
    refine' zn 8 (fun K hK => ?_)
    refine oper_app _ (.tmp 108) (.tmp 114) 23 rfl (w1.heap.size + 1) 82 iPos (.agg #[.int .i64 0, .int .i64 0, .int .i64 0, .int .i64 0, .int .i64 0, .int .u64 0]) 6 48 Tryz.underlying23 iPos_0 iPos_1 iPos_2 iPos_3 rfl (by decide) (.slice B4 PS.length d4) PS.length (PS.flatMap posC) (by rfl) ((HP.out.ext zxt)) _ 1 _ (#[.int .i64 po, .int .i64 pv, .int .i64 ps_, .int .i64 pp, .int .i64 pf, .int .u64 ph].toList) (by first | rfl | (simp [Act.eval, go_sem]; done)) (Sl.ext (sl_new _ 82 6 #[.int .i64 po, .int .i64 pv, .int .i64 ps_, .int .i64 pp, .int .i64 pf, .int .u64 ph] 1 rfl (by decide)) (Ext.drew (Ext.refl _))) (by intro u hu; simp at hu; rcases hu with rfl | rfl | rfl | rfl | rfl | rfl <;> rfl) (by omega) (by decide) (by (try simp); omega) ?_
    intro v32 w32 hown32 hx32 hn32
    obtain ⟨A32, c32, rfl, hnil32, hO32⟩ := own_app (f := posC) (po, pv, ps_, pp, pf, ph) hown32 rfl rfl
    obtain ⟨L32, hL32⟩ : ∃ l, l = PS ++ [(po, pv, ps_, pp, pf, ph)] := ⟨_, rfl⟩
    rw [← hL32] at hO32 ⊢
    have HL32 := Lib.hid hL32
    have hNL32 : L32.length = PS.length + 1 := by rw [hL32, List.length_append]; rfl
    clear hown32 hn32 hnil32 hL32
    have hsz32 := hx32.size
    try simp at hsz32
    replace h_0f := zfb hx32 h_0 h_0f (ne := zSlTac4_1)
    replace h_1f := zfb hx32 h_1 h_1f (ne := zSlTac4_1)
    replace h_0 := zhb hx32 h_0 (ne := zSlTac4_1)
    replace h_1 := zhb hx32 h_1 (ne := zSlTac4_1)
    replace r_0f := zfb hx32 r_0 r_0f (ne := zSlTac4_1)
    replace r_1f := zfb hx32 r_1 r_1f (ne := zSlTac4_1)
    replace r_0 := zhb hx32 r_0 (ne := zSlTac4_1)
    replace r_1 := zhb hx32 r_1 (ne := zSlTac4_1)
    replace u_0f := zfb hx32 u_0 u_0f (ne := zSlTac4_1)
    replace u_1f := zfb hx32 u_1 u_1f (ne := zSlTac4_1)
    replace u_0 := zhb hx32 u_0 (ne := zSlTac4_1)
    replace u_1 := zhb hx32 u_1 (ne := zSlTac4_1)
    replace x_0 := zhb hx32 x_0 (ne := zSlTac4_1)
    replace x_1 := zhb hx32 x_1 (ne := zSlTac4_1)
    replace x_2 := zhb hx32 x_2 (ne := zSlTac4_1)
    replace x_3 := zhb hx32 x_3 (ne := zSlTac4_1)
    replace x_4 := zhb hx32 x_4 (ne := zSlTac4_1)
    replace x_5 := zhb hx32 x_5 (ne := zSlTac4_1)
    have z32 := hx32.size
    try simp at z32
    replace rh := zr w.heap.size w32
    replace rr := zr (w.heap.size + 1) w32
    replace ru := zr w1.heap.size w32
    replace rx := zr b2 w32
    have X32 : Hid (Ext w w32) := Lib.hid (have hX := (show Ext w _ from zxt); Below.trans hX (hx32.below (Ext.size hX) (fun k hk hh => by have hh2 := own_rng HP.out _ hh; omega)))
    replace HO := Lib.hid ((HO.out.ext zxt).but hx32 (own_apart HO.out HP.out cls_pos))
    replace HL := Lib.hid ((HL.out.ext zxt).but hx32 (own_apart HL.out HP.out loss_pos))
    replace HS := Lib.hid ((HS.out.ext zxt).but hx32 (fun k hk => by have hh2 := own_rng HP.out _ hk; omega))
    replace HT := Lib.hid ((HT.out.ext zxt).but hx32 (fun k hk => by have hh2 := own_rng HP.out _ hk; omega))
    clear HP
    have HP := Lib.hid (show OwnPos _ (w1.heap.size + 1) _ _ _ from hO32)
    clear hsz32 X31 hx32
    clear hO32
    refine' zk hK zSlTac4_5 (fun hHeld => ?_); clear hK K
    refine' zt 9 ?_
    refine' zn 10 (fun K hK => ?_)
    go_simp
    refine' zk hK zSlTac4_5 (fun hHeld => ?_); clear hK K
    refine wpAnyH_done (by kernel_rfl) ?_ _
    go_wp2_with fail
    go_roundg (gk - 1)
    case measure => have := HX1.out; omega
    exact ⟨by have := HX1.out; omega, num_eq (by have := HX1.out; omega), A32, c32, L32, by rw [show ps.length - (gk - 1) = j + 1 from by have := HX1.out; omega]; exact Lib.hid (by rw [HL32.out, HF.out, take_one HX1.out.1, List.filter_append]; simp [stP, HG.out]), Lib.hid ⟨by first | exact h_0 | (simp [go_sem, World.cell?_alloc_past, *]; done), by first | exact h_0f | (simp [go_sem, World.cell?_alloc_past, *]; done), by first | exact h_1 | (simp [go_sem, World.cell?_alloc_past, *]; done), by first | exact h_1f | (simp [go_sem, World.cell?_alloc_past, *]; done)⟩, Lib.hid ⟨by first | exact r_0 | (simp [go_sem, World.cell?_alloc_past, *]; done), by first | exact r_0f | (simp [go_sem, World.cell?_alloc_past, *]; done), by first | exact r_1 | (simp [go_sem, World.cell?_alloc_past, *]; done), by first | exact r_1f | (simp [go_sem, World.cell?_alloc_past, *]; done)⟩, Lib.hid ⟨by first | exact u_0 | (simp [go_sem, World.cell?_alloc_past, *]; done), by first | exact u_0f | (simp [go_sem, World.cell?_alloc_past, *]; done), by first | exact u_1 | (simp [go_sem, World.cell?_alloc_past, *]; done), by first | exact u_1f | (simp [go_sem, World.cell?_alloc_past, *]; done)⟩, Lib.hid (show OwnCls _ (w1.heap.size + 1) _ _ _ from (show World.ownsRow _ (w1.heap.size + 1) _ _ _ _ _ from by repeat (first | exact HO.out | with_reducible refine own_box ?_ (by omega) | with_reducible refine World.ownsRow.drew ?_ | refine own_keep ?_ (Ext.alloc (Ext.refl _) _) | refine own_keep ?_ (Ext.drewN (Ext.refl _) _)))), Lib.hid (show OwnLoss _ (w1.heap.size + 1) _ _ _ from (show World.ownsRow _ (w1.heap.size + 1) _ _ _ _ _ from by repeat (first | exact HL.out | with_reducible refine own_box ?_ (by omega) | with_reducible refine World.ownsRow.drew ?_ | refine own_keep ?_ (Ext.alloc (Ext.refl _) _) | refine own_keep ?_ (Ext.drewN (Ext.refl _) _)))), Lib.hid (show OwnPos _ (w1.heap.size + 1) _ _ _ from (show World.ownsRow _ (w1.heap.size + 1) _ _ _ _ _ from by repeat (first | exact HP.out | with_reducible refine own_box ?_ (by omega) | with_reducible refine World.ownsRow.drew ?_ | refine own_keep ?_ (Ext.alloc (Ext.refl _) _) | refine own_keep ?_ (Ext.drewN (Ext.refl _) _)))), Lib.hid zSlTac4_3, Lib.hid zSlTac4_2, by first | omega | (simp; done) | (simp; omega), Lib.hid zxt⟩
   go_simp
   refine' zk hK zSlTac4_5 (fun hHeld => ?_); clear hK K
   refine' zn 1 (fun K hK => ?_)
   go_simp
   refine' zk hK zSlTac4_5 (fun hHeld => ?_); clear hK K
   refine' zn 8 (fun K hK => ?_)
   refine oper_app _ (.tmp 108) (.tmp 114) 23 rfl (w1.heap.size + 1) 82 iPos (.agg #[.int .i64 0, .int .i64 0, .int .i64 0, .int .i64 0, .int .i64 0, .int .u64 0]) 6 48 Tryz.underlying23 iPos_0 iPos_1 iPos_2 iPos_3 rfl (by decide) (.slice B4 PS.length d4) PS.length (PS.flatMap posC) (by rfl) ((HP.out.ext zxt)) _ 1 _ (#[.int .i64 po, .int .i64 pv, .int .i64 ps_, .int .i64 pp, .int .i64 pf, .int .u64 ph].toList) (by first | rfl | (simp [Act.eval, go_sem]; done)) (Sl.ext (sl_new _ 82 6 #[.int .i64 po, .int .i64 pv, .int .i64 ps_, .int .i64 pp, .int .i64 pf, .int .u64 ph] 1 rfl (by decide)) (Ext.drew (Ext.refl _))) (by intro u hu; simp at hu; rcases hu with rfl | rfl | rfl | rfl | rfl | rfl <;> rfl) (by omega) (by decide) (by (try simp); omega) ?_
   intro v32 w32 hown32 hx32 hn32
   obtain ⟨A32, c32, rfl, hnil32, hO32⟩ := own_app (f := posC) (po, pv, ps_, pp, pf, ph) hown32 rfl rfl
   obtain ⟨L32, hL32⟩ : ∃ l, l = PS ++ [(po, pv, ps_, pp, pf, ph)] := ⟨_, rfl⟩
   rw [← hL32] at hO32 ⊢
   have HL32 := Lib.hid hL32
   have hNL32 : L32.length = PS.length + 1 := by rw [hL32, List.length_append]; rfl
   clear hown32 hn32 hnil32 hL32
   have hsz32 := hx32.size
   try simp at hsz32
   replace h_0f := zfb hx32 h_0 h_0f (ne := zSlTac4_1)
   replace h_1f := zfb hx32 h_1 h_1f (ne := zSlTac4_1)
   replace h_0 := zhb hx32 h_0 (ne := zSlTac4_1)
   replace h_1 := zhb hx32 h_1 (ne := zSlTac4_1)
   replace r_0f := zfb hx32 r_0 r_0f (ne := zSlTac4_1)
   replace r_1f := zfb hx32 r_1 r_1f (ne := zSlTac4_1)
   replace r_0 := zhb hx32 r_0 (ne := zSlTac4_1)
   replace r_1 := zhb hx32 r_1 (ne := zSlTac4_1)
   replace u_0f := zfb hx32 u_0 u_0f (ne := zSlTac4_1)
   replace u_1f := zfb hx32 u_1 u_1f (ne := zSlTac4_1)
   replace u_0 := zhb hx32 u_0 (ne := zSlTac4_1)
   replace u_1 := zhb hx32 u_1 (ne := zSlTac4_1)
   replace x_0 := zhb hx32 x_0 (ne := zSlTac4_1)
   replace x_1 := zhb hx32 x_1 (ne := zSlTac4_1)
   replace x_2 := zhb hx32 x_2 (ne := zSlTac4_1)
   replace x_3 := zhb hx32 x_3 (ne := zSlTac4_1)
   replace x_4 := zhb hx32 x_4 (ne := zSlTac4_1)
   replace x_5 := zhb hx32 x_5 (ne := zSlTac4_1)
   have z32 := hx32.size
   try simp at z32
   replace rh := zr w.heap.size w32
   replace rr := zr (w.heap.size + 1) w32
   replace ru := zr w1.heap.size w32
   replace rx := zr b2 w32
   have X32 : Hid (Ext w w32) := Lib.hid (have hX := (show Ext w _ from zxt); Below.trans hX (hx32.below (Ext.size hX) (fun k hk hh => by have hh2 := own_rng HP.out _ hh; omega)))
   replace HO := Lib.hid ((HO.out.ext zxt).but hx32 (own_apart HO.out HP.out cls_pos))
   replace HL := Lib.hid ((HL.out.ext zxt).but hx32 (own_apart HL.out HP.out loss_pos))
   replace HS := Lib.hid ((HS.out.ext zxt).but hx32 (fun k hk => by have hh2 := own_rng HP.out _ hk; omega))
   replace HT := Lib.hid ((HT.out.ext zxt).but hx32 (fun k hk => by have hh2 := own_rng HP.out _ hk; omega))
   clear HP
   have HP := Lib.hid (show OwnPos _ (w1.heap.size + 1) _ _ _ from hO32)
   clear hsz32 X31 hx32
   clear hO32
   refine' zk hK zSlTac4_5 (fun hHeld => ?_); clear hK K
   refine' zt 9 ?_
   refine' zn 10 (fun K hK => ?_)
   go_simp
   refine' zk hK zSlTac4_5 (fun hHeld => ?_); clear hK K
   refine wpAnyH_done (by kernel_rfl) ?_ _
   go_wp2_with fail
   go_roundg (gk - 1)
   case measure => have := HX1.out; omega
   exact ⟨by have := HX1.out; omega, num_eq (by have := HX1.out; omega), A32, c32, L32, by rw [show ps.length - (gk - 1) = j + 1 from by have := HX1.out; omega]; exact Lib.hid (by rw [HL32.out, HF.out, take_one HX1.out.1, List.filter_append]; simp [stP, HG.out]), Lib.hid ⟨by first | exact h_0 | (simp [go_sem, World.cell?_alloc_past, *]; done), by first | exact h_0f | (simp [go_sem, World.cell?_alloc_past, *]; done), by first | exact h_1 | (simp [go_sem, World.cell?_alloc_past, *]; done), by first | exact h_1f | (simp [go_sem, World.cell?_alloc_past, *]; done)⟩, Lib.hid ⟨by first | exact r_0 | (simp [go_sem, World.cell?_alloc_past, *]; done), by first | exact r_0f | (simp [go_sem, World.cell?_alloc_past, *]; done), by first | exact r_1 | (simp [go_sem, World.cell?_alloc_past, *]; done), by first | exact r_1f | (simp [go_sem, World.cell?_alloc_past, *]; done)⟩, Lib.hid ⟨by first | exact u_0 | (simp [go_sem, World.cell?_alloc_past, *]; done), by first | exact u_0f | (simp [go_sem, World.cell?_alloc_past, *]; done), by first | exact u_1 | (simp [go_sem, World.cell?_alloc_past, *]; done), by first | exact u_1f | (simp [go_sem, World.cell?_alloc_past, *]; done)⟩, Lib.hid (show OwnCls _ (w1.heap.size + 1) _ _ _ from (show World.ownsRow _ (w1.heap.size + 1) _ _ _ _ _ from by repeat (first | exact HO.out | with_reducible refine own_box ?_ (by omega) | with_reducible refine World.ownsRow.drew ?_ | refine own_keep ?_ (Ext.alloc (Ext.refl _) _) | refine own_keep ?_ (Ext.drewN (Ext.refl _) _)))), Lib.hid (show OwnLoss _ (w1.heap.size + 1) _ _ _ from (show World.ownsRow _ (w1.heap.size + 1) _ _ _ _ _ from by repeat (first | exact HL.out | with_reducible refine own_box ?_ (by omega) | with_reducible refine World.ownsRow.drew ?_ | refine own_keep ?_ (Ext.alloc (Ext.refl _) _) | refine own_keep ?_ (Ext.drewN (Ext.refl _) _)))), Lib.hid (show OwnPos _ (w1.heap.size + 1) _ _ _ from (show World.ownsRow _ (w1.heap.size + 1) _ _ _ _ _ from by repeat (first | exact HP.out | with_reducible refine own_box ?_ (by omega) | with_reducible refine World.ownsRow.drew ?_ | refine own_keep ?_ (Ext.alloc (Ext.refl _) _) | refine own_keep ?_ (Ext.drewN (Ext.refl _) _)))), Lib.hid zSlTac4_3, Lib.hid zSlTac4_2, by first | omega | (simp; done) | (simp; omega), Lib.hid zxt⟩
  have HN := Lib.hid hN
  clear hN HFI
  go_wp2_with fail
  go_roundg (gk - 1)
  case measure => have := HX1.out; omega
  exact ⟨by have := HX1.out; omega, num_eq (by have := HX1.out; omega), B4, d4, PS, by rw [show ps.length - (gk - 1) = j + 1 from by have := HX1.out; omega]; exact Lib.hid (by rw [HF.out, take_one HX1.out.1, List.filter_append]; simp [stP, HN.out]), Lib.hid ⟨by first | exact h_0 | (simp [go_sem, World.cell?_alloc_past, *]; done), by first | exact h_0f | (simp [go_sem, World.cell?_alloc_past, *]; done), by first | exact h_1 | (simp [go_sem, World.cell?_alloc_past, *]; done), by first | exact h_1f | (simp [go_sem, World.cell?_alloc_past, *]; done)⟩, Lib.hid ⟨by first | exact r_0 | (simp [go_sem, World.cell?_alloc_past, *]; done), by first | exact r_0f | (simp [go_sem, World.cell?_alloc_past, *]; done), by first | exact r_1 | (simp [go_sem, World.cell?_alloc_past, *]; done), by first | exact r_1f | (simp [go_sem, World.cell?_alloc_past, *]; done)⟩, Lib.hid ⟨by first | exact u_0 | (simp [go_sem, World.cell?_alloc_past, *]; done), by first | exact u_0f | (simp [go_sem, World.cell?_alloc_past, *]; done), by first | exact u_1 | (simp [go_sem, World.cell?_alloc_past, *]; done), by first | exact u_1f | (simp [go_sem, World.cell?_alloc_past, *]; done)⟩, Lib.hid (show OwnCls _ (w1.heap.size + 1) _ _ _ from (show World.ownsRow _ (w1.heap.size + 1) _ _ _ _ _ from by repeat (first | exact HO.out | with_reducible refine own_box ?_ (by omega) | with_reducible refine World.ownsRow.drew ?_ | refine own_keep ?_ (Ext.alloc (Ext.refl _) _) | refine own_keep ?_ (Ext.drewN (Ext.refl _) _)))), Lib.hid (show OwnLoss _ (w1.heap.size + 1) _ _ _ from (show World.ownsRow _ (w1.heap.size + 1) _ _ _ _ _ from by repeat (first | exact HL.out | with_reducible refine own_box ?_ (by omega) | with_reducible refine World.ownsRow.drew ?_ | refine own_keep ?_ (Ext.alloc (Ext.refl _) _) | refine own_keep ?_ (Ext.drewN (Ext.refl _) _)))), Lib.hid (show OwnPos _ (w1.heap.size + 1) _ _ _ from (show World.ownsRow _ (w1.heap.size + 1) _ _ _ _ _ from by repeat (first | exact HP.out | with_reducible refine own_box ?_ (by omega) | with_reducible refine World.ownsRow.drew ?_ | refine own_keep ?_ (Ext.alloc (Ext.refl _) _) | refine own_keep ?_ (Ext.drewN (Ext.refl _) _)))), Lib.hid zSlTac4_3, Lib.hid zSlTac4_2, by first | omega | (simp; done) | (simp; omega), Lib.hid zxt⟩
 have hkn : (k : Int) < (cl.length : Int) := by omega
 have hkl : k < cl.length := by omega
 obtain ⟨b1, o1, rfl, hb1, hc_x⟩ := HS.out.sl.rec_ clsC_len (show 0 < cl.length from by omega)
 obtain ⟨xw, hl_x⟩ : ∃ x, cl[k]? = some x := ⟨_, List.getElem?_eq_getElem (by omega)⟩
 have x_0 := hc_x (k) xw hl_x 0 _ rfl
 have x_1 := hc_x (k) xw hl_x 1 _ rfl
 have x_2 := hc_x (k) xw hl_x 2 _ rfl
 have x_3 := hc_x (k) xw hl_x 3 _ rfl
 have x_4 := hc_x (k) xw hl_x 4 _ rfl
 have x_5 := hc_x (k) xw hl_x 5 _ rfl
 obtain ⟨xv, xs, xp, xf, xt, xh⟩ := xw
 simp only at x_0 x_1 x_2 x_3 x_4 x_5
 rw [Nat.add_zero] at x_0
 rw [← Nat.add_assoc] at x_1 x_2 x_3 x_4 x_5
 have HC := Lib.hid hl_x
 have hsum := HI.out.sum HK.out.1 HK.out.2.1 HK.out.2.2.1 p1 hl_x
 have hgd := HK.out.1.cls _ (List.mem_of_getElem? hl_x)
 have hgood := good_pool hgd (HK.out.2.1 _ (List.mem_of_getElem? hl_x))
 have hgz : ¬ (xt = 0 ∧ xh = 0) := hgd.2.2
 have CT := Lib.hid (fun w => rBk xv xs xp xf v h hh1 w)
 obtain ⟨BB, hBB⟩ : ∃ B, B = bkdB xv xs xp xf v h 0 := ⟨_, rfl⟩
 rw [← hBB] at CT
 have CU := Lib.hid (fun w => pCut_any xt xh p hgood.wt hgood.ws HK.out.2.2 w)
 obtain ⟨cT, hcT⟩ : ∃ z, z = cutT xt xh p := ⟨_, rfl⟩
 obtain ⟨cS, hcS⟩ : ∃ z, z = cutS xt xh p := ⟨_, rfl⟩
 obtain ⟨cN, hcN⟩ : ∃ z, z = cutN xt xh p := ⟨_, rfl⟩
 obtain ⟨cE, hcE⟩ : ∃ z, z = cutE xt xh p := ⟨_, rfl⟩
 have HU := Lib.hid (And.intro hBB (And.intro hcT (And.intro hcS hcN)))
 rw [← hcT, ← hcS, ← hcN, ← hcE] at CU
 have hnw : IntKind.u64.wrap (N + cN) = N + cN := by rw [hcN]; exact IntWalk.u64_in _ (by omega)
 have hLL := HI.out.clen
 have HKK := Lib.hid (And.intro hkk (And.intro hg hz))
 have hbw := HS.out.2 (by omega) b1 o1 none rfl
 have hb1s : ¬ b1 = wr.heap.size := by omega
 have pq3 := pol_ne
 have pq4 := pol_eqg
 have NO : Hid (∀ j, (Value.slice B3 CL.length d3).ownBlock = some j → ¬ j = wr.heap.size) := Lib.hid (fun j hj => by have h9 := own_rng HO.out j hj; omega)
 have NL : Hid (∀ j, (Value.slice A7 LS.length c7).ownBlock = some j → ¬ j = wr.heap.size) := Lib.hid (fun j hj => by have h9 := own_rng HL.out j hj; omega)
 clear hl_x hc_x hsum hgd hgood hBB hcT hcS hcN hcE hkk hg hz hkl
 go_wp2_with fail
 (with_reducible refine (CT.out _).mono ?_)
 rintro e w61 ⟨rfl, hx61⟩
 replace h_0f := zf hx61 h_0 h_0f
 replace h_1f := zf hx61 h_1 h_1f
 replace h_0 := zh hx61 h_0
 replace h_1 := zh hx61 h_1
 replace r_0f := zf hx61 r_0 r_0f
 replace r_1f := zf hx61 r_1 r_1f
 replace r_0 := zh hx61 r_0
 replace r_1 := zh hx61 r_1
 replace u_0f := zf hx61 u_0 u_0f
 replace u_1f := zf hx61 u_1 u_1f
 replace u_0 := zh hx61 u_0
 replace u_1 := zh hx61 u_1
 have c0_4f : w61.frozen? ⟨wr.heap.size, 4, none⟩ = false := hx61.froz (v := .int .u64 xt) zcv zcv
 have c0_5f : w61.frozen? ⟨wr.heap.size, 5, none⟩ = false := hx61.froz (v := .int .u64 xh) zcv zcv
 have c0_0 : w61.cell? ⟨wr.heap.size, 0, none⟩ = some (.int .i64 xv) := hx61.has zcv
 have c0_1 : w61.cell? ⟨wr.heap.size, 1, none⟩ = some (.int .i64 xs) := hx61.has zcv
 have c0_2 : w61.cell? ⟨wr.heap.size, 2, none⟩ = some (.int .i64 xp) := hx61.has zcv
 have c0_3 : w61.cell? ⟨wr.heap.size, 3, none⟩ = some (.int .i64 xf) := hx61.has zcv
 have c0_4 : w61.cell? ⟨wr.heap.size, 4, none⟩ = some (.int .u64 xt) := hx61.has zcv
 have c0_5 : w61.cell? ⟨wr.heap.size, 5, none⟩ = some (.int .u64 xh) := hx61.has zcv
 have z61 := hx61.size
 try simp at z61
 have lt_h_c0 := zl w.heap.size wr.heap.size
 have lt_r_c0 := zl (w.heap.size + 1) wr.heap.size
 have lt_u_c0 := zl w1.heap.size wr.heap.size
 have rh := zr w.heap.size w61
 have rr := zr (w.heap.size + 1) w61
 have ru := zr w1.heap.size w61
 have rc0 := zr wr.heap.size w61
 replace HO := Lib.hid (HO.out.ext (Ext.trans zxt hx61))
 replace HL := Lib.hid (HL.out.ext (Ext.trans zxt hx61))
 replace HS := Lib.hid (HS.out.ext (Ext.trans zxt hx61))
 replace HT := Lib.hid (HT.out.ext (Ext.trans zxt hx61))
 have X61 : Hid (Ext w w61) := Lib.hid (Ext.trans zxt hx61)
 clear x_0 x_1 x_2 x_5 x_4 x_3 XR hx61
 rcases Bool.eq_false_or_eq_true BB with hb | hb <;> subst hb
 ·have HCC := Lib.hid (HI.out.hit HC.out (by first | exact HU.out.1.symm | exact HU.out.1))
  have hap := NL.out
  go_wp2_with fail
  (with_reducible refine (CU.out _).mono ?_)
  rintro e w62 ⟨rfl, hx62⟩
  replace h_0f := zf hx62 h_0 h_0f
  replace h_1f := zf hx62 h_1 h_1f
  replace h_0 := zh hx62 h_0
  replace h_1 := zh hx62 h_1
  replace r_0f := zf hx62 r_0 r_0f
  replace r_1f := zf hx62 r_1 r_1f
  replace r_0 := zh hx62 r_0
  replace r_1 := zh hx62 r_1
  replace u_0f := zf hx62 u_0 u_0f
  replace u_1f := zf hx62 u_1 u_1f
  replace u_0 := zh hx62 u_0
  replace u_1 := zh hx62 u_1
  replace c0_4f := zf hx62 c0_4 c0_4f
  replace c0_5f := zf hx62 c0_5 c0_5f
  replace c0_0 := zh hx62 c0_0
  replace c0_1 := zh hx62 c0_1
  replace c0_2 := zh hx62 c0_2
  replace c0_3 := zh hx62 c0_3
  replace c0_4 := zh hx62 c0_4
  replace c0_5 := zh hx62 c0_5
  have z62 := hx62.size
  try simp at z62
  replace rh := zr w.heap.size w62
  replace rr := zr (w.heap.size + 1) w62
  replace ru := zr w1.heap.size w62
  replace rc0 := zr wr.heap.size w62
  replace HO := Lib.hid (HO.out.ext (Ext.trans zxt hx62))
  replace HL := Lib.hid (HL.out.ext (Ext.trans zxt hx62))
  replace HS := Lib.hid (HS.out.ext (Ext.trans zxt hx62))
  replace HT := Lib.hid (HT.out.ext (Ext.trans zxt hx62))
  have X62 : Hid (Ext w w62) := Lib.hid (Ext.trans zxt hx62)
  clear X61 hx62
  have hap0 := hap
  go_wp2_with (
   at_builtin
   generalize hw8 : (w62.setCell ⟨wr.heap.size, 4, none⟩ (.int .u64 cT)).setCell ⟨wr.heap.size, 5, none⟩ (.int .u64 cS) = v8
   have hb8 : But (· = wr.heap.size) w62 v8 := by rw [← hw8]; exact But.setG (But.setG (But.refl _ _) _) _
   replace c0_0 : v8.cell? ⟨wr.heap.size, 0, none⟩ = some (.int .i64 xv) := by rw [← hw8]; simp [go_sem, World.cell?_alloc_past, c0_0, rc0]
   replace c0_1 : v8.cell? ⟨wr.heap.size, 1, none⟩ = some (.int .i64 xs) := by rw [← hw8]; simp [go_sem, World.cell?_alloc_past, c0_1, rc0]
   replace c0_2 : v8.cell? ⟨wr.heap.size, 2, none⟩ = some (.int .i64 xp) := by rw [← hw8]; simp [go_sem, World.cell?_alloc_past, c0_2, rc0]
   replace c0_3 : v8.cell? ⟨wr.heap.size, 3, none⟩ = some (.int .i64 xf) := by rw [← hw8]; simp [go_sem, World.cell?_alloc_past, c0_3, rc0]
   have c0_4' : v8.cell? ⟨wr.heap.size, 4, none⟩ = some (.int .u64 cT) := by rw [← hw8]; simp [go_sem, World.cell?_alloc_past, c0_4, c0_5, rc0]
   have c0_5' : v8.cell? ⟨wr.heap.size, 5, none⟩ = some (.int .u64 cS) := by rw [← hw8]; simp [go_sem, World.cell?_alloc_past, c0_4, c0_5, rc0]
   replace c0_4 := c0_4'
   replace c0_5 := c0_5'
   clear c0_4' c0_5'
   replace h_0f := hb8.froz (by show ¬ _ = _; omega) h_0 h_0f
   replace h_0 := hb8.has (by show ¬ _ = _; omega) h_0
   replace h_1f := hb8.froz (by show ¬ _ = _; omega) h_1 h_1f
   replace h_1 := hb8.has (by show ¬ _ = _; omega) h_1
   replace r_0f := hb8.froz (by show ¬ _ = _; omega) r_0 r_0f
   replace r_0 := hb8.has (by show ¬ _ = _; omega) r_0
   replace r_1f := hb8.froz (by show ¬ _ = _; omega) r_1 r_1f
   replace r_1 := hb8.has (by show ¬ _ = _; omega) r_1
   replace u_0f := hb8.froz (by show ¬ _ = _; omega) u_0 u_0f
   replace u_0 := hb8.has (by show ¬ _ = _; omega) u_0
   replace u_1f := hb8.froz (by show ¬ _ = _; omega) u_1 u_1f
   replace u_1 := hb8.has (by show ¬ _ = _; omega) u_1
   replace HO := Lib.hid (OwnCls.but HO.out hb8 NO.out)
   replace HL := Lib.hid (OwnLoss.but HL.out hb8 NL.out)
   replace HS := Lib.hid (SlB.but HS.out hb8 (fun j hj => by have h9 : j = wr.heap.size := hj; omega))
   replace HT := Lib.hid (SlB.but HT.out hb8 (fun j hj => by have h9 : j = wr.heap.size := hj; omega))
   have X8 : Hid (Ext w v8) := Lib.hid (Below.trans X62.out (hb8.below (Ext.size X62.out) (fun k hk hh => by have h9 : k = wr.heap.size := hh; omega)))
   have hz8 := hb8.size
   have HS8 := Lib.hid (show w62.heap.size = v8.heap.size from by rw [← hw8]; simp)
   clear hw8 hb8 X62
   have rh8 : w.heap.size < v8.heap.size := by omega
   have rha8 : w.heap.size < v8.heap.size + 1 := by omega
   have rhb8 : w.heap.size < v8.heap.size + 1 + 1 := by omega
   have rhc8 : w.heap.size < v8.heap.size + 1 + 1 + 1 := by omega
   have rhn8 : ¬ w.heap.size = v8.heap.size := by omega
   have rr8 : w.heap.size + 1 < v8.heap.size := by omega
   have rra8 : w.heap.size + 1 < v8.heap.size + 1 := by omega
   have rrb8 : w.heap.size + 1 < v8.heap.size + 1 + 1 := by omega
   have rrc8 : w.heap.size + 1 < v8.heap.size + 1 + 1 + 1 := by omega
   have rrn8 : ¬ w.heap.size + 1 = v8.heap.size := by omega
   have ru8 : w1.heap.size < v8.heap.size := by omega
   have rua8 : w1.heap.size < v8.heap.size + 1 := by omega
   have rub8 : w1.heap.size < v8.heap.size + 1 + 1 := by omega
   have ruc8 : w1.heap.size < v8.heap.size + 1 + 1 + 1 := by omega
   have run8 : ¬ w1.heap.size = v8.heap.size := by omega
   have rc08 : wr.heap.size < v8.heap.size := by omega
   have rc0a8 : wr.heap.size < v8.heap.size + 1 := by omega
   have rc0b8 : wr.heap.size < v8.heap.size + 1 + 1 := by omega
   have rc0c8 : wr.heap.size < v8.heap.size + 1 + 1 + 1 := by omega
   have rc0n8 : ¬ wr.heap.size = v8.heap.size := by omega
   refine wpList_append_slB _ rfl _ _ 33 rfl (w1.heap.size + 1) 73 iLoss (.agg #[.int .i64 0, .int .i64 0, .int .i64 0, .int .i64 0, .int .u64 0]) 5 40 Tryz.underlying33 iLoss_0 iLoss_1 iLoss_2 iLoss_3 rfl (by decide) (.slice A7 LS.length c7) LS.length (LS.flatMap lossC) (by rfl) ((HL.out.ext zxt)) _ 1 _ (#[.int .i64 xv, .int .i64 xs, .int .i64 xp, .int .i64 xf, .int .u64 cN].toList) (by first | rfl | (simp [Act.eval, go_sem]; done) | (simp [Act.eval, go_sem]; first | exact HS8.out | (have := HS8.out; omega))) (sl_new _ 73 5 #[.int .i64 xv, .int .i64 xs, .int .i64 xp, .int .i64 xf, .int .u64 cN] 1 rfl (by decide)) (by intro u hu; simp at hu; rcases hu with rfl | rfl | rfl | rfl | rfl <;> rfl) (by omega) (by decide) (by (try simp); omega) ?_
   intro v63 w63 hown63 hx63 hn63
   refine Hid.out ?_)
  refine Lib.hid ?_
  obtain ⟨A63, c63, rfl, hnil63, hO63⟩ := own_app (f := lossC) (xv, xs, xp, xf, cN) hown63 rfl rfl
  have hap2 : ∀ j, (Value.slice A63 (LS ++ [(xv, xs, xp, xf, cN)]).length c63).ownBlock = some j → ¬ j = wr.heap.size := fun j hj => by rcases hn63 j hj with h9 | h9; exact hap j h9; (try simp at h9); omega
  obtain ⟨L63, hL63⟩ : ∃ l, l = LS ++ [(xv, xs, xp, xf, cN)] := ⟨_, rfl⟩
  rw [← hL63] at hO63 hap2 ⊢
  replace hap := hap2
  clear hap2
  have HL63 := Lib.hid hL63
  have hNL63 : L63.length = LS.length + 1 := by rw [hL63, List.length_append]; rfl
  clear hown63 hn63 hnil63 hL63
  have hsz63 := hx63.size
  try simp at hsz63
  replace h_0f := zfb hx63 h_0 h_0f (ne := zSlTac4_4)
  replace h_1f := zfb hx63 h_1 h_1f (ne := zSlTac4_4)
  replace h_0 := zhb hx63 h_0 (ne := zSlTac4_4)
  replace h_1 := zhb hx63 h_1 (ne := zSlTac4_4)
  replace r_0f := zfb hx63 r_0 r_0f (ne := zSlTac4_4)
  replace r_1f := zfb hx63 r_1 r_1f (ne := zSlTac4_4)
  replace r_0 := zhb hx63 r_0 (ne := zSlTac4_4)
  replace r_1 := zhb hx63 r_1 (ne := zSlTac4_4)
  replace u_0f := zfb hx63 u_0 u_0f (ne := zSlTac4_4)
  replace u_1f := zfb hx63 u_1 u_1f (ne := zSlTac4_4)
  replace u_0 := zhb hx63 u_0 (ne := zSlTac4_4)
  replace u_1 := zhb hx63 u_1 (ne := zSlTac4_4)
  replace c0_0 := zhb hx63 c0_0 (ne := zSlTac4_4)
  replace c0_1 := zhb hx63 c0_1 (ne := zSlTac4_4)
  replace c0_2 := zhb hx63 c0_2 (ne := zSlTac4_4)
  replace c0_3 := zhb hx63 c0_3 (ne := zSlTac4_4)
  replace c0_4 : w63.cell? ⟨wr.heap.size, 4, none⟩ = some (.int .u64 cT) := hx63.has zSlTac4_4 zcv
  replace c0_5 : w63.cell? ⟨wr.heap.size, 5, none⟩ = some (.int .u64 cS) := hx63.has zSlTac4_4 zcv
  have z63 := hx63.size
  try simp at z63
  replace rh := zr w.heap.size w63
  replace rr := zr (w.heap.size + 1) w63
  replace ru := zr w1.heap.size w63
  replace rc0 := zr wr.heap.size w63
  have X63 : Hid (Ext w w63) := Lib.hid (have hX := (show Ext w _ from zxt); Below.trans hX (hx63.below (Ext.size hX) (fun k hk hh => by have hh2 := own_rng HL.out _ hh; omega)))
  replace HO := Lib.hid ((HO.out.ext zxt).but hx63 (own_apart HO.out HL.out (fun e => loss_cls e.symm)))
  replace HS := Lib.hid ((HS.out.ext zxt).but hx63 (fun k hk => by have hh2 := own_rng HL.out _ hk; omega))
  replace HT := Lib.hid ((HT.out.ext zxt).but hx63 (fun k hk => by have hh2 := own_rng HL.out _ hk; omega))
  clear HL
  have HL := Lib.hid (show OwnLoss _ (w1.heap.size + 1) _ _ _ from hO63)
  clear c0_5f c0_4f hsz63 X8 hx63
  clear hap0
  clear hO63
  by_cases hzz : ¬ (cT = 0 ∧ cS = 0)
  ·have hzb := two_not_false hzz
   have HN1 := Lib.hid (HCC.out.2 (by rw [← HU.out.2.1, ← HU.out.2.2.1]; exact hzz))
   rw [← HU.out.2.1, ← HU.out.2.2.1, ← HU.out.2.2.2] at HN1
   clear hzz
   clear hap
   have hap := NO.out
   have hap0 := hap
   go_wp2_with (at_builtin; refine wpList_append_slB _ rfl _ _ 22 rfl (w1.heap.size + 1) 79 iCls (.agg #[.int .i64 0, .int .i64 0, .int .i64 0, .int .i64 0, .int .u64 0, .int .u64 0]) 6 48 Tryz.underlying22 iCls_0 iCls_1 iCls_2 iCls_3 rfl (by decide) (.slice B3 CL.length d3) CL.length (CL.flatMap clsC) (by rfl) ((HO.out.ext zxt)) _ 1 _ (#[.int .i64 xv, .int .i64 xs, .int .i64 xp, .int .i64 xf, .int .u64 cT, .int .u64 cS].toList) (by first | rfl | (simp [Act.eval, go_sem]; done)) (sl_new _ 79 6 #[.int .i64 xv, .int .i64 xs, .int .i64 xp, .int .i64 xf, .int .u64 cT, .int .u64 cS] 1 rfl (by decide)) (by intro u hu; simp at hu; rcases hu with rfl | rfl | rfl | rfl | rfl | rfl <;> rfl) (by omega) (by decide) (by (try simp); omega) ?_; intro v64 w64 hown64 hx64 hn64; refine Hid.out ?_)
   refine Lib.hid ?_
   obtain ⟨A64, c64, rfl, hnil64, hO64⟩ := own_app (f := clsC) (xv, xs, xp, xf, cT, cS) hown64 rfl rfl
   have hap2 : ∀ j, (Value.slice A64 (CL ++ [(xv, xs, xp, xf, cT, cS)]).length c64).ownBlock = some j → ¬ j = wr.heap.size := fun j hj => by rcases hn64 j hj with h9 | h9; exact hap j h9; (try simp at h9); omega
   obtain ⟨L64, hL64⟩ : ∃ l, l = CL ++ [(xv, xs, xp, xf, cT, cS)] := ⟨_, rfl⟩
   rw [← hL64] at hO64 hap2 ⊢
   replace hap := hap2
   clear hap2
   have HL64 := Lib.hid hL64
   have hNL64 : L64.length = CL.length + 1 := by rw [hL64, List.length_append]; rfl
   clear hown64 hn64 hnil64 hL64
   have hsz64 := hx64.size
   try simp at hsz64
   replace h_0f := zfb hx64 h_0 h_0f (ne := zSlTac4_0)
   replace h_1f := zfb hx64 h_1 h_1f (ne := zSlTac4_0)
   replace h_0 := zhb hx64 h_0 (ne := zSlTac4_0)
   replace h_1 := zhb hx64 h_1 (ne := zSlTac4_0)
   replace r_0f := zfb hx64 r_0 r_0f (ne := zSlTac4_0)
   replace r_1f := zfb hx64 r_1 r_1f (ne := zSlTac4_0)
   replace r_0 := zhb hx64 r_0 (ne := zSlTac4_0)
   replace r_1 := zhb hx64 r_1 (ne := zSlTac4_0)
   replace u_0f := zfb hx64 u_0 u_0f (ne := zSlTac4_0)
   replace u_1f := zfb hx64 u_1 u_1f (ne := zSlTac4_0)
   replace u_0 := zhb hx64 u_0 (ne := zSlTac4_0)
   replace u_1 := zhb hx64 u_1 (ne := zSlTac4_0)
   replace c0_0 := zhb hx64 c0_0 (ne := zSlTac4_0)
   replace c0_1 := zhb hx64 c0_1 (ne := zSlTac4_0)
   replace c0_2 := zhb hx64 c0_2 (ne := zSlTac4_0)
   replace c0_3 := zhb hx64 c0_3 (ne := zSlTac4_0)
   replace c0_4 := zhb hx64 c0_4 (ne := zSlTac4_0)
   replace c0_5 := zhb hx64 c0_5 (ne := zSlTac4_0)
   have z64 := hx64.size
   try simp at z64
   replace rh := zr w.heap.size w64
   replace rr := zr (w.heap.size + 1) w64
   replace ru := zr w1.heap.size w64
   replace rc0 := zr wr.heap.size w64
   have X64 : Hid (Ext w w64) := Lib.hid (have hX := (show Ext w _ from zxt); Below.trans hX (hx64.below (Ext.size hX) (fun k hk hh => by have hh2 := own_rng HO.out _ hh; omega)))
   replace HS := Lib.hid ((HS.out.ext zxt).but hx64 (fun k hk => by have hh2 := own_rng HO.out _ hk; omega))
   replace HT := Lib.hid ((HT.out.ext zxt).but hx64 (fun k hk => by have hh2 := own_rng HO.out _ hk; omega))
   replace HL := Lib.hid ((HL.out.ext zxt).but hx64 (own_apart HL.out HO.out loss_cls))
   clear HO
   have HO := Lib.hid (show OwnCls _ (w1.heap.size + 1) _ _ _ from hO64)
   clear hsz64 X63 hx64
   clear hap0
   clear hO64
   go_wp2_with fail
   go_roundg (gk - 1)
   case measure => have := HKK.out; omega
   exact ⟨by have := HKK.out; omega, num_eq (by have := HKK.out; omega), A64, A63, c64, c63, L64, L63, (N + cN), (by first | rfl | (simp [hNL63, hNL64]; done)), rfl, by rw [show cl.length - (gk - 1) = k + 1 from by have := HKK.out; omega, HL63.out, HL64.out]; exact HN1, Lib.hid ⟨by first | exact h_0 | (simp [go_sem, World.cell?_alloc_past, *]; done), by first | exact h_0f | (simp [go_sem, World.cell?_alloc_past, *]; done), by first | exact h_1 | (simp [go_sem, World.cell?_alloc_past, *]; done), by first | exact h_1f | (simp [go_sem, World.cell?_alloc_past, *]; done)⟩, Lib.hid ⟨by first | exact r_0 | (simp [go_sem, World.cell?_alloc_past, *]; done), by first | exact r_0f | (simp [go_sem, World.cell?_alloc_past, *]; done), by first | exact r_1 | (simp [go_sem, World.cell?_alloc_past, *]; done), by first | exact r_1f | (simp [go_sem, World.cell?_alloc_past, *]; done)⟩, Lib.hid ⟨by first | exact u_0 | (simp [go_sem, World.cell?_alloc_past, *]; done), by first | exact u_0f | (simp [go_sem, World.cell?_alloc_past, *]; done), by first | exact u_1 | (simp [go_sem, World.cell?_alloc_past, *]; done), by first | exact u_1f | (simp [go_sem, World.cell?_alloc_past, *]; done)⟩, Lib.hid (show OwnCls _ (w1.heap.size + 1) _ _ _ from (show World.ownsRow _ (w1.heap.size + 1) _ _ _ _ _ from by repeat (first | exact HO.out | with_reducible refine own_box ?_ (by omega) | with_reducible refine World.ownsRow.drew ?_ | refine own_keep ?_ (Ext.alloc (Ext.refl _) _) | refine own_keep ?_ (Ext.drewN (Ext.refl _) _)))), Lib.hid (show OwnLoss _ (w1.heap.size + 1) _ _ _ from (show World.ownsRow _ (w1.heap.size + 1) _ _ _ _ _ from by repeat (first | exact HL.out | with_reducible refine own_box ?_ (by omega) | with_reducible refine World.ownsRow.drew ?_ | refine own_keep ?_ (Ext.alloc (Ext.refl _) _) | refine own_keep ?_ (Ext.drewN (Ext.refl _) _)))), Lib.hid zSlTac4_3, Lib.hid zSlTac4_2, by first | omega | (simp; done) | (simp; omega), Lib.hid zxt⟩
  have hzz2 : cT = 0 ∧ cS = 0 := Classical.byContradiction hzz
  have hzb := two_not_true hzz2
  have HN1 := Lib.hid (HCC.out.1 ⟨HU.out.2.1.symm.trans hzz2.1, HU.out.2.2.1.symm.trans hzz2.2⟩)
  rw [← HU.out.2.2.2] at HN1
  clear hzz hzz2
  go_wp2_with fail
  go_roundg (gk - 1)
  case measure => have := HKK.out; omega
  exact ⟨by have := HKK.out; omega, num_eq (by have := HKK.out; omega), B3, A63, d3, c63, CL, L63, (N + cN), (by first | rfl | (simp [hNL63]; done)), rfl, by rw [show cl.length - (gk - 1) = k + 1 from by have := HKK.out; omega, HL63.out]; exact HN1, Lib.hid ⟨by first | exact h_0 | (simp [go_sem, World.cell?_alloc_past, *]; done), by first | exact h_0f | (simp [go_sem, World.cell?_alloc_past, *]; done), by first | exact h_1 | (simp [go_sem, World.cell?_alloc_past, *]; done), by first | exact h_1f | (simp [go_sem, World.cell?_alloc_past, *]; done)⟩, Lib.hid ⟨by first | exact r_0 | (simp [go_sem, World.cell?_alloc_past, *]; done), by first | exact r_0f | (simp [go_sem, World.cell?_alloc_past, *]; done), by first | exact r_1 | (simp [go_sem, World.cell?_alloc_past, *]; done), by first | exact r_1f | (simp [go_sem, World.cell?_alloc_past, *]; done)⟩, Lib.hid ⟨by first | exact u_0 | (simp [go_sem, World.cell?_alloc_past, *]; done), by first | exact u_0f | (simp [go_sem, World.cell?_alloc_past, *]; done), by first | exact u_1 | (simp [go_sem, World.cell?_alloc_past, *]; done), by first | exact u_1f | (simp [go_sem, World.cell?_alloc_past, *]; done)⟩, Lib.hid (show OwnCls _ (w1.heap.size + 1) _ _ _ from (show World.ownsRow _ (w1.heap.size + 1) _ _ _ _ _ from by repeat (first | exact HO.out | with_reducible refine own_box ?_ (by omega) | with_reducible refine World.ownsRow.drew ?_ | refine own_keep ?_ (Ext.alloc (Ext.refl _) _) | refine own_keep ?_ (Ext.drewN (Ext.refl _) _)))), Lib.hid (show OwnLoss _ (w1.heap.size + 1) _ _ _ from (show World.ownsRow _ (w1.heap.size + 1) _ _ _ _ _ from by repeat (first | exact HL.out | with_reducible refine own_box ?_ (by omega) | with_reducible refine World.ownsRow.drew ?_ | refine own_keep ?_ (Ext.alloc (Ext.refl _) _) | refine own_keep ?_ (Ext.drewN (Ext.refl _) _)))), Lib.hid zSlTac4_3, Lib.hid zSlTac4_2, by first | omega | (simp; done) | (simp; omega), Lib.hid zxt⟩
 have HN1 := Lib.hid (HI.out.skip HC.out (by first | exact HU.out.1.symm | exact HU.out.1))
 have hzb := two_not_false hgz
 have hap := NO.out
 have hap0 := hap
 go_wp2_with (at_builtin; refine wpList_append_slB _ rfl _ _ 22 rfl (w1.heap.size + 1) 79 iCls (.agg #[.int .i64 0, .int .i64 0, .int .i64 0, .int .i64 0, .int .u64 0, .int .u64 0]) 6 48 Tryz.underlying22 iCls_0 iCls_1 iCls_2 iCls_3 rfl (by decide) (.slice B3 CL.length d3) CL.length (CL.flatMap clsC) (by rfl) ((HO.out.ext zxt)) _ 1 _ (#[.int .i64 xv, .int .i64 xs, .int .i64 xp, .int .i64 xf, .int .u64 xt, .int .u64 xh].toList) (by first | rfl | (simp [Act.eval, go_sem]; done)) (sl_new _ 79 6 #[.int .i64 xv, .int .i64 xs, .int .i64 xp, .int .i64 xf, .int .u64 xt, .int .u64 xh] 1 rfl (by decide)) (by intro u hu; simp at hu; rcases hu with rfl | rfl | rfl | rfl | rfl | rfl <;> rfl) (by omega) (by decide) (by (try simp); omega) ?_; intro v62 w62 hown62 hx62 hn62; refine Hid.out ?_)
 refine Lib.hid ?_
 obtain ⟨A62, c62, rfl, hnil62, hO62⟩ := own_app (f := clsC) (xv, xs, xp, xf, xt, xh) hown62 rfl rfl
 have hap2 : ∀ j, (Value.slice A62 (CL ++ [(xv, xs, xp, xf, xt, xh)]).length c62).ownBlock = some j → ¬ j = wr.heap.size := fun j hj => by rcases hn62 j hj with h9 | h9; exact hap j h9; (try simp at h9); omega
 obtain ⟨L62, hL62⟩ : ∃ l, l = CL ++ [(xv, xs, xp, xf, xt, xh)] := ⟨_, rfl⟩
 rw [← hL62] at hO62 hap2 ⊢
 replace hap := hap2
 clear hap2
 have HL62 := Lib.hid hL62
 have hNL62 : L62.length = CL.length + 1 := by rw [hL62, List.length_append]; rfl
 clear hown62 hn62 hnil62 hL62
 have hsz62 := hx62.size
 try simp at hsz62
 replace h_0f := zfb hx62 h_0 h_0f (ne := zSlTac4_0)
 replace h_1f := zfb hx62 h_1 h_1f (ne := zSlTac4_0)
 replace h_0 := zhb hx62 h_0 (ne := zSlTac4_0)
 replace h_1 := zhb hx62 h_1 (ne := zSlTac4_0)
 replace r_0f := zfb hx62 r_0 r_0f (ne := zSlTac4_0)
 replace r_1f := zfb hx62 r_1 r_1f (ne := zSlTac4_0)
 replace r_0 := zhb hx62 r_0 (ne := zSlTac4_0)
 replace r_1 := zhb hx62 r_1 (ne := zSlTac4_0)
 replace u_0f := zfb hx62 u_0 u_0f (ne := zSlTac4_0)
 replace u_1f := zfb hx62 u_1 u_1f (ne := zSlTac4_0)
 replace u_0 := zhb hx62 u_0 (ne := zSlTac4_0)
 replace u_1 := zhb hx62 u_1 (ne := zSlTac4_0)
 replace c0_4f := zfb hx62 c0_4 c0_4f (ne := zSlTac4_0)
 replace c0_5f := zfb hx62 c0_5 c0_5f (ne := zSlTac4_0)
 replace c0_0 := zhb hx62 c0_0 (ne := zSlTac4_0)
 replace c0_1 := zhb hx62 c0_1 (ne := zSlTac4_0)
 replace c0_2 := zhb hx62 c0_2 (ne := zSlTac4_0)
 replace c0_3 := zhb hx62 c0_3 (ne := zSlTac4_0)
 replace c0_4 := zhb hx62 c0_4 (ne := zSlTac4_0)
 replace c0_5 := zhb hx62 c0_5 (ne := zSlTac4_0)
 have z62 := hx62.size
 try simp at z62
 replace rh := zr w.heap.size w62
 replace rr := zr (w.heap.size + 1) w62
 replace ru := zr w1.heap.size w62
 replace rc0 := zr wr.heap.size w62
 have X62 : Hid (Ext w w62) := Lib.hid (have hX := (show Ext w _ from zxt); Below.trans hX (hx62.below (Ext.size hX) (fun k hk hh => by have hh2 := own_rng HO.out _ hh; omega)))
 replace HL := Lib.hid ((HL.out.ext zxt).but hx62 (own_apart HL.out HO.out loss_cls))
 replace HS := Lib.hid ((HS.out.ext zxt).but hx62 (fun k hk => by have hh2 := own_rng HO.out _ hk; omega))
 replace HT := Lib.hid ((HT.out.ext zxt).but hx62 (fun k hk => by have hh2 := own_rng HO.out _ hk; omega))
 clear HO
 have HO := Lib.hid (show OwnCls _ (w1.heap.size + 1) _ _ _ from hO62)
 clear hsz62 X61 hx62
 clear hap0
 clear hO62
 go_wp2_with fail
 go_roundg (gk - 1)
 case measure => have := HKK.out; omega
 exact ⟨by have := HKK.out; omega, num_eq (by have := HKK.out; omega), A62, A7, c62, c7, L62, LS, N, (by first | rfl | (simp [hNL62]; done)), rfl, by rw [show cl.length - (gk - 1) = k + 1 from by have := HKK.out; omega, HL62.out]; exact HN1, Lib.hid ⟨by first | exact h_0 | (simp [go_sem, World.cell?_alloc_past, *]; done), by first | exact h_0f | (simp [go_sem, World.cell?_alloc_past, *]; done), by first | exact h_1 | (simp [go_sem, World.cell?_alloc_past, *]; done), by first | exact h_1f | (simp [go_sem, World.cell?_alloc_past, *]; done)⟩, Lib.hid ⟨by first | exact r_0 | (simp [go_sem, World.cell?_alloc_past, *]; done), by first | exact r_0f | (simp [go_sem, World.cell?_alloc_past, *]; done), by first | exact r_1 | (simp [go_sem, World.cell?_alloc_past, *]; done), by first | exact r_1f | (simp [go_sem, World.cell?_alloc_past, *]; done)⟩, Lib.hid ⟨by first | exact u_0 | (simp [go_sem, World.cell?_alloc_past, *]; done), by first | exact u_0f | (simp [go_sem, World.cell?_alloc_past, *]; done), by first | exact u_1 | (simp [go_sem, World.cell?_alloc_past, *]; done), by first | exact u_1f | (simp [go_sem, World.cell?_alloc_past, *]; done)⟩, Lib.hid (show OwnCls _ (w1.heap.size + 1) _ _ _ from (show World.ownsRow _ (w1.heap.size + 1) _ _ _ _ _ from by repeat (first | exact HO.out | with_reducible refine own_box ?_ (by omega) | with_reducible refine World.ownsRow.drew ?_ | refine own_keep ?_ (Ext.alloc (Ext.refl _) _) | refine own_keep ?_ (Ext.drewN (Ext.refl _) _)))), Lib.hid (show OwnLoss _ (w1.heap.size + 1) _ _ _ from (show World.ownsRow _ (w1.heap.size + 1) _ _ _ _ _ from by repeat (first | exact HL.out | with_reducible refine own_box ?_ (by omega) | with_reducible refine World.ownsRow.drew ?_ | refine own_keep ?_ (Ext.alloc (Ext.refl _) _) | refine own_keep ?_ (Ext.drewN (Ext.refl _) _)))), Lib.hid zSlTac4_3, Lib.hid zSlTac4_2, by first | omega | (simp; done) | (simp; omega), Lib.hid zxt⟩
end
end Go.Proofs.YtkinchgjidpjnaaGreat
