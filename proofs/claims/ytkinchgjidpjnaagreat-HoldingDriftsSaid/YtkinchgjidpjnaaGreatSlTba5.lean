/- Tba, part 5 of 5: Ht2, Hw4, Hw5. Conditions stand in each lemma. -/
import Derived.Test.YtkinchgjidpjnaaGreatSlTba4
set_option linter.unusedVariables false
set_option linter.unusedSimpArgs false
set_option maxRecDepth 100000
set_option maxHeartbeats 64000000
namespace Go.Proofs.YtkinchgjidpjnaaGreat
section
open Go.RowKit Go.Shelf Go.ChangeShapes Go.WideShapes Go.Deep Go.Joins
theorem zSlTba5_0 {P : Prop} (h : P := by unfold OwnLoss; repeat (first | exact HL.out | refine own_set_ne ?_ (fun j hj hh => by have h9 := RL.out j hj; first | omega | (simp at h9; omega)) | refine own_keep (base := w.heap.size) ?_ (Ext.alloc (Ext.refl _) _) | with_reducible refine World.ownsRow.drew ?_)) : P := h
theorem zSlTba5_1 {P : Prop} (h : P := by unfold OwnPos; repeat (first | exact HR.out | refine own_set_ne ?_ (fun j hj hh => by have h9 := RR.out j hj; first | omega | (simp at h9; omega)) | refine own_keep (base := w.heap.size) ?_ (Ext.alloc (Ext.refl _) _) | with_reducible refine World.ownsRow.drew ?_)) : P := h
theorem zSlTba5_2 {P : Prop} (h : P := by unfold OwnCls; repeat (first | exact HD.out | refine own_set_ne ?_ (fun j hj hh => by have h9 := RD.out j hj; first | omega | (simp at h9; omega)) | refine own_keep (base := w.heap.size) ?_ (Ext.alloc (Ext.refl _) _) | with_reducible refine World.ownsRow.drew ?_)) : P := h
theorem zSlTba5_3 {P : Prop} (h : P := by (first | exact ⟨c1_0, c1_1⟩ | (simp [go_sem, World.cell?_alloc_past, *]; done))) : P := h
theorem zSlTba5_4 {P : Prop} (h : P := by first | exact Nat.le_refl _ | omega | (simp; done) | (simp; omega)) : P := h
theorem zSlTba5_5 {P : Prop} (h : P := by (first | exact ⟨c2_0, c2_1⟩ | (simp [go_sem, World.cell?_alloc_past, *]; done))) : P := h
attribute [local go_sem] Oper.semAt_some

def valG (cl ps : List I6) (k : List Int) : Int × Int := match getK kP ps k with
 | none => (0, 10)
 | some x => (wvl cl x, 0)
def valH (cl ps : List I6) (k : List Int) : Int × Int := if chkH cl ps ≠ 0 then (0, chkH cl ps) else valG cl ps k
theorem getK_pre_none {ps : List I6} {q : List Int} (h : ∀ y ∈ ps, kP y ≠ q) : getK kP ps q = none := by
 unfold getK
 rw [List.find?_eq_none]
 intro x hx hk
 exact h x hx (by simpa using hk)
theorem getK_pre_some {ps pre : List I6} {x : I6} {q : List Int} (h : ∀ y ∈ pre, kP y ≠ q) (hx : kP x = q) (hp : pre ++ [x] <+: ps) : getK kP ps q = some x := by
 obtain ⟨t, rfl⟩ := hp
 unfold getK
 have h1 : pre.find? (fun y => kP y == q) = none := by
  rw [List.find?_eq_none]
  intro y hy hk
  exact h y hy (by simpa using hk)
 rw [List.find?_append, List.find?_append, h1]
 simp [hx]
theorem cell_put {A : World} {b o l : Nat} {v : Value} {ob : Obj} (h : A.cell? ⟨b, o, none⟩ = some v) (hl : b < l) : (A.putObj l ob).cell? ⟨b, o, none⟩ = some v := (but_putObj (S := fun k => k = l) A l ob rfl).has (by intro hh; have h9 : b = l := hh; omega) h
theorem froz_put {A : World} {b o l : Nat} {v : Value} {ob : Obj} (h : A.cell? ⟨b, o, none⟩ = some v) (hf : A.frozen? ⟨b, o, none⟩ = false) (hl : b < l) : (A.putObj l ob).frozen? ⟨b, o, none⟩ = false := (but_putObj (S := fun k => k = l) A l ob rfl).froz (by intro hh; have h9 : b = l := hh; omega) h hf
theorem ext_put {w A : World} {l : Nat} {ob : Obj} (h : Ext w A) (hl : w.heap.size ≤ l) : Ext w (A.putObj l ob) := Below.trans h ((but_putObj (S := fun k => k = l) A l ob rfl).below (Ext.size h) (fun k hk hh => by have h9 : k = l := hh; omega))
theorem cell_put2 {A : World} {b o l : Nat} {v : Value} {ob o' : Obj} (h : A.cell? ⟨b, o, none⟩ = some v) (hl : A.heap[l]? = some ob) (hnc : ob.isCells = false) : (A.putObj l o').cell? ⟨b, o, none⟩ = some v := (but_putObj (S := fun k => k = l) A l o' rfl).has (by intro hh; have h9 : b = l := hh; obtain ⟨o2, h2, h3⟩ := cells_of_cell h; simp only at h2; rw [h9, hl] at h2; obtain rfl := Option.some.inj h2; rw [hnc] at h3; cases h3) h
structure VI (b : Nat) (O V S P Q n e : Int) (w W : World) : Prop where
 o0 : W.cell? ⟨b, 0, none⟩ = some (.int .i64 O)
 s0 : W.cell? ⟨b + 1, 0, none⟩ = some (.int .i64 V)
 s1 : W.cell? ⟨b + 1, 1, none⟩ = some (.int .i64 S)
 s2 : W.cell? ⟨b + 1, 2, none⟩ = some (.int .i64 P)
 s3 : W.cell? ⟨b + 1, 3, none⟩ = some (.int .i64 Q)
 r0 : W.cell? ⟨b + 1 + 1, 0, none⟩ = some (.int .u64 n)
 f0 : W.frozen? ⟨b + 1 + 1, 0, none⟩ = false
 q0 : W.cell? ⟨b + 1 + 1 + 1, 0, none⟩ = some (.int .i64 e)
 g0 : W.frozen? ⟨b + 1 + 1 + 1, 0, none⟩ = false
 x : Ext w W
theorem VI.ext {b : Nat} {O V S P Q n e : Int} {w W W' : World} (h : VI b O V S P Q n e w W) (hx : Ext W W') : VI b O V S P Q n e w W' := ⟨hx.has h.o0, hx.has h.s0, hx.has h.s1, hx.has h.s2, hx.has h.s3, hx.has h.r0, hx.froz h.r0 h.f0, hx.has h.q0, hx.froz h.q0 h.g0, Ext.trans h.x hx⟩
theorem VI.put {b l : Nat} {O V S P Q n e : Int} {w W : World} {ob : Obj} (h : VI b O V S P Q n e w W) (hl : b + 3 < l) (hw : w.heap.size ≤ l) : VI b O V S P Q n e w (W.putObj l ob) := ⟨cell_put h.o0 (by omega), cell_put h.s0 (by omega), cell_put h.s1 (by omega), cell_put h.s2 (by omega), cell_put h.s3 (by omega), cell_put h.r0 (by omega), froz_put h.r0 h.f0 (by omega), cell_put h.q0 (by omega), froz_put h.q0 h.g0 (by omega), ext_put h.x hw⟩
theorem hValue_bad (n c n2 c2 : Nat) (A A2 : Option Addr) (cl ps : List I6) (O V S P Q E : Int) (w : World) (C1 : Hid (∀ w', Ext w w' → Calls Tryz.prog 14 #[.agg #[.slice A n c, .slice A2 n2 c2]] w' fun r w'' => r = .returned (.int .i64 E) ∧ Ext w' w'')) (he : ¬ E = 0) :
  Calls Tryz.prog 34 #[.agg #[.slice A n c, .slice A2 n2 c2], .int .i64 O, .agg #[.int .i64 V, .int .i64 S, .int .i64 P, .int .i64 Q]] w fun r w' => r = .returned (.tuple #[.int .u64 0, .int .i64 E]) ∧ Ext w w' := by
 have heb : (E != 0) = true := by simpa using he
 refine (callsIn_wide (n := 6)).1 ?_
 refine callsIn_of_wp_marks Tryz.func34 rfl trivial ?_ rfl
 simp only [Tryz.ntmps34, List.size_toArray, List.length_cons, List.length_nil, Nat.reduceAdd, Nat.reduceSub, Array.replicate_succ, Array.replicate_zero, List.push_toArray, List.append_toArray, List.nil_append, List.cons_append]
 gi_wp2_with fail
 refine ⟨trivial, ?_⟩
 (with_reducible refine (callsIn_wide.2 (C1.out _ zxt)).mono ?_)
 rintro e w1 ⟨rfl, hx1⟩
 have c3_0f : w1.frozen? ⟨w.heap.size + 1 + 1 + 1, 0, none⟩ = false := hx1.froz (v := .int .u64 0) zcv zcv
 have c3_0 : w1.cell? ⟨w.heap.size + 1 + 1 + 1, 0, none⟩ = some (.int .u64 0) := hx1.has zcv
 have c4_0f : w1.frozen? ⟨w.heap.size + 1 + 1 + 1 + 1, 0, none⟩ = false := hx1.froz (v := .int .i64 0) zcv zcv
 have c4_0 : w1.cell? ⟨w.heap.size + 1 + 1 + 1 + 1, 0, none⟩ = some (.int .i64 0) := hx1.has zcv
 have z1 := hx1.size
 try simp at z1
 have lt_c3_c4 : w.heap.size + 1 + 1 + 1 < w.heap.size + 1 + 1 + 1 + 1 := by omega
 have ne_c3_c4 : ¬ w.heap.size + 1 + 1 + 1 = w.heap.size + 1 + 1 + 1 + 1 := by omega
 have ne_c4_c3 : ¬ w.heap.size + 1 + 1 + 1 + 1 = w.heap.size + 1 + 1 + 1 := by omega
 have rc3 := zr (w.heap.size + 1 + 1 + 1) w1
 have rc4 := zr (w.heap.size + 1 + 1 + 1 + 1) w1
 have X1 : Hid (Ext w w1) := Lib.hid (Ext.trans zxt hx1)
 clear hx1 z1
 gi_wp2_with fail
 exact ⟨.tuple #[.int .u64 0, .int .i64 E], by simp [results, Tryz.results34, go_sem, World.cell?_alloc_past, *]; try rfl, rfl, zxt⟩
theorem hValue_ok (n c n2 c2 : Nat) (A A2 : Option Addr) (cl ps : List I6) (O V S P Q : Int) (w : World) (h : Sl w 6 A n c (cl.flatMap clsC)) (h2 : Sl w 6 A2 n2 c2 (ps.flatMap posC)) (hw : ∀ x ∈ cl, WdC x) (hw2 : ∀ x ∈ ps, WdP x) (C1 : Hid (∀ w', Ext w w' → Calls Tryz.prog 14 #[.agg #[.slice A n c, .slice A2 n2 c2]] w' fun r w'' => r = .returned (.int .i64 0) ∧ Ext w' w'')) :
  Calls Tryz.prog 34 #[.agg #[.slice A n c, .slice A2 n2 c2], .int .i64 O, .agg #[.int .i64 V, .int .i64 S, .int .i64 P, .int .i64 Q]] w fun r w' => r = .returned (.tuple #[.int .u64 (valG cl ps [O, V, S, P, Q]).1, .int .i64 (valG cl ps [O, V, S, P, Q]).2]) ∧ Ext w w' := by
 have HS := Lib.hid h.low
 have HT := Lib.hid h2.low
 have HW := Lib.hid (And.intro hw hw2)
 have hll := h2.rlen posC_len (by decide)
 have HLL := Lib.hid hll
 have pq1 := stm_eq
 have pq2 := stm_eqg
 obtain ⟨G, hG⟩ : ∃ G, G = valG cl ps [O, V, S, P, Q] := ⟨_, rfl⟩
 rw [← hG]
 obtain ⟨G1, G2⟩ := G
 have HG := Lib.hid hG
 clear hG
 clear h h2 hw hw2 hll
 refine (callsIn_wide (n := 6)).1 ?_
 refine callsIn_of_wp_marks Tryz.func34 rfl trivial ?_ rfl
 simp only [Tryz.ntmps34, List.size_toArray, List.length_cons, List.length_nil, Nat.reduceAdd, Nat.reduceSub, Array.replicate_succ, Array.replicate_zero, List.push_toArray, List.append_toArray, List.nil_append, List.cons_append]
 gi_wp2_with fail
 refine ⟨trivial, ?_⟩
 (with_reducible refine (callsIn_wide.2 (C1.out _ zxt)).mono ?_)
 rintro e w1 ⟨rfl, hx1⟩
 have c0_0 : w1.cell? ⟨w.heap.size, 0, none⟩ = some (.slice A n c) := hx1.has zcv
 have c0_1 : w1.cell? ⟨w.heap.size, 1, none⟩ = some (.slice A2 n2 c2) := hx1.has zcv
 have c1_0 : w1.cell? ⟨w.heap.size + 1, 0, none⟩ = some (.int .i64 O) := hx1.has zcv
 have c2_0 : w1.cell? ⟨w.heap.size + 1 + 1, 0, none⟩ = some (.int .i64 V) := hx1.has zcv
 have c2_1 : w1.cell? ⟨w.heap.size + 1 + 1, 1, none⟩ = some (.int .i64 S) := hx1.has zcv
 have c2_2 : w1.cell? ⟨w.heap.size + 1 + 1, 2, none⟩ = some (.int .i64 P) := hx1.has zcv
 have c2_3 : w1.cell? ⟨w.heap.size + 1 + 1, 3, none⟩ = some (.int .i64 Q) := hx1.has zcv
 have c3_0f : w1.frozen? ⟨w.heap.size + 1 + 1 + 1, 0, none⟩ = false := hx1.froz (v := .int .u64 0) zcv zcv
 have c3_0 : w1.cell? ⟨w.heap.size + 1 + 1 + 1, 0, none⟩ = some (.int .u64 0) := hx1.has zcv
 have c4_0f : w1.frozen? ⟨w.heap.size + 1 + 1 + 1 + 1, 0, none⟩ = false := hx1.froz (v := .int .i64 0) zcv zcv
 have c4_0 : w1.cell? ⟨w.heap.size + 1 + 1 + 1 + 1, 0, none⟩ = some (.int .i64 0) := hx1.has zcv
 have z1 := hx1.size
 try simp at z1
 have lt_c0_c1 : w.heap.size < w.heap.size + 1 := by omega
 have ne_c0_c1 : ¬ w.heap.size = w.heap.size + 1 := by omega
 have lt_c0_c2 : w.heap.size < w.heap.size + 1 + 1 := by omega
 have ne_c0_c2 : ¬ w.heap.size = w.heap.size + 1 + 1 := by omega
 have lt_c0_c3 : w.heap.size < w.heap.size + 1 + 1 + 1 := by omega
 have ne_c0_c3 : ¬ w.heap.size = w.heap.size + 1 + 1 + 1 := by omega
 have lt_c0_c4 : w.heap.size < w.heap.size + 1 + 1 + 1 + 1 := by omega
 have ne_c0_c4 : ¬ w.heap.size = w.heap.size + 1 + 1 + 1 + 1 := by omega
 have ne_c1_c0 : ¬ w.heap.size + 1 = w.heap.size := by omega
 have lt_c1_c2 : w.heap.size + 1 < w.heap.size + 1 + 1 := by omega
 have ne_c1_c2 : ¬ w.heap.size + 1 = w.heap.size + 1 + 1 := by omega
 have lt_c1_c3 : w.heap.size + 1 < w.heap.size + 1 + 1 + 1 := by omega
 have ne_c1_c3 : ¬ w.heap.size + 1 = w.heap.size + 1 + 1 + 1 := by omega
 have lt_c1_c4 : w.heap.size + 1 < w.heap.size + 1 + 1 + 1 + 1 := by omega
 have ne_c1_c4 : ¬ w.heap.size + 1 = w.heap.size + 1 + 1 + 1 + 1 := by omega
 have ne_c2_c0 : ¬ w.heap.size + 1 + 1 = w.heap.size := by omega
 have ne_c2_c1 : ¬ w.heap.size + 1 + 1 = w.heap.size + 1 := by omega
 have lt_c2_c3 : w.heap.size + 1 + 1 < w.heap.size + 1 + 1 + 1 := by omega
 have ne_c2_c3 : ¬ w.heap.size + 1 + 1 = w.heap.size + 1 + 1 + 1 := by omega
 have lt_c2_c4 : w.heap.size + 1 + 1 < w.heap.size + 1 + 1 + 1 + 1 := by omega
 have ne_c2_c4 : ¬ w.heap.size + 1 + 1 = w.heap.size + 1 + 1 + 1 + 1 := by omega
 have ne_c3_c0 : ¬ w.heap.size + 1 + 1 + 1 = w.heap.size := by omega
 have ne_c3_c1 : ¬ w.heap.size + 1 + 1 + 1 = w.heap.size + 1 := by omega
 have ne_c3_c2 : ¬ w.heap.size + 1 + 1 + 1 = w.heap.size + 1 + 1 := by omega
 have lt_c3_c4 : w.heap.size + 1 + 1 + 1 < w.heap.size + 1 + 1 + 1 + 1 := by omega
 have ne_c3_c4 : ¬ w.heap.size + 1 + 1 + 1 = w.heap.size + 1 + 1 + 1 + 1 := by omega
 have ne_c4_c0 : ¬ w.heap.size + 1 + 1 + 1 + 1 = w.heap.size := by omega
 have ne_c4_c1 : ¬ w.heap.size + 1 + 1 + 1 + 1 = w.heap.size + 1 := by omega
 have ne_c4_c2 : ¬ w.heap.size + 1 + 1 + 1 + 1 = w.heap.size + 1 + 1 := by omega
 have ne_c4_c3 : ¬ w.heap.size + 1 + 1 + 1 + 1 = w.heap.size + 1 + 1 + 1 := by omega
 have rc0 := zr w.heap.size w1
 have rc1 := zr (w.heap.size + 1) w1
 have rc2 := zr (w.heap.size + 1 + 1) w1
 have rc3 := zr (w.heap.size + 1 + 1 + 1) w1
 have rc4 := zr (w.heap.size + 1 + 1 + 1 + 1) w1
 replace HS := Lib.hid (HS.out.ext (Ext.trans zxt hx1))
 replace HT := Lib.hid (HT.out.ext (Ext.trans zxt hx1))
 have X1 : Hid (Ext w w1) := Lib.hid (Ext.trans zxt hx1)
 clear hx1
 gi_wp2_with fail
 refine ⟨trivial, (hworths_in _ _ trivial rfl _ _ _ _ _ _ _).mono ?_⟩
 rintro e w0 ⟨rfl, hw0⟩
 have hx0 : Ext w1 w0 := by rw [hw0]; exact (Ext.refl _).alloc _
 have hz0 : w0.heap.size = w1.heap.size + 1 := by rw [hw0]; simp
 have hc0 : w0.cell? ⟨w1.heap.size, 0, none⟩ = some (.slice A n c) := by rw [hw0]; simp [go_sem, World.cell?_alloc_past]
 have hc1 : w0.cell? ⟨w1.heap.size, 1, none⟩ = some (.slice A2 n2 c2) := by rw [hw0]; simp [go_sem, World.cell?_alloc_past]
 have HVI : VI (w.heap.size + 1) O V S P Q 0 0 w w0 := VI.ext ⟨c1_0, c2_0, c2_1, c2_2, c2_3, c3_0, c3_0f, c4_0, c4_0f, X1.out⟩ hx0
 have HS0 := SlB.ext HS.out hx0
 have HT0 := SlB.ext HT.out hx0
 have hzw : w.heap.size + 5 ≤ w1.heap.size := by omega
 clear hw0 hx0
 gi_wp2_with fail
 refine rangeFunc_stop rfl (by decide) (gf := 149) (lb := #[.pointer (some ⟨w1.heap.size, 0, none⟩)]) rfl trivial (enters_of Tryz.func149 (by kernel_rfl) rfl) (enc := fun x : I6 => #[.agg #[.int .i64 x.1, .int .i64 x.2.1, .int .i64 x.2.2.1, .int .i64 x.2.2.2.1, .int .i64 x.2.2.2.2.1, .int .u64 x.2.2.2.2.2], .int .u64 (wvl cl x)]) (xs := ps) (S := fun k => w0.heap.size ≤ k) (fun k hk => hk)
  (fun q J Jx W hW hJ hX hY h0 => hworths1_in 5 (by decide) q (w1.heap.size) n c n2 c2 w.heap.size (fun k => w0.heap.size ≤ k) A A2 cl ps J Jx W HW.out.1 HW.out.2 hJ hY (fun k hk => by have h9 : w0.heap.size ≤ k := hk; omega) (by intro hh; have h9 : w0.heap.size ≤ w1.heap.size := hh; omega) (Ext.has hW hc0) (Ext.has hW hc1) (SlB.ext HS0 hW) (SlB.ext HT0 hW) h0)
  (fun _ => rfl)
  (fun pre W => (∀ y ∈ pre, kP y ≠ [O, V, S, P, Q]) ∧ VI (w.heap.size + 1) O V S P Q 0 0 w W)
  (fun pre W => ∃ pre' x, pre = pre' ++ [x] ∧ (∀ y ∈ pre', kP y ≠ [O, V, S, P, Q]) ∧ kP x = [O, V, S, P, Q] ∧ VI (w.heap.size + 1) O V S P Q (wvl cl x) 0 w W)
  (fun s A A' hs hx => ?x1) (fun s A A' hs hx => ⟨hs.1, hs.2.ext hx⟩) (fun s A q o o' hs hq ho hnc => ⟨hs.1, hs.2.put (by omega) (by omega)⟩) (fun s A q o o' hs hq ho hnc => ?x2) ⟨(by intro y hy; cases hy), HVI⟩
  (fun pre x a' W => ∃ p, a' = { tmps := #[.agg #[.slice A n c, .slice A2 n2 c2], .int .i64 O, .agg #[.int .i64 V, .int .i64 S, .int .i64 P, .int .i64 Q], .pointer (some ⟨w.heap.size, 0, none⟩), .pointer (some ⟨w.heap.size + 1, 0, none⟩), .pointer (some ⟨w.heap.size + 1 + 1, 0, none⟩), .pointer (some ⟨w.heap.size + 1 + 1 + 1, 0, none⟩), .pointer (some ⟨w.heap.size + 1 + 1 + 1 + 1, 0, none⟩), .int .i64 0, .pointer (some ⟨p, 0, none⟩), .int .u64 (wvl cl x), .agg #[.slice A n c, .slice A2 n2 c2], .int .i64 0, .int .i64 0, .bool false, undef, .agg #[.slice A n c, .slice A2 n2 c2], .func (.func 149) #[] #[.pointer (some ⟨w1.heap.size, 0, none⟩)], .agg #[.int .i64 x.1, .int .i64 x.2.1, .int .i64 x.2.2.1, .int .i64 x.2.2.2.1, .int .i64 x.2.2.2.2.1, .int .u64 x.2.2.2.2.2], .int .u64 (wvl cl x), undef, undef, undef, undef, undef, undef, undef, undef, undef, undef, undef], defers := [] } ∧ (W.cell? ⟨p, 0, none⟩ = some (.int .i64 x.1) ∧ W.cell? ⟨p, 1, none⟩ = some (.int .i64 x.2.1) ∧ W.cell? ⟨p, 2, none⟩ = some (.int .i64 x.2.2.1) ∧ W.cell? ⟨p, 3, none⟩ = some (.int .i64 x.2.2.2.1) ∧ W.cell? ⟨p, 4, none⟩ = some (.int .i64 x.2.2.2.2.1)) ∧ w0.heap.size ≤ p ∧ (∀ y ∈ pre, kP y ≠ [O, V, S, P, Q]) ∧ VI (w.heap.size + 1) O V S P Q 0 0 w W)
  (fun s x a A q o o' hs hq ho hnc => ?put) ?assign ?body ?done ?stop
 case x1 =>
  obtain ⟨pre', x, h1, h2, h3, h4⟩ := hs
  exact ⟨pre', x, h1, h2, h3, h4.ext hx⟩
 case x2 =>
  obtain ⟨pre', x, h1, h2, h3, h4⟩ := hs
  exact ⟨pre', x, h1, h2, h3, h4.put (by omega) (by omega)⟩
 case put =>
  obtain ⟨p, h1, ⟨h2, h3, h4, h5, h6⟩, h7, h8, h9⟩ := hs
  exact ⟨p, h1, ⟨cell_put2 h2 ho hnc, cell_put2 h3 ho hnc, cell_put2 h4 ho hnc, cell_put2 h5 ho hnc, cell_put2 h6 ho hnc⟩, h7, h8, h9.put (by omega) (by omega)⟩
 case assign =>
  intro q pre x W K hI hpre hzW hK
  gi_wp2
  refine hK _ _ (KeepsOthers.alloc _ _) ((But.refl _ _).alloc _) ⟨W.heap.size, rfl, ⟨by simp [go_sem, World.cell?_alloc_past], by simp [go_sem, World.cell?_alloc_past], by simp [go_sem, World.cell?_alloc_past], by simp [go_sem, World.cell?_alloc_past], by simp [go_sem, World.cell?_alloc_past]⟩, hzW, hI.1, hI.2.ext ((Ext.refl _).alloc _)⟩
 case body =>
  rintro q pre x a' W ⟨p, rfl, ⟨p_0, p_1, p_2, p_3, p_4⟩, hp, hpre, hV⟩ hpx hzW
  have HV := Lib.hid hV
  have HPR := Lib.hid (And.intro hpre hpx)
  have o_0 := hV.o0
  have s_0 := hV.s0
  have s_1 := hV.s1
  have s_2 := hV.s2
  have s_3 := hV.s3
  have r_0 := hV.r0
  have r_0f := hV.f0
  have q_0 := hV.q0
  have q_0f := hV.g0
  obtain ⟨x1, x2, x3, x4, x5, x6⟩ := x
  simp only at p_0 p_1 p_2 p_3 p_4
  clear hV hpre hpx
  by_cases e0 : x1 = O
  ·have e0b : (x1 == O) = true := by simp [e0]
   by_cases e1 : x2 = V ∧ x3 = S ∧ x4 = P ∧ x5 = Q
   ·have e1b := four_true e1
    have HK := Lib.hid (kP_eq (t := x6) e0 e1)
    clear e0 e1
    gi_wp2
    refine ⟨(KeepsOthers.setCell _ _ _).trans (KeepsOthers.setCell _ _ _), pre, _, rfl, HPR.out.1, HK.out, ?_⟩
    have h := HV.out
    exact ⟨by simp [go_sem, o_0], by simp [go_sem, s_0], by simp [go_sem, s_1], by simp [go_sem, s_2], by simp [go_sem, s_3], by simp [go_sem, r_0], by simp [go_sem, r_0, r_0f], by simp [go_sem, q_0], by simp [go_sem, q_0, q_0f], (Below.setCell (p := ⟨w.heap.size + 1 + 1 + 1, 0, none⟩) h.x (by simp; omega) _).setCell (p := ⟨w.heap.size + 1 + 1 + 1 + 1, 0, none⟩) (by simp; omega) _⟩
   ·have e1b := four_false e1
    have HK := Lib.hid (kP_ne (O := O) (o := x1) (t := x6) (fun hh => e1 hh.2))
    clear e0 e1
    gi_wp2
    refine ⟨KeepsOthers.refl _, But.refl _ _, fun y hy => ?_, HV.out⟩
    rcases List.mem_append.1 hy with hy | hy
    ·exact HPR.out.1 y hy
    ·rw [List.mem_singleton.1 hy]; exact HK.out
  ·have e0b : (x1 == O) = false := by simpa using e0
   have HK := Lib.hid (kP_ne (V := V) (S := S) (P := P) (Q := Q) (a := x2) (b := x3) (c := x4) (d := x5) (t := x6) (fun hh => e0 hh.1))
   clear e0
   gi_wp2
   refine ⟨KeepsOthers.refl _, But.refl _ _, fun y hy => ?_, HV.out⟩
   rcases List.mem_append.1 hy with hy | hy
   ·exact HPR.out.1 y hy
   ·rw [List.mem_singleton.1 hy]; exact HK.out
 case done =>
  rintro D W hD ⟨hpre, hV⟩ hK
  have e : valG cl ps [O, V, S, P, Q] = (0, 10) := by unfold valG; rw [getK_pre_none hpre]
  obtain ⟨rfl, rfl⟩ : G1 = 0 ∧ G2 = 10 := by have h := HG.out; rw [e] at h; simpa using h
  have HV := Lib.hid hV
  have r_0 := hV.r0
  have r_0f := hV.f0
  have q_0 := hV.q0
  have q_0f := hV.g0
  have hDn : ¬ D = w.heap.size + 1 + 1 + 1 := by omega
  have hDn2 : ¬ D = w.heap.size + 1 + 1 + 1 + 1 := by omega
  clear hV hpre e
  gi_wp2
  have hr : ∀ ob, (((W.setCell ⟨w.heap.size + 1 + 1 + 1, 0, none⟩ (.int .u64 0)).setCell ⟨w.heap.size + 1 + 1 + 1 + 1, 0, none⟩ (.int .i64 10)).putObj D ob).cell? ⟨w.heap.size + 1 + 1 + 1, 0, none⟩ = some (.int .u64 0) := fun ob => cell_put (by simp [go_sem, r_0]) (by omega)
  have hq : ∀ ob, (((W.setCell ⟨w.heap.size + 1 + 1 + 1, 0, none⟩ (.int .u64 0)).setCell ⟨w.heap.size + 1 + 1 + 1 + 1, 0, none⟩ (.int .i64 10)).putObj D ob).cell? ⟨w.heap.size + 1 + 1 + 1 + 1, 0, none⟩ = some (.int .i64 10) := fun ob => cell_put (by simp [go_sem, q_0]) (by omega)
  have hK1 : ((W.setCell ⟨w.heap.size + 1 + 1 + 1, 0, none⟩ (.int .u64 0)).setCell ⟨w.heap.size + 1 + 1 + 1 + 1, 0, none⟩ (.int .i64 10)).heap[D]? = some (.deferred (some [])) := ((Below.heap_setCell _ ⟨w.heap.size + 1 + 1 + 1 + 1, 0, none⟩ _ D (by simp; omega)).trans (Below.heap_setCell _ ⟨w.heap.size + 1 + 1 + 1, 0, none⟩ _ D (by simp; omega))).trans hK
  refine ⟨by simp, .inl ⟨_, _, rfl, run_takeDeferred hK1, ?_⟩⟩
  exact ⟨.tuple #[.int .u64 0, .int .i64 10], by simp [results, Tryz.results34, go_sem, hr, hq]; try rfl, rfl, ext_put ((Below.setCell (p := ⟨w.heap.size + 1 + 1 + 1, 0, none⟩) HV.out.x (by simp; omega) _).setCell (p := ⟨w.heap.size + 1 + 1 + 1 + 1, 0, none⟩) (by simp; omega) _) (by omega)⟩
 case stop =>
  rintro D pre W hD hpre ⟨pre', x, rfl, h1, h2, hV⟩ hK
  have e : valG cl ps [O, V, S, P, Q] = (wvl cl x, 0) := by unfold valG; rw [getK_pre_some h1 h2 hpre]
  obtain ⟨rfl, rfl⟩ : G1 = wvl cl x ∧ G2 = 0 := by have h := HG.out; rw [e] at h; simpa using h
  have HV := Lib.hid hV
  have r_0 := hV.r0
  have q_0 := hV.q0
  clear hV e
  gi_wp2
  have hr : ∀ ob, (W.putObj D ob).cell? ⟨w.heap.size + 1 + 1 + 1, 0, none⟩ = some (.int .u64 (wvl cl x)) := fun ob => cell_put r_0 (by omega)
  have hq : ∀ ob, (W.putObj D ob).cell? ⟨w.heap.size + 1 + 1 + 1 + 1, 0, none⟩ = some (.int .i64 0) := fun ob => cell_put q_0 (by omega)
  refine ⟨by simp, .inl ⟨_, _, rfl, run_takeDeferred hK, ?_⟩⟩
  exact ⟨.tuple #[.int .u64 (wvl cl x), .int .i64 0], by simp [results, Tryz.results34, go_sem, hr, hq]; try rfl, rfl, ext_put HV.out.x (by omega)⟩
theorem hValue_any (n c n2 c2 : Nat) (A A2 : Option Addr) (cl ps : List I6) (O V S P Q : Int) (w : World) (h : Sl w 6 A n c (cl.flatMap clsC)) (h2 : Sl w 6 A2 n2 c2 (ps.flatMap posC)) (hn : n < 1099511627776) (hn2 : n2 < 1099511627776) (hw : ∀ x ∈ cl, WdC x) (hw2 : ∀ x ∈ ps, WdP x) :
  Calls Tryz.prog 34 #[.agg #[.slice A n c, .slice A2 n2 c2], .int .i64 O, .agg #[.int .i64 V, .int .i64 S, .int .i64 P, .int .i64 Q]] w fun r w' => r = .returned (.tuple #[.int .u64 (valH cl ps [O, V, S, P, Q]).1, .int .i64 (valH cl ps [O, V, S, P, Q]).2]) ∧ Ext w w' := by
 have C1 : ∀ w', Ext w w' → Calls Tryz.prog 14 #[.agg #[.slice A n c, .slice A2 n2 c2]] w' fun r w'' => r = .returned (.int .i64 (chkH cl ps)) ∧ Ext w' w'' := fun w' hx => hCheck_any n c n2 c2 A A2 cl ps w' (h.ext hx) (h2.ext hx) hn hn2 hw hw2
 unfold valH
 by_cases he : chkH cl ps = 0
 ·rw [if_neg (by simpa using he)]
  rw [he] at C1
  exact hValue_ok n c n2 c2 A A2 cl ps O V S P Q w h h2 hw hw2 (Lib.hid C1)
 ·rw [if_pos he]
  exact hValue_bad n c n2 c2 A A2 cl ps O V S P Q _ w (Lib.hid C1) he
def ownF (cl : List I6) (O V : Int) (ps : List I6) : Int := ps.foldl (fun s x => if x.1 = O ∧ x.2.1 = V then IntKind.u64.wrap (s + wvl cl x) else s) 0
def ownH (cl ps : List I6) (O V : Int) : Int × Int := if chkH cl ps ≠ 0 then (0, chkH cl ps) else (ownF cl O V ps, 0)
theorem ownF_snoc (cl : List I6) (O V : Int) (ps : List I6) (x : I6) : ownF cl O V (ps ++ [x]) = if x.1 = O ∧ x.2.1 = V then IntKind.u64.wrap (ownF cl O V ps + wvl cl x) else ownF cl O V ps := by unfold ownF; rw [List.foldl_append]; rfl
structure OI (b q : Nat) (O V s : Int) (w W : World) : Prop where
 o0 : W.cell? ⟨b, 0, none⟩ = some (.int .i64 O)
 v0 : W.cell? ⟨b + 1, 0, none⟩ = some (.int .i64 V)
 s0 : W.cell? ⟨q, 0, none⟩ = some (.int .u64 s)
 f0 : W.frozen? ⟨q, 0, none⟩ = false
 x : Ext w W
theorem OI.ext {b q : Nat} {O V s : Int} {w W W' : World} (h : OI b q O V s w W) (hx : Ext W W') : OI b q O V s w W' := ⟨hx.has h.o0, hx.has h.v0, hx.has h.s0, hx.froz h.s0 h.f0, Ext.trans h.x hx⟩
theorem OI.put {b q l : Nat} {O V s : Int} {w W : World} {ob : Obj} (h : OI b q O V s w W) (hl : b + 1 < l) (hq : q < l) (hw : w.heap.size ≤ l) : OI b q O V s w (W.putObj l ob) := ⟨cell_put h.o0 (by omega), cell_put h.v0 (by omega), cell_put h.s0 hq, froz_put h.s0 h.f0 hq, ext_put h.x hw⟩
theorem hOwn_bad (n c n2 c2 : Nat) (A A2 : Option Addr) (cl ps : List I6) (O V E : Int) (w : World) (C1 : Hid (∀ w', Ext w w' → Calls Tryz.prog 14 #[.agg #[.slice A n c, .slice A2 n2 c2]] w' fun r w'' => r = .returned (.int .i64 E) ∧ Ext w' w'')) (he : ¬ E = 0) :
  Calls Tryz.prog 36 #[.agg #[.slice A n c, .slice A2 n2 c2], .int .i64 O, .int .i64 V] w fun r w' => r = .returned (.tuple #[.int .u64 0, .int .i64 E]) ∧ Ext w w' := by
 have heb : (E != 0) = true := by simpa using he
 refine (callsIn_wide (n := 6)).1 ?_
 refine callsIn_of_wp_marks Tryz.func36 rfl trivial ?_ rfl
 simp only [Tryz.ntmps36, List.size_toArray, List.length_cons, List.length_nil, Nat.reduceAdd, Nat.reduceSub, Array.replicate_succ, Array.replicate_zero, List.push_toArray, List.append_toArray, List.nil_append, List.cons_append]
 gi_wp2_with fail
 refine ⟨trivial, ?_⟩
 (with_reducible refine (callsIn_wide.2 (C1.out _ zxt)).mono ?_)
 rintro e w1 ⟨rfl, hx1⟩
 have z1 := hx1.size
 try simp at z1
 have X1 : Hid (Ext w w1) := Lib.hid (Ext.trans zxt hx1)
 clear hx1 z1
 gi_wp2_with fail
 exact ⟨.tuple #[.int .u64 0, .int .i64 E], by simp [results, Tryz.results36, go_sem, World.cell?_alloc_past]; try rfl, rfl, zxt⟩
theorem hOwn_ok (n c n2 c2 : Nat) (A A2 : Option Addr) (cl ps : List I6) (O V : Int) (w : World) (h : Sl w 6 A n c (cl.flatMap clsC)) (h2 : Sl w 6 A2 n2 c2 (ps.flatMap posC)) (hw : ∀ x ∈ cl, WdC x) (hw2 : ∀ x ∈ ps, WdP x) (C1 : Hid (∀ w', Ext w w' → Calls Tryz.prog 14 #[.agg #[.slice A n c, .slice A2 n2 c2]] w' fun r w'' => r = .returned (.int .i64 0) ∧ Ext w' w'')) :
  Calls Tryz.prog 36 #[.agg #[.slice A n c, .slice A2 n2 c2], .int .i64 O, .int .i64 V] w fun r w' => r = .returned (.tuple #[.int .u64 (ownF cl O V ps), .int .i64 0]) ∧ Ext w w' := by
 have HS := Lib.hid h.low
 have HT := Lib.hid h2.low
 have HW := Lib.hid (And.intro hw hw2)
 have hll := h2.rlen posC_len (by decide)
 have HLL := Lib.hid hll
 obtain ⟨G, hG⟩ : ∃ G, G = ownF cl O V ps := ⟨_, rfl⟩
 rw [← hG]
 have HG := Lib.hid hG
 clear hG
 clear h h2 hw hw2 hll
 refine (callsIn_wide (n := 6)).1 ?_
 refine callsIn_of_wp_marks Tryz.func36 rfl trivial ?_ rfl
 simp only [Tryz.ntmps36, List.size_toArray, List.length_cons, List.length_nil, Nat.reduceAdd, Nat.reduceSub, Array.replicate_succ, Array.replicate_zero, List.push_toArray, List.append_toArray, List.nil_append, List.cons_append]
 gi_wp2_with fail
 refine ⟨trivial, ?_⟩
 (with_reducible refine (callsIn_wide.2 (C1.out _ zxt)).mono ?_)
 rintro e w1 ⟨rfl, hx1⟩
 have c0_0 : w1.cell? ⟨w.heap.size, 0, none⟩ = some (.slice A n c) := hx1.has zcv
 have c0_1 : w1.cell? ⟨w.heap.size, 1, none⟩ = some (.slice A2 n2 c2) := hx1.has zcv
 have c1_0 : w1.cell? ⟨w.heap.size + 1, 0, none⟩ = some (.int .i64 O) := hx1.has zcv
 have c2_0 : w1.cell? ⟨w.heap.size + 1 + 1, 0, none⟩ = some (.int .i64 V) := hx1.has zcv
 have z1 := hx1.size
 try simp at z1
 have lt_c0_c1 : w.heap.size < w.heap.size + 1 := by omega
 have ne_c0_c1 : ¬ w.heap.size = w.heap.size + 1 := by omega
 have lt_c0_c2 : w.heap.size < w.heap.size + 1 + 1 := by omega
 have ne_c0_c2 : ¬ w.heap.size = w.heap.size + 1 + 1 := by omega
 have ne_c1_c0 : ¬ w.heap.size + 1 = w.heap.size := by omega
 have lt_c1_c2 : w.heap.size + 1 < w.heap.size + 1 + 1 := by omega
 have ne_c1_c2 : ¬ w.heap.size + 1 = w.heap.size + 1 + 1 := by omega
 have ne_c2_c0 : ¬ w.heap.size + 1 + 1 = w.heap.size := by omega
 have ne_c2_c1 : ¬ w.heap.size + 1 + 1 = w.heap.size + 1 := by omega
 have rc0 := zr w.heap.size w1
 have rc1 := zr (w.heap.size + 1) w1
 have rc2 := zr (w.heap.size + 1 + 1) w1
 replace HS := Lib.hid (HS.out.ext (Ext.trans zxt hx1))
 replace HT := Lib.hid (HT.out.ext (Ext.trans zxt hx1))
 have X1 : Hid (Ext w w1) := Lib.hid (Ext.trans zxt hx1)
 clear hx1
 gi_wp2_with fail
 refine ⟨trivial, (hworths_in _ _ trivial rfl _ _ _ _ _ _ _).mono ?_⟩
 rintro e w0 ⟨rfl, hw0⟩
 have hx0 : Ext w1 w0 := by rw [hw0]; exact ((Ext.refl _).alloc _).alloc _
 have hz0 : w0.heap.size = w1.heap.size + 1 + 1 := by rw [hw0]; simp
 have hc0 : w0.cell? ⟨w1.heap.size + 1, 0, none⟩ = some (.slice A n c) := by rw [hw0]; simp [go_sem, World.cell?_alloc_past]
 have hc1 : w0.cell? ⟨w1.heap.size + 1, 1, none⟩ = some (.slice A2 n2 c2) := by rw [hw0]; simp [go_sem, World.cell?_alloc_past]
 have hs0 : w0.cell? ⟨w1.heap.size, 0, none⟩ = some (.int .u64 0) := by rw [hw0]; simp [go_sem, World.cell?_alloc_past]
 have hf0 : w0.frozen? ⟨w1.heap.size, 0, none⟩ = false := by rw [hw0]; simp [go_sem, World.cell?_alloc_past]
 have HVI : OI (w.heap.size + 1) (w1.heap.size) O V (ownF cl O V []) w w0 := ⟨hx0.has c1_0, hx0.has c2_0, hs0, hf0, Ext.trans X1.out hx0⟩
 have HS0 := SlB.ext HS.out hx0
 have HT0 := SlB.ext HT.out hx0
 have hzw : w.heap.size + 3 ≤ w1.heap.size := by omega
 clear hw0 hx0 hs0 hf0
 gi_wp2_with fail
 refine rangeFunc_stop rfl (by decide) (gf := 149) (lb := #[.pointer (some ⟨w1.heap.size + 1, 0, none⟩)]) rfl trivial (enters_of Tryz.func149 (by kernel_rfl) rfl) (enc := fun x : I6 => #[.agg #[.int .i64 x.1, .int .i64 x.2.1, .int .i64 x.2.2.1, .int .i64 x.2.2.2.1, .int .i64 x.2.2.2.2.1, .int .u64 x.2.2.2.2.2], .int .u64 (wvl cl x)]) (xs := ps) (S := fun k => k = w1.heap.size ∨ w0.heap.size ≤ k) (fun k hk => .inr hk)
  (fun q J Jx W hW hJ hX hY h0 => hworths1_in 5 (by decide) q (w1.heap.size + 1) n c n2 c2 w.heap.size (fun k => k = w1.heap.size ∨ w0.heap.size ≤ k) A A2 cl ps J Jx W HW.out.1 HW.out.2 hJ hY (fun k hk => by rcases hk with h9 | h9 <;> omega) (by intro hh; rcases hh with h9 | h9 <;> omega) (Ext.has hW hc0) (Ext.has hW hc1) (SlB.ext HS0 hW) (SlB.ext HT0 hW) h0)
  (fun _ => rfl)
  (fun pre W => OI (w.heap.size + 1) (w1.heap.size) O V (ownF cl O V pre) w W)
  (fun pre W => False)
  (fun s A A' hs hx => hs) (fun s A A' hs hx => hs.ext hx) (fun s A q o o' hs hq ho hnc => hs.put (by omega) (by omega) (by omega)) (fun s A q o o' hs hq ho hnc => hs) HVI
  (fun pre x a' W => ∃ p, a' = { tmps := #[.agg #[.slice A n c, .slice A2 n2 c2], .int .i64 O, .int .i64 V, .pointer (some ⟨w.heap.size, 0, none⟩), .pointer (some ⟨w.heap.size + 1, 0, none⟩), .pointer (some ⟨w.heap.size + 1 + 1, 0, none⟩), .int .u64 0, .int .i64 0, .int .i64 0, .pointer (some ⟨w1.heap.size, 0, none⟩), .pointer (some ⟨p, 0, none⟩), .int .u64 (wvl cl x), .agg #[.slice A n c, .slice A2 n2 c2], .int .i64 0, .int .i64 0, .bool false, undef, .agg #[.slice A n c, .slice A2 n2 c2], .func (.func 149) #[] #[.pointer (some ⟨w1.heap.size + 1, 0, none⟩)], .agg #[.int .i64 x.1, .int .i64 x.2.1, .int .i64 x.2.2.1, .int .i64 x.2.2.2.1, .int .i64 x.2.2.2.2.1, .int .u64 x.2.2.2.2.2], .int .u64 (wvl cl x), undef, undef, undef, undef, undef, undef, undef, undef, undef, undef, undef, undef, undef, undef, undef], defers := [] } ∧ (W.cell? ⟨p, 0, none⟩ = some (.int .i64 x.1) ∧ W.cell? ⟨p, 1, none⟩ = some (.int .i64 x.2.1)) ∧ w0.heap.size ≤ p ∧ OI (w.heap.size + 1) (w1.heap.size) O V (ownF cl O V pre) w W)
  (fun s x a A q o o' hs hq ho hnc => ?put) ?assign ?body ?done (fun D pre W hD hpre hf => hf.elim)
 case put =>
  obtain ⟨p, h1, ⟨h2, h3⟩, h7, h9⟩ := hs
  exact ⟨p, h1, ⟨cell_put2 h2 ho hnc, cell_put2 h3 ho hnc⟩, h7, h9.put (by omega) (by omega) (by omega)⟩
 case assign =>
  intro q pre x W K hI hpre hzW hK
  gi_wp2
  refine hK _ _ (KeepsOthers.alloc _ _) ((But.refl _ _).alloc _) ⟨W.heap.size, rfl, ⟨by simp [go_sem, World.cell?_alloc_past], by simp [go_sem, World.cell?_alloc_past]⟩, hzW, hI.ext ((Ext.refl _).alloc _)⟩
 case body =>
  rintro q pre x a' W ⟨p, rfl, ⟨p_0, p_1⟩, hp, hV⟩ hpx hzW
  have HV := Lib.hid hV
  have o_0 := hV.o0
  have v_0 := hV.v0
  have s_0 := hV.s0
  have s_0f := hV.f0
  have hsn := ownF_snoc cl O V pre x
  obtain ⟨t, ht⟩ : ∃ t, t = ownF cl O V pre := ⟨_, rfl⟩
  obtain ⟨N, hN⟩ : ∃ N, N = wvl cl x := ⟨_, rfl⟩
  rw [← ht] at s_0
  rw [← ht, ← hN] at hsn
  rw [← hN]
  obtain ⟨x1, x2, x3, x4, x5, x6⟩ := x
  simp only at p_0 p_1 hsn
  have HSN := Lib.hid hsn
  clear hV hpx ht hN hsn
  by_cases e0 : x1 = O
  ·have e0b : (x1 == O) = true := by simp [e0]
   by_cases e1 : x2 = V
   ·have e1b : (x2 == V) = true := by simp [e1]
    have HE := Lib.hid (HSN.out.trans (if_pos ⟨e0, e1⟩))
    clear e0 e1
    gi_wp2
    refine ⟨KeepsOthers.setCell _ _ _, (But.refl _ _).setCell (p := ⟨w1.heap.size, 0, none⟩) (.inl rfl) _, ?_⟩
    have h := HV.out
    rw [HE.out]
    exact ⟨by simp [go_sem, o_0], by simp [go_sem, v_0], by simp [go_sem, s_0], by simp [go_sem, s_0, s_0f], Below.setCell (p := ⟨w1.heap.size, 0, none⟩) h.x (by simp; omega) _⟩
   ·have e1b : (x2 == V) = false := by simpa using e1
    have HE := Lib.hid (HSN.out.trans (if_neg (fun hh => e1 hh.2)))
    clear e0 e1
    gi_wp2
    refine ⟨KeepsOthers.refl _, But.refl _ _, ?_⟩
    have h := HV.out
    rw [HE.out]
    exact ⟨h.o0, h.v0, s_0, h.f0, h.x⟩
  ·have e0b : (x1 == O) = false := by simpa using e0
   have HE := Lib.hid (HSN.out.trans (if_neg (fun hh => e0 hh.1)))
   clear e0
   gi_wp2
   refine ⟨KeepsOthers.refl _, But.refl _ _, ?_⟩
   have h := HV.out
   rw [HE.out]
   exact ⟨h.o0, h.v0, s_0, h.f0, h.x⟩
 case done =>
  rintro D W hD hV hK
  have HV := Lib.hid hV
  have s_0 := hV.s0
  rw [← HG.out] at s_0
  clear hV
  gi_wp2
  refine ⟨by simp, .inl ⟨_, _, rfl, run_takeDeferred hK, ?_⟩⟩
  exact ⟨.tuple #[.int .u64 G, .int .i64 0], by simp [results, Tryz.results36, go_sem]; try rfl, rfl, ext_put HV.out.x (by omega)⟩
theorem hOwn_any (n c n2 c2 : Nat) (A A2 : Option Addr) (cl ps : List I6) (O V : Int) (w : World) (h : Sl w 6 A n c (cl.flatMap clsC)) (h2 : Sl w 6 A2 n2 c2 (ps.flatMap posC)) (hn : n < 1099511627776) (hn2 : n2 < 1099511627776) (hw : ∀ x ∈ cl, WdC x) (hw2 : ∀ x ∈ ps, WdP x) :
  Calls Tryz.prog 36 #[.agg #[.slice A n c, .slice A2 n2 c2], .int .i64 O, .int .i64 V] w fun r w' => r = .returned (.tuple #[.int .u64 (ownH cl ps O V).1, .int .i64 (ownH cl ps O V).2]) ∧ Ext w w' := by
 have C1 : ∀ w', Ext w w' → Calls Tryz.prog 14 #[.agg #[.slice A n c, .slice A2 n2 c2]] w' fun r w'' => r = .returned (.int .i64 (chkH cl ps)) ∧ Ext w' w'' := fun w' hx => hCheck_any n c n2 c2 A A2 cl ps w' (h.ext hx) (h2.ext hx) hn hn2 hw hw2
 unfold ownH
 by_cases he : chkH cl ps = 0
 ·rw [if_neg (by simpa using he)]
  rw [he] at C1
  exact hOwn_ok n c n2 c2 A A2 cl ps O V w h h2 hw hw2 (Lib.hid C1)
 ·rw [if_pos he]
  exact hOwn_bad n c n2 c2 A A2 cl ps O V _ w (Lib.hid C1) he
structure PI (b q B : Nat) (O : Int) (L : List I6) (w W : World) : Prop where
 o0 : W.cell? ⟨b, 0, none⟩ = some (.int .i64 O)
 r : ∃ A c, W.cell? ⟨q, 0, none⟩ = some (.slice A L.length c) ∧ OwnPos W B (.slice A L.length c) L.length L
 f0 : W.frozen? ⟨q, 0, none⟩ = false
 x : Ext w W
theorem PI.ext {b q B : Nat} {O : Int} {L : List I6} {w W W' : World} (h : PI b q B O L w W) (hx : Ext W W') : PI b q B O L w W' := by
 obtain ⟨A, c, h1, h2⟩ := h.r
 exact ⟨hx.has h.o0, ⟨A, c, hx.has h1, OwnPos.ext h2 hx⟩, hx.froz h1 h.f0, Ext.trans h.x hx⟩
end
section
open Go.RowKit Go.ChangeShapes Go.WideShapes Go.Deep Go.Joins
def awC : List I6 := [(2, 5, -1, 0, 18, 20), (3, 6, -1, 0, 7, 7)]
def awL : List I5 := [(2, 5, -1, 0, 2)]
def awD : List I6 := [(2, 5, -1, 0, 14, 15), (3, 6, -1, 0, 7, 7)]
def awQ : List I6 := [(0, 2, 5, -1, 0, 10), (1, 2, 5, -1, 0, 5), (1, 3, 6, -1, 0, 7)]
theorem awcut : hcutV (chC 3) (chP 3) 2 5 100000000 = (awC, chP 3, awL, 2, 0) := by first | kernel_rfl | rfl
theorem awlea : hleaV awC (chP 3) 1 2 5 (-1) 0 5 = (awD, awQ, 4, 0) := by first | kernel_rfl | rfl
theorem awval : valH awD awQ [0, 2, 5, -1, 0] = (9, 0) := by first | kernel_rfl | rfl
theorem awown : ownH awD awQ 1 2 = (4, 0) := by first | kernel_rfl | rfl
theorem aw_wd : (∀ x ∈ awC, WdC x) ∧ (∀ x ∈ awD, WdC x) ∧ (∀ x ∈ awQ, WdP x) := by
 unfold WdC WdP Word
 decide
theorem awCut_any (d d2 : Nat) (B B2 : Option Addr) (w : World) (h1 : Sl w 6 B 2 d ((chC 3).flatMap clsC)) (h2 : Sl w 6 B2 3 d2 ((chP 3).flatMap posC)) (hB : B = none → d = 0) (hB2 : B2 = none → d2 = 0) :
  Calls Tryz.prog 23 #[.agg #[.slice B 2 d, .slice B2 3 d2], .int .i64 2, .int .i64 5, .int .u64 100000000] w fun e w' => ∃ G dg G2 dg2 A c, e = .returned (.tuple #[.agg #[.slice G 2 dg, .slice G2 3 dg2], .slice A 1 c, .int .u64 2, .int .i64 0]) ∧ (G = none → dg = 0) ∧ (G2 = none → dg2 = 0) ∧ OwnCls w' w.heap.size (.slice G 2 dg) 2 awC ∧ OwnPos w' w.heap.size (.slice G2 3 dg2) 3 (chP 3) ∧ OwnLoss w' w.heap.size (.slice A 1 c) 1 awL ∧ Ext w w' := by
 obtain ⟨wd1, wd2, _, _⟩ := ch_wd 3 (by decide)
 refine (hCut_any d d2 B B2 (chC 3) (chP 3) 2 5 100000000 w h1 h2 (by decide) (by decide) hB hB2 wd1 wd2 ⟨by decide, by decide⟩).mono ?_
 intro e w' h
 rw [awcut] at h
 obtain ⟨v, A, c, h1, _, ⟨B, d, B2, d2, rfl, h2, h3, h4, h5, h6⟩, h7⟩ := h
 exact ⟨B, d, B2, d2, A, c, h1, h2, h3, h4, h5, h7, h6⟩
theorem awLeave_any (d d2 : Nat) (B B2 : Option Addr) (w : World) (h1 : Sl w 6 B 2 d (awC.flatMap clsC)) (h2 : Sl w 6 B2 3 d2 ((chP 3).flatMap posC)) (hB : B = none → d = 0) (hB2 : B2 = none → d2 = 0) :
  Calls Tryz.prog 27 #[.agg #[.slice B 2 d, .slice B2 3 d2], .int .i64 1, .agg #[.int .i64 2, .int .i64 5, .int .i64 (-1), .int .i64 0], .int .u64 5] w fun e w' => ∃ G dg G2 dg2, e = .returned (.tuple #[.agg #[.slice G 2 dg, .slice G2 3 dg2], .int .u64 4, .int .i64 0]) ∧ OwnCls w' w.heap.size (.slice G 2 dg) 2 awD ∧ OwnPos w' w.heap.size (.slice G2 3 dg2) 3 awQ ∧ Ext w w' := by
 obtain ⟨_, wd2, _, _⟩ := ch_wd 3 (by decide)
 refine (hLeave_any d d2 B B2 awC (chP 3) 1 2 5 (-1) 0 5 w h1 h2 (by decide) (by decide) hB hB2 aw_wd.1 wd2 ⟨by decide, by decide⟩).mono ?_
 intro e w' h
 rw [awlea] at h
 obtain ⟨v, h1, ⟨B, d, B2, d2, rfl, h2, h3, h4, h5, h6⟩⟩ := h
 exact ⟨B, d, B2, d2, h1, h4, h5, h6⟩
theorem awValue_any (d d2 : Nat) (B B2 : Option Addr) (w : World) (h1 : Sl w 6 B 2 d (awD.flatMap clsC)) (h2 : Sl w 6 B2 3 d2 (awQ.flatMap posC)) :
  Calls Tryz.prog 34 #[.agg #[.slice B 2 d, .slice B2 3 d2], .int .i64 0, .agg #[.int .i64 2, .int .i64 5, .int .i64 (-1), .int .i64 0]] w fun e w' => e = .returned (.tuple #[.int .u64 9, .int .i64 0]) ∧ Ext w w' := by
 have C := hValue_any 2 d 3 d2 B B2 awD awQ 0 2 5 (-1) 0 w h1 h2 (by decide) (by decide) aw_wd.2.1 aw_wd.2.2
 rw [awval] at C
 exact C
theorem awOwn_any (d d2 : Nat) (B B2 : Option Addr) (w : World) (h1 : Sl w 6 B 2 d (awD.flatMap clsC)) (h2 : Sl w 6 B2 3 d2 (awQ.flatMap posC)) :
  Calls Tryz.prog 36 #[.agg #[.slice B 2 d, .slice B2 3 d2], .int .i64 1, .int .i64 2] w fun e w' => e = .returned (.tuple #[.int .u64 4, .int .i64 0]) ∧ Ext w w' := by
 have C := hOwn_any 2 d 3 d2 B B2 awD awQ 1 2 w h1 h2 (by decide) (by decide) aw_wd.2.1 aw_wd.2.2
 rw [awown] at C
 exact C
end
section
open Go.RowKit Go.ChangeShapes Go.WideShapes Go.Deep Go.Joins
theorem awake13_any (w : World) : Calls Tryz.prog 12 #[] w fun r w' => r = .returned (.bool true) ∧ Ext w w' := by
 go_enter Tryz.func12, Tryz.ntmps12
 go_wp2_with fail
 (with_reducible refine (chapter13_any _).mono ?_)
 rintro e w1 ⟨B, d, B2, d2, rfl, hB, hB2, hO, hO2, hx1⟩
 have z1 := hx1.size
 try simp at z1
 have X1 : Hid (Ext w w1) := Lib.hid (Ext.trans zxt hx1)
 have HO := Lib.hid (show OwnCls _ w.heap.size _ _ _ from own_lower hO zSlTba5_4)
 have HP := Lib.hid (show OwnPos _ w.heap.size _ _ _ from own_lower hO2 zSlTba5_4)
 clear hx1
 clear hO hO2
 go_wp2_with fail
 (with_reducible refine (awCut_any d d2 B B2 _ (OwnCls.sl (HO.out.ext zxt)) (OwnPos.sl (HP.out.ext zxt)) hB hB2).mono ?_)
 rintro e w2 ⟨G, dg, G2, dg2, A, c, rfl, hG, hG2, hO, hO2, hO3, hx2⟩
 have c0_0f : w2.frozen? ⟨w1.heap.size, 0, none⟩ = false := hx2.froz (v := .slice B 2 d) zcv zcv
 have c0_1f : w2.frozen? ⟨w1.heap.size, 1, none⟩ = false := hx2.froz (v := .slice B2 3 d2) zcv zcv
 have c0_0 : w2.cell? ⟨w1.heap.size, 0, none⟩ = some (.slice B 2 d) := hx2.has zcv
 have c0_1 : w2.cell? ⟨w1.heap.size, 1, none⟩ = some (.slice B2 3 d2) := hx2.has zcv
 have z2 := hx2.size
 try simp at z2
 have rc0 := zr w1.heap.size w2
 have X2 : Hid (Ext w w2) := Lib.hid (Ext.trans zxt hx2)
 have HC := Lib.hid (show OwnCls _ w.heap.size _ _ _ from own_lower hO zSlTba5_4)
 have HQ := Lib.hid (show OwnPos _ w.heap.size _ _ _ from own_lower hO2 zSlTba5_4)
 have HL := Lib.hid (show OwnLoss _ w.heap.size _ _ _ from own_lower hO3 zSlTba5_4)
 clear HO HP X1 hx2
 have RL := Lib.hid (own_rng hO3)
 clear hO hO2 hO3
 go_wp2_with fail
 refine wp_region_held_drew (S := fun w' => w'.cell? ⟨w2.heap.size, 0, none⟩ = some (.slice G 2 dg) ∧ w'.cell? ⟨w2.heap.size, 1, none⟩ = some (.slice G2 3 dg2)) (by kernel_rfl) (by first | exact ⟨c1_0, c1_1⟩ | (simp [go_sem, World.cell?_alloc_past, *]; done)) (fun hHeld => ?_)
 refine' zt 0 ?_
 refine' next2_in 1 7 rfl rfl (by kernel_rfl) (by rfl) (by rfl) (fun K hK => ?_) (fun K hK => ?_)
 ·go_simp
  (with_reducible refine (at13_any 2 5 _).mono ?_)
  rintro e w3 ⟨rfl, hx3⟩
  replace c0_0f := zf hx3 c0_0 c0_0f
  replace c0_1f := zf hx3 c0_1 c0_1f
  replace c0_0 := zh hx3 c0_0
  replace c0_1 := zh hx3 c0_1
  have c1_0f : w3.frozen? ⟨w2.heap.size, 0, none⟩ = false := hx3.froz (v := .slice G 2 dg) zcv zcv
  have c1_1f : w3.frozen? ⟨w2.heap.size, 1, none⟩ = false := hx3.froz (v := .slice G2 3 dg2) zcv zcv
  have c1_0 : w3.cell? ⟨w2.heap.size, 0, none⟩ = some (.slice G 2 dg) := hx3.has zcv
  have c1_1 : w3.cell? ⟨w2.heap.size, 1, none⟩ = some (.slice G2 3 dg2) := hx3.has zcv
  have z3 := hx3.size
  try simp at z3
  have lt_c0_c1 : w1.heap.size < w2.heap.size := by omega
  have ne_c0_c1 : ¬ w1.heap.size = w2.heap.size := by omega
  have ne_c1_c0 : ¬ w2.heap.size = w1.heap.size := by omega
  replace rc0 := zr w1.heap.size w3
  have rc1 := zr w2.heap.size w3
  replace HC := Lib.hid (HC.out.ext (Ext.trans zxt hx3))
  replace HQ := Lib.hid (HQ.out.ext (Ext.trans zxt hx3))
  replace HL := Lib.hid ((show OwnLoss _ w.heap.size (.slice A 1 c) 1 awL from zSlTba5_0).ext hx3)
  have X3 : Hid (Ext w w3) := Lib.hid (Ext.trans zxt hx3)
  clear X2 hx3
  refine' zk hK zSlTba5_3 (fun hHeld => ?_); clear hK K
  refine' next2_in 2 7 rfl rfl (by kernel_rfl) (by rfl) (by rfl) (fun K hK => ?_) (fun K hK => ?_)
  ·go_simp
   (with_reducible refine (awLeave_any dg dg2 G G2 _ (OwnCls.sl (HC.out.ext zxt)) (OwnPos.sl (HQ.out.ext zxt)) hG hG2).mono ?_)
   rintro e w4 ⟨J, dj, J2, dj2, rfl, hO, hO2, hx4⟩
   replace c0_0f := zf hx4 c0_0 c0_0f
   replace c0_1f := zf hx4 c0_1 c0_1f
   replace c0_0 := zh hx4 c0_0
   replace c0_1 := zh hx4 c0_1
   replace c1_0f := zf hx4 c1_0 c1_0f
   replace c1_1f := zf hx4 c1_1 c1_1f
   replace c1_0 := zh hx4 c1_0
   replace c1_1 := zh hx4 c1_1
   have z4 := hx4.size
   try simp at z4
   replace rc0 := zr w1.heap.size w4
   replace rc1 := zr w2.heap.size w4
   replace HL := Lib.hid ((show OwnLoss _ w.heap.size (.slice A 1 c) 1 awL from zSlTba5_0).ext hx4)
   have X4 : Hid (Ext w w4) := Lib.hid (Ext.trans zxt hx4)
   have HD := Lib.hid (show OwnCls _ w.heap.size _ _ _ from own_lower hO zSlTba5_4)
   have HR := Lib.hid (show OwnPos _ w.heap.size _ _ _ from own_lower hO2 zSlTba5_4)
   clear HC HQ X3 hx4
   have RD := Lib.hid (own_rng hO)
   have RR := Lib.hid (own_rng hO2)
   clear hO hO2
   refine' zk hK zSlTba5_3 (fun hHeld => ?_); clear hK K
   refine' zt 3 ?_
   refine' zt 4 ?_
   refine' zt 5 ?_
   refine' zt 6 ?_
   refine' zn 7 (fun K hK => ?_)
   go_simp
   refine' zk hK zSlTba5_3 (fun hHeld => ?_); clear hK K
   refine' zn 8 (fun K hK => ?_)
   go_simp
   refine' zk hK zSlTba5_3 (fun hHeld => ?_); clear hK K
   refine' zt 9 ?_
   refine' zt 10 ?_
   refine wpAnyH_done (by kernel_rfl) ?_ _
   go_wp2_with fail
   refine wp_region_held_drew (S := fun w' => w'.cell? ⟨w4.heap.size, 0, none⟩ = some (.slice J 2 dj) ∧ w'.cell? ⟨w4.heap.size, 1, none⟩ = some (.slice J2 3 dj2)) (by kernel_rfl) (by first | exact ⟨c2_0, c2_1⟩ | (simp [go_sem, World.cell?_alloc_past, *]; done)) (fun hHeld => ?_)
   refine' zt 0 ?_
   refine' zn 1 (fun K hK => ?_)
   go_simp
   (with_reducible refine (at13_any 2 5 _).mono ?_)
   rintro e w5 ⟨rfl, hx5⟩
   replace c0_0f := zf hx5 c0_0 c0_0f
   replace c0_1f := zf hx5 c0_1 c0_1f
   replace c0_0 := zh hx5 c0_0
   replace c0_1 := zh hx5 c0_1
   replace c1_0f := zf hx5 c1_0 c1_0f
   replace c1_1f := zf hx5 c1_1 c1_1f
   replace c1_0 := zh hx5 c1_0
   replace c1_1 := zh hx5 c1_1
   have c2_0f : w5.frozen? ⟨w4.heap.size, 0, none⟩ = false := hx5.froz (v := .slice J 2 dj) zcv zcv
   have c2_1f : w5.frozen? ⟨w4.heap.size, 1, none⟩ = false := hx5.froz (v := .slice J2 3 dj2) zcv zcv
   have c2_0 : w5.cell? ⟨w4.heap.size, 0, none⟩ = some (.slice J 2 dj) := hx5.has zcv
   have c2_1 : w5.cell? ⟨w4.heap.size, 1, none⟩ = some (.slice J2 3 dj2) := hx5.has zcv
   have z5 := hx5.size
   try simp at z5
   have lt_c0_c2 : w1.heap.size < w4.heap.size := by omega
   have ne_c0_c2 : ¬ w1.heap.size = w4.heap.size := by omega
   have lt_c1_c2 : w2.heap.size < w4.heap.size := by omega
   have ne_c1_c2 : ¬ w2.heap.size = w4.heap.size := by omega
   have ne_c2_c0 : ¬ w4.heap.size = w1.heap.size := by omega
   have ne_c2_c1 : ¬ w4.heap.size = w2.heap.size := by omega
   replace rc0 := zr w1.heap.size w5
   replace rc1 := zr w2.heap.size w5
   have rc2 := zr w4.heap.size w5
   replace HL := Lib.hid ((show OwnLoss _ w.heap.size (.slice A 1 c) 1 awL from zSlTba5_0).ext hx5)
   replace HD := Lib.hid ((show OwnCls _ w.heap.size (.slice J 2 dj) 2 awD from zSlTba5_2).ext hx5)
   replace HR := Lib.hid ((show OwnPos _ w.heap.size (.slice J2 3 dj2) 3 awQ from zSlTba5_1).ext hx5)
   have X5 : Hid (Ext w w5) := Lib.hid (Ext.trans zxt hx5)
   clear X4 hx5
   refine' zk hK zSlTba5_5 (fun hHeld => ?_); clear hK K
   refine' zn 2 (fun K hK => ?_)
   go_simp
   (refine (awValue_any dj dj2 J J2 _ (OwnCls.sl (show OwnCls _ w.heap.size (.slice J 2 dj) 2 awD from zSlTba5_2)) (OwnPos.sl (show OwnPos _ w.heap.size (.slice J2 3 dj2) 3 awQ from zSlTba5_1))).mono ?_)
   rintro e w6 ⟨rfl, hx6⟩
   replace c0_0f := zf hx6 c0_0 c0_0f
   replace c0_1f := zf hx6 c0_1 c0_1f
   replace c0_0 := zh hx6 c0_0
   replace c0_1 := zh hx6 c0_1
   replace c1_0f := zf hx6 c1_0 c1_0f
   replace c1_1f := zf hx6 c1_1 c1_1f
   replace c1_0 := zh hx6 c1_0
   replace c1_1 := zh hx6 c1_1
   replace c2_0f := zf hx6 c2_0 c2_0f
   replace c2_1f := zf hx6 c2_1 c2_1f
   replace c2_0 := zh hx6 c2_0
   replace c2_1 := zh hx6 c2_1
   have z6 := hx6.size
   try simp at z6
   replace rc0 := zr w1.heap.size w6
   replace rc1 := zr w2.heap.size w6
   replace rc2 := zr w4.heap.size w6
   replace HL := Lib.hid ((show OwnLoss _ w.heap.size (.slice A 1 c) 1 awL from zSlTba5_0).ext hx6)
   replace HD := Lib.hid ((show OwnCls _ w.heap.size (.slice J 2 dj) 2 awD from zSlTba5_2).ext hx6)
   replace HR := Lib.hid ((show OwnPos _ w.heap.size (.slice J2 3 dj2) 3 awQ from zSlTba5_1).ext hx6)
   have X6 : Hid (Ext w w6) := Lib.hid (Ext.trans zxt hx6)
   clear X5 hx6
   refine' zk hK zSlTba5_5 (fun hHeld => ?_); clear hK K
   refine' zt 3 ?_
   refine' zt 4 ?_
   refine' zt 5 ?_
   refine' zt 6 ?_
   refine' zt 7 ?_
   refine wpAnyH_done (by kernel_rfl) ?_ _
   go_wp2_with fail
   (refine (awOwn_any dj dj2 J J2 _ (OwnCls.sl (show OwnCls _ w.heap.size (.slice J 2 dj) 2 awD from zSlTba5_2)) (OwnPos.sl (show OwnPos _ w.heap.size (.slice J2 3 dj2) 3 awQ from zSlTba5_1))).mono ?_)
   rintro e w7 ⟨rfl, hx7⟩
   replace c0_0f := zf hx7 c0_0 c0_0f
   replace c0_1f := zf hx7 c0_1 c0_1f
   replace c0_0 := zh hx7 c0_0
   replace c0_1 := zh hx7 c0_1
   replace c1_0f := zf hx7 c1_0 c1_0f
   replace c1_1f := zf hx7 c1_1 c1_1f
   replace c1_0 := zh hx7 c1_0
   replace c1_1 := zh hx7 c1_1
   replace c2_0f := zf hx7 c2_0 c2_0f
   replace c2_1f := zf hx7 c2_1 c2_1f
   replace c2_0 := zh hx7 c2_0
   replace c2_1 := zh hx7 c2_1
   have z7 := hx7.size
   try simp at z7
   replace rc0 := zr w1.heap.size w7
   replace rc1 := zr w2.heap.size w7
   replace rc2 := zr w4.heap.size w7
   replace HL := Lib.hid ((show OwnLoss _ w.heap.size (.slice A 1 c) 1 awL from zSlTba5_0).ext hx7)
   have X7 : Hid (Ext w w7) := Lib.hid (Ext.trans zxt hx7)
   clear HD HR X6 hx7
   go_wp2_with fail
   (with_reducible refine (at13_any 2 5 _).mono ?_)
   rintro e w8 ⟨rfl, hx8⟩
   replace c0_0f := zf hx8 c0_0 c0_0f
   replace c0_1f := zf hx8 c0_1 c0_1f
   replace c0_0 := zh hx8 c0_0
   replace c0_1 := zh hx8 c0_1
   replace c1_0f := zf hx8 c1_0 c1_0f
   replace c1_1f := zf hx8 c1_1 c1_1f
   replace c1_0 := zh hx8 c1_0
   replace c1_1 := zh hx8 c1_1
   replace c2_0f := zf hx8 c2_0 c2_0f
   replace c2_1f := zf hx8 c2_1 c2_1f
   replace c2_0 := zh hx8 c2_0
   replace c2_1 := zh hx8 c2_1
   have z8 := hx8.size
   try simp at z8
   replace rc0 := zr w1.heap.size w8
   replace rc1 := zr w2.heap.size w8
   replace rc2 := zr w4.heap.size w8
   replace HL := Lib.hid ((show OwnLoss _ w.heap.size (.slice A 1 c) 1 awL from zSlTba5_0).ext hx8)
   have X8 : Hid (Ext w w8) := Lib.hid (Ext.trans zxt hx8)
   clear X7 hx8
   go_wp2_with fail
   (refine (((kSameLosses_any A (some ⟨w8.heap.size, 0, none⟩) 1 c 1 1 awL awL (w8.alloc (.cells #[.int .i64 2, .int .i64 5, .int .i64 (-1), .int .i64 0, .int .u64 2] 73)) (OwnLoss.sl (show OwnLoss _ w.heap.size (.slice A 1 c) 1 awL from zSlTba5_0)) (show Sl _ 5 _ 1 1 (awL.flatMap lossC) from sl_new w8 73 5 #[.int .i64 2, .int .i64 5, .int .i64 (-1), .int .i64 0, .int .u64 2] 1 rfl (by decide))).mono (fun e w' h => (⟨h.1.trans (by simp), h.2⟩ : e = .returned (.bool true) ∧ Ext _ w')))).mono ?_)
   rintro e w9 ⟨rfl, hx9⟩
   replace c0_0f := zf hx9 c0_0 c0_0f
   replace c0_1f := zf hx9 c0_1 c0_1f
   replace c0_0 := zh hx9 c0_0
   replace c0_1 := zh hx9 c0_1
   replace c1_0f := zf hx9 c1_0 c1_0f
   replace c1_1f := zf hx9 c1_1 c1_1f
   replace c1_0 := zh hx9 c1_0
   replace c1_1 := zh hx9 c1_1
   replace c2_0f := zf hx9 c2_0 c2_0f
   replace c2_1f := zf hx9 c2_1 c2_1f
   replace c2_0 := zh hx9 c2_0
   replace c2_1 := zh hx9 c2_1
   have c3_0f : w9.frozen? ⟨w8.heap.size, 0, none⟩ = false := hx9.froz (v := .int .i64 2) zcv zcv
   have c3_1f : w9.frozen? ⟨w8.heap.size, 1, none⟩ = false := hx9.froz (v := .int .i64 5) zcv zcv
   have c3_0 : w9.cell? ⟨w8.heap.size, 0, none⟩ = some (.int .i64 2) := hx9.has zcv
   have c3_1 : w9.cell? ⟨w8.heap.size, 1, none⟩ = some (.int .i64 5) := hx9.has zcv
   have z9 := hx9.size
   try simp at z9
   have lt_c0_c3 : w1.heap.size < w8.heap.size := by omega
   have ne_c0_c3 : ¬ w1.heap.size = w8.heap.size := by omega
   have lt_c1_c3 : w2.heap.size < w8.heap.size := by omega
   have ne_c1_c3 : ¬ w2.heap.size = w8.heap.size := by omega
   have lt_c2_c3 : w4.heap.size < w8.heap.size := by omega
   have ne_c2_c3 : ¬ w4.heap.size = w8.heap.size := by omega
   have ne_c3_c0 : ¬ w8.heap.size = w1.heap.size := by omega
   have ne_c3_c1 : ¬ w8.heap.size = w2.heap.size := by omega
   have ne_c3_c2 : ¬ w8.heap.size = w4.heap.size := by omega
   replace rc0 := zr w1.heap.size w9
   replace rc1 := zr w2.heap.size w9
   replace rc2 := zr w4.heap.size w9
   have rc3 := zr w8.heap.size w9
   have X9 : Hid (Ext w w9) := Lib.hid (Ext.trans zxt hx9)
   clear HL X8 hx9
   go_wp2_with fail
   refine bodyPost_ret (v := .bool true) (by simp [results, Tryz.results12, go_sem, World.cell?_alloc_past, *]; try rfl) rfl ⟨rfl, ?_⟩
   exact zxt
  ·go_simp
   refine' zk hK zSlTba5_3 (fun hHeld => ?_); clear hK K
   refine' zn 2 (fun K hK => ?_)
   go_simp
   (with_reducible refine (awLeave_any dg dg2 G G2 _ (OwnCls.sl (HC.out.ext zxt)) (OwnPos.sl (HQ.out.ext zxt)) hG hG2).mono ?_)
   rintro e w4 ⟨J, dj, J2, dj2, rfl, hO, hO2, hx4⟩
   replace c0_0f := zf hx4 c0_0 c0_0f
   replace c0_1f := zf hx4 c0_1 c0_1f
   replace c0_0 := zh hx4 c0_0
   replace c0_1 := zh hx4 c0_1
   replace c1_0f := zf hx4 c1_0 c1_0f
   replace c1_1f := zf hx4 c1_1 c1_1f
   replace c1_0 := zh hx4 c1_0
   replace c1_1 := zh hx4 c1_1
   have c2_0f : w4.frozen? ⟨w3.heap.size, 0, none⟩ = false := hx4.froz (v := .slice none 0 0) zcv zcv
   have c2_1f : w4.frozen? ⟨w3.heap.size, 1, none⟩ = false := hx4.froz (v := .slice none 0 0) zcv zcv
   have c2_0 : w4.cell? ⟨w3.heap.size, 0, none⟩ = some (.slice none 0 0) := hx4.has zcv
   have c2_1 : w4.cell? ⟨w3.heap.size, 1, none⟩ = some (.slice none 0 0) := hx4.has zcv
   have z4 := hx4.size
   try simp at z4
   have lt_c0_c2 : w1.heap.size < w3.heap.size := by omega
   have ne_c0_c2 : ¬ w1.heap.size = w3.heap.size := by omega
   have lt_c1_c2 : w2.heap.size < w3.heap.size := by omega
   have ne_c1_c2 : ¬ w2.heap.size = w3.heap.size := by omega
   have ne_c2_c0 : ¬ w3.heap.size = w1.heap.size := by omega
   have ne_c2_c1 : ¬ w3.heap.size = w2.heap.size := by omega
   replace rc0 := zr w1.heap.size w4
   replace rc1 := zr w2.heap.size w4
   have rc2 := zr w3.heap.size w4
   replace HL := Lib.hid ((show OwnLoss _ w.heap.size (.slice A 1 c) 1 awL from zSlTba5_0).ext hx4)
   have X4 : Hid (Ext w w4) := Lib.hid (Ext.trans zxt hx4)
   have HD := Lib.hid (show OwnCls _ w.heap.size _ _ _ from own_lower hO zSlTba5_4)
   have HR := Lib.hid (show OwnPos _ w.heap.size _ _ _ from own_lower hO2 zSlTba5_4)
   clear HC HQ X3 hx4
   have RD := Lib.hid (own_rng hO)
   have RR := Lib.hid (own_rng hO2)
   clear hO hO2
   refine' zk hK zSlTba5_3 (fun hHeld => ?_); clear hK K
   refine' zt 3 ?_
   refine' zt 4 ?_
   refine' zt 5 ?_
   refine' zt 6 ?_
   refine' zn 8 (fun K hK => ?_)
   go_simp
   refine' zk hK zSlTba5_3 (fun hHeld => ?_); clear hK K
   refine' zt 9 ?_
   refine' zt 10 ?_
   refine wpAnyH_done (by kernel_rfl) ?_ _
   go_wp2_with fail
   refine wp_region_held_drew (S := fun w' => w'.cell? ⟨w3.heap.size, 0, none⟩ = some (.slice J 2 dj) ∧ w'.cell? ⟨w3.heap.size, 1, none⟩ = some (.slice J2 3 dj2)) (by kernel_rfl) (by first | exact ⟨c2_0, c2_1⟩ | (simp [go_sem, World.cell?_alloc_past, *]; done)) (fun hHeld => ?_)
   refine' zt 0 ?_
   refine' zn 1 (fun K hK => ?_)
   go_simp
   (with_reducible refine (at13_any 2 5 _).mono ?_)
   rintro e w5 ⟨rfl, hx5⟩
   replace c0_0f := zf hx5 c0_0 c0_0f
   replace c0_1f := zf hx5 c0_1 c0_1f
   replace c0_0 := zh hx5 c0_0
   replace c0_1 := zh hx5 c0_1
   replace c1_0f := zf hx5 c1_0 c1_0f
   replace c1_1f := zf hx5 c1_1 c1_1f
   replace c1_0 := zh hx5 c1_0
   replace c1_1 := zh hx5 c1_1
   replace c2_0f : w5.frozen? ⟨w3.heap.size, 0, none⟩ = false := hx5.froz (v := .slice J 2 dj) zcv zcv
   replace c2_1f : w5.frozen? ⟨w3.heap.size, 1, none⟩ = false := hx5.froz (v := .slice J2 3 dj2) zcv zcv
   replace c2_0 : w5.cell? ⟨w3.heap.size, 0, none⟩ = some (.slice J 2 dj) := hx5.has zcv
   replace c2_1 : w5.cell? ⟨w3.heap.size, 1, none⟩ = some (.slice J2 3 dj2) := hx5.has zcv
   have z5 := hx5.size
   try simp at z5
   replace rc0 := zr w1.heap.size w5
   replace rc1 := zr w2.heap.size w5
   replace rc2 := zr w3.heap.size w5
   replace HL := Lib.hid ((show OwnLoss _ w.heap.size (.slice A 1 c) 1 awL from zSlTba5_0).ext hx5)
   replace HD := Lib.hid ((show OwnCls _ w.heap.size (.slice J 2 dj) 2 awD from zSlTba5_2).ext hx5)
   replace HR := Lib.hid ((show OwnPos _ w.heap.size (.slice J2 3 dj2) 3 awQ from zSlTba5_1).ext hx5)
   have X5 : Hid (Ext w w5) := Lib.hid (Ext.trans zxt hx5)
   clear X4 hx5
   refine' zk hK zSlTba5_5 (fun hHeld => ?_); clear hK K
   refine' zn 2 (fun K hK => ?_)
   go_simp
   (refine (awValue_any dj dj2 J J2 _ (OwnCls.sl (show OwnCls _ w.heap.size (.slice J 2 dj) 2 awD from zSlTba5_2)) (OwnPos.sl (show OwnPos _ w.heap.size (.slice J2 3 dj2) 3 awQ from zSlTba5_1))).mono ?_)
   rintro e w6 ⟨rfl, hx6⟩
   replace c0_0f := zf hx6 c0_0 c0_0f
   replace c0_1f := zf hx6 c0_1 c0_1f
   replace c0_0 := zh hx6 c0_0
   replace c0_1 := zh hx6 c0_1
   replace c1_0f := zf hx6 c1_0 c1_0f
   replace c1_1f := zf hx6 c1_1 c1_1f
   replace c1_0 := zh hx6 c1_0
   replace c1_1 := zh hx6 c1_1
   replace c2_0f := zf hx6 c2_0 c2_0f
   replace c2_1f := zf hx6 c2_1 c2_1f
   replace c2_0 := zh hx6 c2_0
   replace c2_1 := zh hx6 c2_1
   have z6 := hx6.size
   try simp at z6
   replace rc0 := zr w1.heap.size w6
   replace rc1 := zr w2.heap.size w6
   replace rc2 := zr w3.heap.size w6
   replace HL := Lib.hid ((show OwnLoss _ w.heap.size (.slice A 1 c) 1 awL from zSlTba5_0).ext hx6)
   replace HD := Lib.hid ((show OwnCls _ w.heap.size (.slice J 2 dj) 2 awD from zSlTba5_2).ext hx6)
   replace HR := Lib.hid ((show OwnPos _ w.heap.size (.slice J2 3 dj2) 3 awQ from zSlTba5_1).ext hx6)
   have X6 : Hid (Ext w w6) := Lib.hid (Ext.trans zxt hx6)
   clear X5 hx6
   refine' zk hK zSlTba5_5 (fun hHeld => ?_); clear hK K
   refine' zt 3 ?_
   refine' zt 4 ?_
   refine' zt 5 ?_
   refine' zt 6 ?_
   refine' zt 7 ?_
   refine wpAnyH_done (by kernel_rfl) ?_ _
   go_wp2_with fail
   (refine (awOwn_any dj dj2 J J2 _ (OwnCls.sl (show OwnCls _ w.heap.size (.slice J 2 dj) 2 awD from zSlTba5_2)) (OwnPos.sl (show OwnPos _ w.heap.size (.slice J2 3 dj2) 3 awQ from zSlTba5_1))).mono ?_)
   rintro e w7 ⟨rfl, hx7⟩
   replace c0_0f := zf hx7 c0_0 c0_0f
   replace c0_1f := zf hx7 c0_1 c0_1f
   replace c0_0 := zh hx7 c0_0
   replace c0_1 := zh hx7 c0_1
   replace c1_0f := zf hx7 c1_0 c1_0f
   replace c1_1f := zf hx7 c1_1 c1_1f
   replace c1_0 := zh hx7 c1_0
   replace c1_1 := zh hx7 c1_1
   replace c2_0f := zf hx7 c2_0 c2_0f
   replace c2_1f := zf hx7 c2_1 c2_1f
   replace c2_0 := zh hx7 c2_0
   replace c2_1 := zh hx7 c2_1
   have z7 := hx7.size
   try simp at z7
   replace rc0 := zr w1.heap.size w7
   replace rc1 := zr w2.heap.size w7
   replace rc2 := zr w3.heap.size w7
   replace HL := Lib.hid ((show OwnLoss _ w.heap.size (.slice A 1 c) 1 awL from zSlTba5_0).ext hx7)
   have X7 : Hid (Ext w w7) := Lib.hid (Ext.trans zxt hx7)
   clear HD HR X6 hx7
   go_wp2_with fail
   (with_reducible refine (at13_any 2 5 _).mono ?_)
   rintro e w8 ⟨rfl, hx8⟩
   replace c0_0f := zf hx8 c0_0 c0_0f
   replace c0_1f := zf hx8 c0_1 c0_1f
   replace c0_0 := zh hx8 c0_0
   replace c0_1 := zh hx8 c0_1
   replace c1_0f := zf hx8 c1_0 c1_0f
   replace c1_1f := zf hx8 c1_1 c1_1f
   replace c1_0 := zh hx8 c1_0
   replace c1_1 := zh hx8 c1_1
   replace c2_0f := zf hx8 c2_0 c2_0f
   replace c2_1f := zf hx8 c2_1 c2_1f
   replace c2_0 := zh hx8 c2_0
   replace c2_1 := zh hx8 c2_1
   have z8 := hx8.size
   try simp at z8
   replace rc0 := zr w1.heap.size w8
   replace rc1 := zr w2.heap.size w8
   replace rc2 := zr w3.heap.size w8
   replace HL := Lib.hid ((show OwnLoss _ w.heap.size (.slice A 1 c) 1 awL from zSlTba5_0).ext hx8)
   have X8 : Hid (Ext w w8) := Lib.hid (Ext.trans zxt hx8)
   clear X7 hx8
   go_wp2_with fail
   (refine (((kSameLosses_any A (some ⟨w8.heap.size, 0, none⟩) 1 c 1 1 awL awL (w8.alloc (.cells #[.int .i64 2, .int .i64 5, .int .i64 (-1), .int .i64 0, .int .u64 2] 73)) (OwnLoss.sl (show OwnLoss _ w.heap.size (.slice A 1 c) 1 awL from zSlTba5_0)) (show Sl _ 5 _ 1 1 (awL.flatMap lossC) from sl_new w8 73 5 #[.int .i64 2, .int .i64 5, .int .i64 (-1), .int .i64 0, .int .u64 2] 1 rfl (by decide))).mono (fun e w' h => (⟨h.1.trans (by simp), h.2⟩ : e = .returned (.bool true) ∧ Ext _ w')))).mono ?_)
   rintro e w9 ⟨rfl, hx9⟩
   replace c0_0f := zf hx9 c0_0 c0_0f
   replace c0_1f := zf hx9 c0_1 c0_1f
   replace c0_0 := zh hx9 c0_0
   replace c0_1 := zh hx9 c0_1
   replace c1_0f := zf hx9 c1_0 c1_0f
   replace c1_1f := zf hx9 c1_1 c1_1f
   replace c1_0 := zh hx9 c1_0
   replace c1_1 := zh hx9 c1_1
   replace c2_0f := zf hx9 c2_0 c2_0f
   replace c2_1f := zf hx9 c2_1 c2_1f
   replace c2_0 := zh hx9 c2_0
   replace c2_1 := zh hx9 c2_1
   have c3_0f : w9.frozen? ⟨w8.heap.size, 0, none⟩ = false := hx9.froz (v := .int .i64 2) zcv zcv
   have c3_1f : w9.frozen? ⟨w8.heap.size, 1, none⟩ = false := hx9.froz (v := .int .i64 5) zcv zcv
   have c3_0 : w9.cell? ⟨w8.heap.size, 0, none⟩ = some (.int .i64 2) := hx9.has zcv
   have c3_1 : w9.cell? ⟨w8.heap.size, 1, none⟩ = some (.int .i64 5) := hx9.has zcv
   have z9 := hx9.size
   try simp at z9
   have lt_c0_c3 : w1.heap.size < w8.heap.size := by omega
   have ne_c0_c3 : ¬ w1.heap.size = w8.heap.size := by omega
   have lt_c1_c3 : w2.heap.size < w8.heap.size := by omega
   have ne_c1_c3 : ¬ w2.heap.size = w8.heap.size := by omega
   have lt_c2_c3 : w3.heap.size < w8.heap.size := by omega
   have ne_c2_c3 : ¬ w3.heap.size = w8.heap.size := by omega
   have ne_c3_c0 : ¬ w8.heap.size = w1.heap.size := by omega
   have ne_c3_c1 : ¬ w8.heap.size = w2.heap.size := by omega
   have ne_c3_c2 : ¬ w8.heap.size = w3.heap.size := by omega
   replace rc0 := zr w1.heap.size w9
   replace rc1 := zr w2.heap.size w9
   replace rc2 := zr w3.heap.size w9
   have rc3 := zr w8.heap.size w9
   have X9 : Hid (Ext w w9) := Lib.hid (Ext.trans zxt hx9)
   clear HL X8 hx9
   go_wp2_with fail
   refine bodyPost_ret (v := .bool true) (by simp [results, Tryz.results12, go_sem, World.cell?_alloc_past, *]; try rfl) rfl ⟨rfl, ?_⟩
   exact zxt
 ·go_simp
  refine' zk hK zSlTba5_3 (fun hHeld => ?_); clear hK K
  refine' zn 1 (fun K hK => ?_)
  go_simp
  (with_reducible refine (at13_any 2 5 _).mono ?_)
  rintro e w3 ⟨rfl, hx3⟩
  replace c0_0f := zf hx3 c0_0 c0_0f
  replace c0_1f := zf hx3 c0_1 c0_1f
  replace c0_0 := zh hx3 c0_0
  replace c0_1 := zh hx3 c0_1
  have c1_0f : w3.frozen? ⟨w2.heap.size, 0, none⟩ = false := hx3.froz (v := .slice G 2 dg) zcv zcv
  have c1_1f : w3.frozen? ⟨w2.heap.size, 1, none⟩ = false := hx3.froz (v := .slice G2 3 dg2) zcv zcv
  have c1_0 : w3.cell? ⟨w2.heap.size, 0, none⟩ = some (.slice G 2 dg) := hx3.has zcv
  have c1_1 : w3.cell? ⟨w2.heap.size, 1, none⟩ = some (.slice G2 3 dg2) := hx3.has zcv
  have c2_0f : w3.frozen? ⟨w2.heap.size + 1, 0, none⟩ = false := hx3.froz (v := .slice none 0 0) zcv zcv
  have c2_1f : w3.frozen? ⟨w2.heap.size + 1, 1, none⟩ = false := hx3.froz (v := .slice none 0 0) zcv zcv
  have c2_0 : w3.cell? ⟨w2.heap.size + 1, 0, none⟩ = some (.slice none 0 0) := hx3.has zcv
  have c2_1 : w3.cell? ⟨w2.heap.size + 1, 1, none⟩ = some (.slice none 0 0) := hx3.has zcv
  have z3 := hx3.size
  try simp at z3
  have lt_c0_c1 : w1.heap.size < w2.heap.size := by omega
  have ne_c0_c1 : ¬ w1.heap.size = w2.heap.size := by omega
  have lt_c0_c2 : w1.heap.size < w2.heap.size + 1 := by omega
  have ne_c0_c2 : ¬ w1.heap.size = w2.heap.size + 1 := by omega
  have ne_c1_c0 : ¬ w2.heap.size = w1.heap.size := by omega
  have lt_c1_c2 : w2.heap.size < w2.heap.size + 1 := by omega
  have ne_c1_c2 : ¬ w2.heap.size = w2.heap.size + 1 := by omega
  have ne_c2_c0 : ¬ w2.heap.size + 1 = w1.heap.size := by omega
  have ne_c2_c1 : ¬ w2.heap.size + 1 = w2.heap.size := by omega
  replace rc0 := zr w1.heap.size w3
  have rc1 := zr w2.heap.size w3
  have rc2 := zr (w2.heap.size + 1) w3
  replace HC := Lib.hid (HC.out.ext (Ext.trans zxt hx3))
  replace HQ := Lib.hid (HQ.out.ext (Ext.trans zxt hx3))
  replace HL := Lib.hid ((show OwnLoss _ w.heap.size (.slice A 1 c) 1 awL from zSlTba5_0).ext hx3)
  have X3 : Hid (Ext w w3) := Lib.hid (Ext.trans zxt hx3)
  clear X2 hx3
  refine' zk hK zSlTba5_3 (fun hHeld => ?_); clear hK K
  refine' zn 2 (fun K hK => ?_)
  go_simp
  (with_reducible refine (awLeave_any dg dg2 G G2 _ (OwnCls.sl (HC.out.ext zxt)) (OwnPos.sl (HQ.out.ext zxt)) hG hG2).mono ?_)
  rintro e w4 ⟨J, dj, J2, dj2, rfl, hO, hO2, hx4⟩
  replace c0_0f := zf hx4 c0_0 c0_0f
  replace c0_1f := zf hx4 c0_1 c0_1f
  replace c0_0 := zh hx4 c0_0
  replace c0_1 := zh hx4 c0_1
  replace c1_0f := zf hx4 c1_0 c1_0f
  replace c1_1f := zf hx4 c1_1 c1_1f
  replace c1_0 := zh hx4 c1_0
  replace c1_1 := zh hx4 c1_1
  replace c2_0f := zf hx4 c2_0 c2_0f
  replace c2_1f := zf hx4 c2_1 c2_1f
  replace c2_0 := zh hx4 c2_0
  replace c2_1 := zh hx4 c2_1
  have z4 := hx4.size
  try simp at z4
  replace rc0 := zr w1.heap.size w4
  replace rc1 := zr w2.heap.size w4
  replace rc2 := zr (w2.heap.size + 1) w4
  replace HL := Lib.hid ((show OwnLoss _ w.heap.size (.slice A 1 c) 1 awL from zSlTba5_0).ext hx4)
  have X4 : Hid (Ext w w4) := Lib.hid (Ext.trans zxt hx4)
  have HD := Lib.hid (show OwnCls _ w.heap.size _ _ _ from own_lower hO zSlTba5_4)
  have HR := Lib.hid (show OwnPos _ w.heap.size _ _ _ from own_lower hO2 zSlTba5_4)
  clear HC HQ X3 hx4
  have RD := Lib.hid (own_rng hO)
  have RR := Lib.hid (own_rng hO2)
  clear hO hO2
  refine' zk hK zSlTba5_3 (fun hHeld => ?_); clear hK K
  refine' zt 3 ?_
  refine' zt 4 ?_
  refine' zt 5 ?_
  refine' zt 6 ?_
  refine' zn 8 (fun K hK => ?_)
  go_simp
  refine' zk hK zSlTba5_3 (fun hHeld => ?_); clear hK K
  refine' zt 9 ?_
  refine' zt 10 ?_
  refine wpAnyH_done (by kernel_rfl) ?_ _
  go_wp2_with fail
  refine wp_region_held_drew (S := fun w' => w'.cell? ⟨w2.heap.size + 1, 0, none⟩ = some (.slice J 2 dj) ∧ w'.cell? ⟨w2.heap.size + 1, 1, none⟩ = some (.slice J2 3 dj2)) (by kernel_rfl) (by first | exact ⟨c2_0, c2_1⟩ | (simp [go_sem, World.cell?_alloc_past, *]; done)) (fun hHeld => ?_)
  refine' zt 0 ?_
  refine' zn 1 (fun K hK => ?_)
  go_simp
  (with_reducible refine (at13_any 2 5 _).mono ?_)
  rintro e w5 ⟨rfl, hx5⟩
  replace c0_0f := zf hx5 c0_0 c0_0f
  replace c0_1f := zf hx5 c0_1 c0_1f
  replace c0_0 := zh hx5 c0_0
  replace c0_1 := zh hx5 c0_1
  replace c1_0f := zf hx5 c1_0 c1_0f
  replace c1_1f := zf hx5 c1_1 c1_1f
  replace c1_0 := zh hx5 c1_0
  replace c1_1 := zh hx5 c1_1
  replace c2_0f : w5.frozen? ⟨w2.heap.size + 1, 0, none⟩ = false := hx5.froz (v := .slice J 2 dj) zcv zcv
  replace c2_1f : w5.frozen? ⟨w2.heap.size + 1, 1, none⟩ = false := hx5.froz (v := .slice J2 3 dj2) zcv zcv
  replace c2_0 : w5.cell? ⟨w2.heap.size + 1, 0, none⟩ = some (.slice J 2 dj) := hx5.has zcv
  replace c2_1 : w5.cell? ⟨w2.heap.size + 1, 1, none⟩ = some (.slice J2 3 dj2) := hx5.has zcv
  have z5 := hx5.size
  try simp at z5
  replace rc0 := zr w1.heap.size w5
  replace rc1 := zr w2.heap.size w5
  replace rc2 := zr (w2.heap.size + 1) w5
  replace HL := Lib.hid ((show OwnLoss _ w.heap.size (.slice A 1 c) 1 awL from zSlTba5_0).ext hx5)
  replace HD := Lib.hid ((show OwnCls _ w.heap.size (.slice J 2 dj) 2 awD from zSlTba5_2).ext hx5)
  replace HR := Lib.hid ((show OwnPos _ w.heap.size (.slice J2 3 dj2) 3 awQ from zSlTba5_1).ext hx5)
  have X5 : Hid (Ext w w5) := Lib.hid (Ext.trans zxt hx5)
  clear X4 hx5
  refine' zk hK zSlTba5_5 (fun hHeld => ?_); clear hK K
  refine' zn 2 (fun K hK => ?_)
  go_simp
  (refine (awValue_any dj dj2 J J2 _ (OwnCls.sl (show OwnCls _ w.heap.size (.slice J 2 dj) 2 awD from zSlTba5_2)) (OwnPos.sl (show OwnPos _ w.heap.size (.slice J2 3 dj2) 3 awQ from zSlTba5_1))).mono ?_)
  rintro e w6 ⟨rfl, hx6⟩
  replace c0_0f := zf hx6 c0_0 c0_0f
  replace c0_1f := zf hx6 c0_1 c0_1f
  replace c0_0 := zh hx6 c0_0
  replace c0_1 := zh hx6 c0_1
  replace c1_0f := zf hx6 c1_0 c1_0f
  replace c1_1f := zf hx6 c1_1 c1_1f
  replace c1_0 := zh hx6 c1_0
  replace c1_1 := zh hx6 c1_1
  replace c2_0f := zf hx6 c2_0 c2_0f
  replace c2_1f := zf hx6 c2_1 c2_1f
  replace c2_0 := zh hx6 c2_0
  replace c2_1 := zh hx6 c2_1
  have z6 := hx6.size
  try simp at z6
  replace rc0 := zr w1.heap.size w6
  replace rc1 := zr w2.heap.size w6
  replace rc2 := zr (w2.heap.size + 1) w6
  replace HL := Lib.hid ((show OwnLoss _ w.heap.size (.slice A 1 c) 1 awL from zSlTba5_0).ext hx6)
  replace HD := Lib.hid ((show OwnCls _ w.heap.size (.slice J 2 dj) 2 awD from zSlTba5_2).ext hx6)
  replace HR := Lib.hid ((show OwnPos _ w.heap.size (.slice J2 3 dj2) 3 awQ from zSlTba5_1).ext hx6)
  have X6 : Hid (Ext w w6) := Lib.hid (Ext.trans zxt hx6)
  clear X5 hx6
  refine' zk hK zSlTba5_5 (fun hHeld => ?_); clear hK K
  refine' zt 3 ?_
  refine' zt 4 ?_
  refine' zt 5 ?_
  refine' zt 6 ?_
  refine' zt 7 ?_
  refine wpAnyH_done (by kernel_rfl) ?_ _
  go_wp2_with fail
  (refine (awOwn_any dj dj2 J J2 _ (OwnCls.sl (show OwnCls _ w.heap.size (.slice J 2 dj) 2 awD from zSlTba5_2)) (OwnPos.sl (show OwnPos _ w.heap.size (.slice J2 3 dj2) 3 awQ from zSlTba5_1))).mono ?_)
  rintro e w7 ⟨rfl, hx7⟩
  replace c0_0f := zf hx7 c0_0 c0_0f
  replace c0_1f := zf hx7 c0_1 c0_1f
  replace c0_0 := zh hx7 c0_0
  replace c0_1 := zh hx7 c0_1
  replace c1_0f := zf hx7 c1_0 c1_0f
  replace c1_1f := zf hx7 c1_1 c1_1f
  replace c1_0 := zh hx7 c1_0
  replace c1_1 := zh hx7 c1_1
  replace c2_0f := zf hx7 c2_0 c2_0f
  replace c2_1f := zf hx7 c2_1 c2_1f
  replace c2_0 := zh hx7 c2_0
  replace c2_1 := zh hx7 c2_1
  have z7 := hx7.size
  try simp at z7
  replace rc0 := zr w1.heap.size w7
  replace rc1 := zr w2.heap.size w7
  replace rc2 := zr (w2.heap.size + 1) w7
  replace HL := Lib.hid ((show OwnLoss _ w.heap.size (.slice A 1 c) 1 awL from zSlTba5_0).ext hx7)
  have X7 : Hid (Ext w w7) := Lib.hid (Ext.trans zxt hx7)
  clear HD HR X6 hx7
  go_wp2_with fail
  (with_reducible refine (at13_any 2 5 _).mono ?_)
  rintro e w8 ⟨rfl, hx8⟩
  replace c0_0f := zf hx8 c0_0 c0_0f
  replace c0_1f := zf hx8 c0_1 c0_1f
  replace c0_0 := zh hx8 c0_0
  replace c0_1 := zh hx8 c0_1
  replace c1_0f := zf hx8 c1_0 c1_0f
  replace c1_1f := zf hx8 c1_1 c1_1f
  replace c1_0 := zh hx8 c1_0
  replace c1_1 := zh hx8 c1_1
  replace c2_0f := zf hx8 c2_0 c2_0f
  replace c2_1f := zf hx8 c2_1 c2_1f
  replace c2_0 := zh hx8 c2_0
  replace c2_1 := zh hx8 c2_1
  have z8 := hx8.size
  try simp at z8
  replace rc0 := zr w1.heap.size w8
  replace rc1 := zr w2.heap.size w8
  replace rc2 := zr (w2.heap.size + 1) w8
  replace HL := Lib.hid ((show OwnLoss _ w.heap.size (.slice A 1 c) 1 awL from zSlTba5_0).ext hx8)
  have X8 : Hid (Ext w w8) := Lib.hid (Ext.trans zxt hx8)
  clear X7 hx8
  go_wp2_with fail
  (refine (((kSameLosses_any A (some ⟨w8.heap.size, 0, none⟩) 1 c 1 1 awL awL (w8.alloc (.cells #[.int .i64 2, .int .i64 5, .int .i64 (-1), .int .i64 0, .int .u64 2] 73)) (OwnLoss.sl (show OwnLoss _ w.heap.size (.slice A 1 c) 1 awL from zSlTba5_0)) (show Sl _ 5 _ 1 1 (awL.flatMap lossC) from sl_new w8 73 5 #[.int .i64 2, .int .i64 5, .int .i64 (-1), .int .i64 0, .int .u64 2] 1 rfl (by decide))).mono (fun e w' h => (⟨h.1.trans (by simp), h.2⟩ : e = .returned (.bool true) ∧ Ext _ w')))).mono ?_)
  rintro e w9 ⟨rfl, hx9⟩
  replace c0_0f := zf hx9 c0_0 c0_0f
  replace c0_1f := zf hx9 c0_1 c0_1f
  replace c0_0 := zh hx9 c0_0
  replace c0_1 := zh hx9 c0_1
  replace c1_0f := zf hx9 c1_0 c1_0f
  replace c1_1f := zf hx9 c1_1 c1_1f
  replace c1_0 := zh hx9 c1_0
  replace c1_1 := zh hx9 c1_1
  replace c2_0f := zf hx9 c2_0 c2_0f
  replace c2_1f := zf hx9 c2_1 c2_1f
  replace c2_0 := zh hx9 c2_0
  replace c2_1 := zh hx9 c2_1
  have c3_0f : w9.frozen? ⟨w8.heap.size, 0, none⟩ = false := hx9.froz (v := .int .i64 2) zcv zcv
  have c3_1f : w9.frozen? ⟨w8.heap.size, 1, none⟩ = false := hx9.froz (v := .int .i64 5) zcv zcv
  have c3_0 : w9.cell? ⟨w8.heap.size, 0, none⟩ = some (.int .i64 2) := hx9.has zcv
  have c3_1 : w9.cell? ⟨w8.heap.size, 1, none⟩ = some (.int .i64 5) := hx9.has zcv
  have z9 := hx9.size
  try simp at z9
  have lt_c0_c3 : w1.heap.size < w8.heap.size := by omega
  have ne_c0_c3 : ¬ w1.heap.size = w8.heap.size := by omega
  have lt_c1_c3 : w2.heap.size < w8.heap.size := by omega
  have ne_c1_c3 : ¬ w2.heap.size = w8.heap.size := by omega
  have lt_c2_c3 : w2.heap.size + 1 < w8.heap.size := by omega
  have ne_c2_c3 : ¬ w2.heap.size + 1 = w8.heap.size := by omega
  have ne_c3_c0 : ¬ w8.heap.size = w1.heap.size := by omega
  have ne_c3_c1 : ¬ w8.heap.size = w2.heap.size := by omega
  have ne_c3_c2 : ¬ w8.heap.size = w2.heap.size + 1 := by omega
  replace rc0 := zr w1.heap.size w9
  replace rc1 := zr w2.heap.size w9
  replace rc2 := zr (w2.heap.size + 1) w9
  have rc3 := zr w8.heap.size w9
  have X9 : Hid (Ext w w9) := Lib.hid (Ext.trans zxt hx9)
  clear HL X8 hx9
  go_wp2_with fail
  refine bodyPost_ret (v := .bool true) (by simp [results, Tryz.results12, go_sem, World.cell?_alloc_past, *]; try rfl) rfl ⟨rfl, ?_⟩
  exact zxt
end
end Go.Proofs.YtkinchgjidpjnaaGreat
