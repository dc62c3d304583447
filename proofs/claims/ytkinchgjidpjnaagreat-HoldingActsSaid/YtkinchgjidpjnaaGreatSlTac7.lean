/- Tac, part 7. Conditions stand in each lemma. -/
import Derived.Test.YtkinchgjidpjnaaGreatSlTac6
set_option linter.unusedVariables false
set_option linter.unusedSimpArgs false
set_option maxRecDepth 100000
set_option maxHeartbeats 64000000
namespace Go.Proofs.YtkinchgjidpjnaaGreat
section
open Go.RowKit Go.ChangeShapes Go.WideShapes Go.Deep Go.Joins
theorem zSlTac7_0 {P : Prop} (h : P := by first | omega | (simp; done) | (simp; omega)) : P := h
theorem should13_join (c c2 : Nat) (A A2 : Option Addr) (cl ps : List I6) (k o V S P Q v h n : Int) (C P' : List I6) (N E : Int) (L : List I5) (w : World) (hs : Sl w 6 A cl.length c (cl.flatMap clsC)) (hs2 : Sl w 6 A2 ps.length c2 (ps.flatMap posC)) (hn : cl.length < 1099511627776) (hn2 : ps.length < 1099511000) (hw : ∀ x ∈ cl, WdC x) (hw2 : ∀ x ∈ ps, WdP x) (hwn : Word n) (hk : k = 0) (hR : (C, P', N, E) = hjoiV cl ps o V S P Q n) (hL : L = []) :
  Calls Tryz.prog 17 #[.agg #[.slice A cl.length c, .slice A2 ps.length c2], .agg #[.int .i64 k, .int .i64 o, .int .i64 V, .int .i64 S, .int .i64 P, .int .i64 Q, .int .i64 v, .int .i64 h, .int .u64 n]] w (RetD C P' N L E w) := by
 have C1 := Lib.hid (fun (w' : World) (hx : Ext w w') => (r13Join_any c c2 A A2 cl ps o V S P Q n w' (hs.ext hx) (hs2.ext hx) hn2 hw hw2 hwn).mono (fun e w'' H => RetJ.ex (C := C) (P := P') (N := N) (E := E) (by rw [hR]; exact H)))
 subst hk
 subst hL
 clear hs hs2 hw hw2 hwn hR
 go_enter Tryz.func17, Tryz.ntmps17
 go_wp2_with fail
 (with_reducible refine (C1.out _ zxt).mono ?_)
 rintro e w1 ⟨B, d, B2, d2, rfl, hO, hP, hx1⟩
 have c2_0f : w1.frozen? ⟨w.heap.size + 1 + 1, 0, none⟩ = false := hx1.froz (v := .slice none 0 0) zcv zcv
 have c2_1f : w1.frozen? ⟨w.heap.size + 1 + 1, 1, none⟩ = false := hx1.froz (v := .slice none 0 0) zcv zcv
 have c2_0 : w1.cell? ⟨w.heap.size + 1 + 1, 0, none⟩ = some (.slice none 0 0) := hx1.has zcv
 have c2_1 : w1.cell? ⟨w.heap.size + 1 + 1, 1, none⟩ = some (.slice none 0 0) := hx1.has zcv
 have z1 := hx1.size
 try simp at z1
 have rc2 := zr (w.heap.size + 1 + 1) w1
 have X1 : Hid (Ext w w1) := Lib.hid (Ext.trans zxt hx1)
 have HO := Lib.hid (show OwnCls _ w.heap.size _ _ _ from own_lower hO zSlTac7_0)
 have HP := Lib.hid (show OwnPos _ w.heap.size _ _ _ from own_lower hP zSlTac7_0)
 clear hx1
 have HOw := Lib.hid (own_lower hO (show w.heap.size + 3 ≤ _ from zSlTac7_0))
 have HPw := Lib.hid (own_lower hP (show w.heap.size + 3 ≤ _ from zSlTac7_0))
 clear hO hP
 go_wp2_with fail
 refine bodyPost_ret (v := .tuple #[.agg #[.slice B C.length d, .slice B2 P'.length d2], .int .u64 N, .slice none 0 0, .int .i64 E]) (by simp [results, Tryz.results17, go_sem, World.cell?_alloc_past, *]; try rfl) rfl (RetD.mk (L := []) (b := w.heap.size + 3) (by omega) (show World.ownsRow _ (w.heap.size + 3) _ _ _ _ _ from by repeat (first | exact HOw.out | with_reducible refine own_box ?_ (by omega) | refine own_keep ?_ (Ext.alloc (Ext.refl _) _))) (show World.ownsRow _ (w.heap.size + 3) _ _ _ _ _ from by repeat (first | exact HPw.out | with_reducible refine own_box ?_ (by omega) | refine own_keep ?_ (Ext.alloc (Ext.refl _) _))) (OwnLoss.nil _ _) zxt)
theorem should13_leave (c c2 : Nat) (A A2 : Option Addr) (cl ps : List I6) (k o V S P Q v h n : Int) (C P' : List I6) (N E : Int) (L : List I5) (w : World) (hs : Sl w 6 A cl.length c (cl.flatMap clsC)) (hs2 : Sl w 6 A2 ps.length c2 (ps.flatMap posC)) (hn : cl.length < 1099511627776) (hn2 : ps.length < 1099511000) (hw : ∀ x ∈ cl, WdC x) (hw2 : ∀ x ∈ ps, WdP x) (hwn : Word n) (hk : k = 1) (hR : (C, P', N, E) = hleaV cl ps o V S P Q n) (hL : L = []) :
  Calls Tryz.prog 17 #[.agg #[.slice A cl.length c, .slice A2 ps.length c2], .agg #[.int .i64 k, .int .i64 o, .int .i64 V, .int .i64 S, .int .i64 P, .int .i64 Q, .int .i64 v, .int .i64 h, .int .u64 n]] w (RetD C P' N L E w) := by
 have C1 := Lib.hid (fun (w' : World) (hx : Ext w w') => (r13Leave_any c c2 A A2 cl ps o V S P Q n w' (hs.ext hx) (hs2.ext hx) hn2 hw hw2 hwn).mono (fun e w'' H => RetJ.ex (C := C) (P := P') (N := N) (E := E) (by rw [hR]; exact H)))
 subst hk
 subst hL
 clear hs hs2 hw hw2 hwn hR
 go_enter Tryz.func17, Tryz.ntmps17
 go_wp2_with fail
 (with_reducible refine (C1.out _ zxt).mono ?_)
 rintro e w1 ⟨B, d, B2, d2, rfl, hO, hP, hx1⟩
 have c2_0f : w1.frozen? ⟨w.heap.size + 1 + 1, 0, none⟩ = false := hx1.froz (v := .slice none 0 0) zcv zcv
 have c2_1f : w1.frozen? ⟨w.heap.size + 1 + 1, 1, none⟩ = false := hx1.froz (v := .slice none 0 0) zcv zcv
 have c2_0 : w1.cell? ⟨w.heap.size + 1 + 1, 0, none⟩ = some (.slice none 0 0) := hx1.has zcv
 have c2_1 : w1.cell? ⟨w.heap.size + 1 + 1, 1, none⟩ = some (.slice none 0 0) := hx1.has zcv
 have z1 := hx1.size
 try simp at z1
 have rc2 := zr (w.heap.size + 1 + 1) w1
 have X1 : Hid (Ext w w1) := Lib.hid (Ext.trans zxt hx1)
 have HO := Lib.hid (show OwnCls _ w.heap.size _ _ _ from own_lower hO zSlTac7_0)
 have HP := Lib.hid (show OwnPos _ w.heap.size _ _ _ from own_lower hP zSlTac7_0)
 clear hx1
 have HOw := Lib.hid (own_lower hO (show w.heap.size + 3 ≤ _ from zSlTac7_0))
 have HPw := Lib.hid (own_lower hP (show w.heap.size + 3 ≤ _ from zSlTac7_0))
 clear hO hP
 go_wp2_with fail
 refine bodyPost_ret (v := .tuple #[.agg #[.slice B C.length d, .slice B2 P'.length d2], .int .u64 N, .slice none 0 0, .int .i64 E]) (by simp [results, Tryz.results17, go_sem, World.cell?_alloc_past, *]; try rfl) rfl (RetD.mk (L := []) (b := w.heap.size + 3) (by omega) (show World.ownsRow _ (w.heap.size + 3) _ _ _ _ _ from by repeat (first | exact HOw.out | with_reducible refine own_box ?_ (by omega) | refine own_keep ?_ (Ext.alloc (Ext.refl _) _))) (show World.ownsRow _ (w.heap.size + 3) _ _ _ _ _ from by repeat (first | exact HPw.out | with_reducible refine own_box ?_ (by omega) | refine own_keep ?_ (Ext.alloc (Ext.refl _) _))) (OwnLoss.nil _ _) zxt)
theorem should13_cut (c c2 : Nat) (A A2 : Option Addr) (cl ps : List I6) (k o V S P Q v h n : Int) (C P' : List I6) (N E : Int) (L : List I5) (w : World) (hs : Sl w 6 A cl.length c (cl.flatMap clsC)) (hs2 : Sl w 6 A2 ps.length c2 (ps.flatMap posC)) (hn : cl.length < 1099511627776) (hn2 : ps.length < 1099511000) (hw : ∀ x ∈ cl, WdC x) (hw2 : ∀ x ∈ ps, WdP x) (hwn : Word n) (hk : k = 2) (hR : (C, P', L, N, E) = hcutV cl ps v h n) :
  Calls Tryz.prog 17 #[.agg #[.slice A cl.length c, .slice A2 ps.length c2], .agg #[.int .i64 k, .int .i64 o, .int .i64 V, .int .i64 S, .int .i64 P, .int .i64 Q, .int .i64 v, .int .i64 h, .int .u64 n]] w (RetD C P' N L E w) := by
 have C1 := Lib.hid (fun (w' : World) (hx : Ext w w') => (r13Cut_any c c2 A A2 cl ps v h n w' (hs.ext hx) (hs2.ext hx) hn2 hw hw2 hwn).mono (fun e w'' H => RetK.ex (C := C) (P := P') (N := N) (E := E) (by rw [hR]; exact H)))
 subst hk

 clear hs hs2 hw hw2 hwn hR
 go_enter Tryz.func17, Tryz.ntmps17
 go_wp2_with fail
 (with_reducible refine (C1.out _ zxt).mono ?_)
 rintro e w1 ⟨B, d, B2, d2, A9, c9, rfl, hO, hP, hL, hx1⟩
 have c2_0f : w1.frozen? ⟨w.heap.size + 1 + 1, 0, none⟩ = false := hx1.froz (v := .slice none 0 0) zcv zcv
 have c2_1f : w1.frozen? ⟨w.heap.size + 1 + 1, 1, none⟩ = false := hx1.froz (v := .slice none 0 0) zcv zcv
 have c2_0 : w1.cell? ⟨w.heap.size + 1 + 1, 0, none⟩ = some (.slice none 0 0) := hx1.has zcv
 have c2_1 : w1.cell? ⟨w.heap.size + 1 + 1, 1, none⟩ = some (.slice none 0 0) := hx1.has zcv
 have z1 := hx1.size
 try simp at z1
 have rc2 := zr (w.heap.size + 1 + 1) w1
 have X1 : Hid (Ext w w1) := Lib.hid (Ext.trans zxt hx1)
 have HO := Lib.hid (show OwnCls _ w.heap.size _ _ _ from own_lower hO zSlTac7_0)
 have HP := Lib.hid (show OwnPos _ w.heap.size _ _ _ from own_lower hP zSlTac7_0)
 have HL := Lib.hid (show OwnLoss _ w.heap.size _ _ _ from own_lower hL zSlTac7_0)
 clear hx1
 have HOw := Lib.hid (own_lower hO (show w.heap.size + 3 ≤ _ from zSlTac7_0))
 have HPw := Lib.hid (own_lower hP (show w.heap.size + 3 ≤ _ from zSlTac7_0))
 have HLw := Lib.hid (own_lower hL (show w.heap.size + 3 ≤ _ from zSlTac7_0))
 clear hO hP hL
 go_wp2_with fail
 refine bodyPost_ret (v := .tuple #[.agg #[.slice B C.length d, .slice B2 P'.length d2], .int .u64 N, .slice A9 L.length c9, .int .i64 E]) (by simp [results, Tryz.results17, go_sem, World.cell?_alloc_past, *]; try rfl) rfl (RetD.mk (L := L) (b := w.heap.size + 3) (by omega) (show World.ownsRow _ (w.heap.size + 3) _ _ _ _ _ from by repeat (first | exact HOw.out | with_reducible refine own_box ?_ (by omega) | refine own_keep ?_ (Ext.alloc (Ext.refl _) _))) (show World.ownsRow _ (w.heap.size + 3) _ _ _ _ _ from by repeat (first | exact HPw.out | with_reducible refine own_box ?_ (by omega) | refine own_keep ?_ (Ext.alloc (Ext.refl _) _))) (show World.ownsRow _ (w.heap.size + 3) _ _ _ _ _ from by repeat (first | exact HLw.out | with_reducible refine own_box ?_ (by omega) | refine own_keep ?_ (Ext.alloc (Ext.refl _) _))) zxt)
theorem should13_none (c c2 : Nat) (A A2 : Option Addr) (cl ps : List I6) (k o V S P Q v h n : Int) (C P' : List I6) (N E : Int) (L : List I5) (w : World) (hs : Sl w 6 A cl.length c (cl.flatMap clsC)) (hs2 : Sl w 6 A2 ps.length c2 (ps.flatMap posC)) (hn : cl.length < 1099511627776) (hn2 : ps.length < 1099511000) (hw : ∀ x ∈ cl, WdC x) (hw2 : ∀ x ∈ ps, WdP x) (hwn : Word n) (hk : k ≠ 0 ∧ k ≠ 1 ∧ k ≠ 2) :
  Calls Tryz.prog 17 #[.agg #[.slice A cl.length c, .slice A2 ps.length c2], .agg #[.int .i64 k, .int .i64 o, .int .i64 V, .int .i64 S, .int .i64 P, .int .i64 Q, .int .i64 v, .int .i64 h, .int .u64 n]] w fun r w' => r = .returned (.tuple #[.agg #[.slice A cl.length c, .slice A2 ps.length c2], .int .u64 0, .slice none 0 0, .int .i64 0]) ∧ Ext w w' := by
 have k0 : (k == 0) = false := by simpa using hk.1
 have k1 : (k == 1) = false := by simpa using hk.2.1
 have k2 : (k == 2) = false := by simpa using hk.2.2
 clear hs hs2 hw hw2 hwn
 go_enter Tryz.func17, Tryz.ntmps17
 go_wp2_with fail
 refine bodyPost_ret (v := .tuple #[.agg #[.slice A cl.length c, .slice A2 ps.length c2], .int .u64 0, .slice none 0 0, .int .i64 0]) (by simp [results, Tryz.results17, go_sem, World.cell?_alloc_past]; try rfl) rfl ⟨rfl, zxt⟩
theorem should13_in (c c2 : Nat) (A A2 : Option Addr) (cl ps : List I6) (k o V S P Q v h n : Int) (C P' : List I6) (N E : Int) (L : List I5) (w : World) (hs : Sl w 6 A cl.length c (cl.flatMap clsC)) (hs2 : Sl w 6 A2 ps.length c2 (ps.flatMap posC)) (hn : cl.length < 1099511627776) (hn2 : ps.length < 1099511000) (hw : ∀ x ∈ cl, WdC x) (hw2 : ∀ x ∈ ps, WdP x) (hwn : Word n) (k0 : 0 ≤ k) (k2 : k ≤ 2) (hD : (C, P', N, L, E) = doeV cl ps k o V S P Q v h n) :
  Calls Tryz.prog 17 #[.agg #[.slice A cl.length c, .slice A2 ps.length c2], .agg #[.int .i64 k, .int .i64 o, .int .i64 V, .int .i64 S, .int .i64 P, .int .i64 Q, .int .i64 v, .int .i64 h, .int .u64 n]] w (RetD C P' N L E w) := by
 have hk : k = 0 ∨ k = 1 ∨ k = 2 := by omega
 rcases hk with hk | hk | hk
 ·have e : doeV cl ps k o V S P Q v h n = _ := if_pos hk
  rw [e] at hD
  simp only [Prod.mk.injEq] at hD
  obtain ⟨e1, e2, e3, e4, e5⟩ := hD
  exact should13_join c c2 A A2 cl ps k o V S P Q v h n C P' N E L w hs hs2 hn hn2 hw hw2 hwn hk (by rw [e1, e2, e3, e5]) e4
 ·have e : doeV cl ps k o V S P Q v h n = _ := (if_neg (by omega)).trans (if_pos hk)
  rw [e] at hD
  simp only [Prod.mk.injEq] at hD
  obtain ⟨e1, e2, e3, e4, e5⟩ := hD
  exact should13_leave c c2 A A2 cl ps k o V S P Q v h n C P' N E L w hs hs2 hn hn2 hw hw2 hwn hk (by rw [e1, e2, e3, e5]) e4
 have e : doeV cl ps k o V S P Q v h n = _ := (if_neg (by omega)).trans ((if_neg (by omega)).trans (if_pos hk))
 rw [e] at hD
 simp only [Prod.mk.injEq] at hD
 obtain ⟨e1, e2, e3, e4, e5⟩ := hD
 exact should13_cut c c2 A A2 cl ps k o V S P Q v h n C P' N E L w hs hs2 hn hn2 hw hw2 hwn hk (by rw [e1, e2, e3, e4, e5])
end
section
open Go.RowKit Go.ChangeShapes Go.WideShapes Go.Deep Go.Joins
section
variable {H : Type} {enc : TypeId × Value → H} {w : World} {base : Nat} {spare : Nat → Bool} {held : Bool}
theorem none_capH {P : Program} {t e : TypeId} {n c : Nat} {A : Option Addr} {x : DataW H × List MemPlace} {fuel : Nat} (ht : P.underlying t = some (.slice e)) (hf : DataW.trod enc P w base spare held fuel t [.slice A n c] = some x) : A = none → c = 0 := by
 intro hA
 subst hA
 rcases Go.Deep.open_slice ht hf with ⟨h0, _⟩ | ⟨a, len, cap, m, n', D, Pl, hcs, _⟩
 ·simp at h0; exact h0.2
 simp at hcs
theorem word_fitsH {x : Int} (h : Fits .u64 x) : Word x := by
 unfold Fits at h
 simp [Lit.wf, IntKind.min, IntKind.max, IntKind.bits, IntKind.signed] at h
 unfold Word
 omega
theorem pool_rec {cs : List Value} {m : Nat} {y : DataW H × List MemPlace} (h : DataW.trod enc Tryz.prog w base spare held m 61 cs = some y) (hl : cs.length = 2) : ∃ x : Int × Int, cs = [.int .u64 x.1, .int .u64 x.2] ∧ Word x.1 ∧ Word x.2 := by
 obtain ⟨x, h1, h2, h3⟩ := rec2 (k0 := .u64) (k1 := .u64) Tryz.underlying61 (by kernel_rfl) Tryz.underlying32 Tryz.underlying32 h hl
 exact ⟨x, h1, word_fitsH h2, word_fitsH h3⟩
theorem cls_rec {cs : List Value} {m : Nat} {y : DataW H × List MemPlace} (h : DataW.trod enc Tryz.prog w base spare held m 79 cs = some y) (hl : cs.length = 6) : ∃ x : I6, cs = clsC x ∧ WdC x := by
 obtain ⟨xs, n, _, rfl, _, hlen, hf⟩ := DataW.trod_struct Tryz.underlying79 h
 have cp : Tryz.prog.cellsOf 61 = 2 := by kernel_rfl
 have ct : Tryz.prog.cellsOf 37 = 4 := by kernel_rfl
 have g0 := hf 0 _ rfl
 have g1 := hf 1 _ rfl
 match cs, hl with
 | [v0, v1, v2, v3, v4, v5], _ =>
  match xs, hlen with
  | [y0, y1], _ =>
   simp [cp, ct] at g0 g1
   obtain ⟨b, hb, _⟩ := rec4 (k0 := .i64) (k1 := .i64) (k2 := .i64) (k3 := .i64) Tryz.underlying37 (by kernel_rfl) Tryz.underlying3 Tryz.underlying3 Tryz.underlying3 Tryz.underlying3 g0 rfl
   obtain ⟨p, hp, w1, w2⟩ := pool_rec g1 rfl
   simp at hb hp
   obtain ⟨rfl, rfl, rfl, rfl⟩ := hb
   obtain ⟨rfl, rfl⟩ := hp
   exact ⟨(b.1, b.2.1, b.2.2.1, b.2.2.2, p.1, p.2), rfl, w1, w2⟩
theorem pos_rec {cs : List Value} {m : Nat} {y : DataW H × List MemPlace} (h : DataW.trod enc Tryz.prog w base spare held m 82 cs = some y) (hl : cs.length = 6) : ∃ x : I6, cs = posC x ∧ WdP x := by
 obtain ⟨xs, n, _, rfl, _, hlen, hf⟩ := DataW.trod_struct Tryz.underlying82 h
 have ci : Tryz.prog.cellsOf 3 = 1 := by kernel_rfl
 have cu : Tryz.prog.cellsOf 32 = 1 := by kernel_rfl
 have ct : Tryz.prog.cellsOf 37 = 4 := by kernel_rfl
 have g0 := hf 0 _ rfl
 have g1 := hf 1 _ rfl
 have g2 := hf 2 _ rfl
 match cs, hl with
 | [v0, v1, v2, v3, v4, v5], _ =>
  match xs, hlen with
  | [y0, y1, y2], _ =>
   simp [ci, cu, ct] at g0 g1 g2
   obtain ⟨a, ha, _, wa⟩ := DataW.trod_int Tryz.underlying3 g0
   obtain ⟨b, hb, _⟩ := rec4 (k0 := .i64) (k1 := .i64) (k2 := .i64) (k3 := .i64) Tryz.underlying37 (by kernel_rfl) Tryz.underlying3 Tryz.underlying3 Tryz.underlying3 Tryz.underlying3 g1 rfl
   obtain ⟨e, he, _, we⟩ := DataW.trod_int Tryz.underlying32 g2
   simp at ha hb he
   obtain ⟨rfl, rfl, rfl, rfl⟩ := hb
   subst ha; subst he
   exact ⟨(a, b.1, b.2.1, b.2.2.1, b.2.2.2, e), rfl, word_fitsH we⟩
theorem open_hold {b0 : Nat} {r : Reach} {v : Value} {d : DataW H} {p : List MemPlace}
  (hv : Value.okWide Tryz.prog w r b0 25 v) (h : DataW.Trod enc Tryz.prog w base spare held 25 v d p) : ∃ A c A2 c2 cl ps, v = .agg #[.slice A (List.length (α := I6) cl) c, .slice A2 (List.length (α := I6) ps) c2] ∧ Sl w 6 A cl.length c (cl.flatMap clsC) ∧ Sl w 6 A2 ps.length c2 (ps.flatMap posC) ∧ (∀ x ∈ cl, WdC x) ∧ (∀ x ∈ ps, WdP x) ∧ (A = none → c = 0) ∧ (A2 = none → c2 = 0) := by
 obtain ⟨cs, rfl, hsz⟩ := okWide_struct Tryz.underlying25 hv
 obtain ⟨fuel, hf⟩ := h
 have c2 : Tryz.prog.cellsOf 25 = 2 := by kernel_rfl
 have k1 : Tryz.prog.cellsOf 22 = 1 := by kernel_rfl
 have k2 : Tryz.prog.cellsOf 23 = 1 := by kernel_rfl
 have hf' : DataW.trod enc Tryz.prog w base spare held fuel 25 cs.toList = some (d, p) := by simpa [Value.cells] using hf
 have hlen : cs.toList.length = 2 := by rw [Array.length_toList]; exact hsz.trans c2
 obtain ⟨y0, y1, n, _, _, g0, g1⟩ := trod_struct2 Tryz.underlying25 hf'
 match hcs : cs.toList, hlen with
 | [v0, v1], _ =>
  rw [hcs] at g0 g1
  simp [k1, k2] at g0 g1
  have e1 : ∃ A m c, v0 = .slice A m c := by
   rcases Go.Deep.open_slice Tryz.underlying22 g0 with ⟨h0, _⟩ | ⟨a, len, cap, m, n', D, Pl, h0, _⟩
   ·exact ⟨none, 0, 0, by simpa using h0⟩
   exact ⟨some a, len, cap, by simpa using h0⟩
  have e2 : ∃ A m c, v1 = .slice A m c := by
   rcases Go.Deep.open_slice Tryz.underlying23 g1 with ⟨h0, _⟩ | ⟨a, len, cap, m, n', D, Pl, h0, _⟩
   ·exact ⟨none, 0, 0, by simpa using h0⟩
   exact ⟨some a, len, cap, by simpa using h0⟩
  obtain ⟨A, m, c, rfl⟩ := e1
  obtain ⟨A2, m2, c', rfl⟩ := e2
  obtain ⟨cl, s1, l1, f1⟩ := open_rec (f := clsC) (sz := 6) (Good := WdC) Tryz.underlying22 (by kernel_rfl) (by decide) (fun cs m y h hl => cls_rec h hl) (show DataW.Trod enc Tryz.prog w base spare held 22 (.slice A m c) y0.1 y0.2 from ⟨n, by simpa [Value.cells] using g0⟩)
  obtain ⟨ps, s2, l2, f2⟩ := open_rec (f := posC) (sz := 6) (Good := WdP) Tryz.underlying23 (by kernel_rfl) (by decide) (fun cs m y h hl => pos_rec h hl) (show DataW.Trod enc Tryz.prog w base spare held 23 (.slice A2 m2 c') y1.1 y1.2 from ⟨n, by simpa [Value.cells] using g1⟩)
  subst l1; subst l2
  refine ⟨A, c, A2, c', cl, ps, ?_, s1, s2, f1, f2, none_capH Tryz.underlying22 g0, none_capH Tryz.underlying23 g1⟩
  rw [← Array.toArray_toList (xs := cs), hcs]
def actC (x : I9) : List Value := [.int .i64 x.1, .int .i64 x.2.1, .int .i64 x.2.2.1, .int .i64 x.2.2.2.1, .int .i64 x.2.2.2.2.1, .int .i64 x.2.2.2.2.2.1, .int .i64 x.2.2.2.2.2.2.1, .int .i64 x.2.2.2.2.2.2.2.1, .int .u64 x.2.2.2.2.2.2.2.2]
theorem actC_len (x : I9) : (actC x).length = 9 := rfl
def FitsA (x : I9) : Prop := Fits .i64 x.1 ∧ Fits .i64 x.2.1 ∧ Fits .i64 x.2.2.1 ∧ Fits .i64 x.2.2.2.1 ∧ Fits .i64 x.2.2.2.2.1 ∧ Fits .i64 x.2.2.2.2.2.1 ∧ Fits .i64 x.2.2.2.2.2.2.1 ∧ Fits .i64 x.2.2.2.2.2.2.2.1 ∧ Word x.2.2.2.2.2.2.2.2
theorem act_rec {cs : List Value} {m : Nat} {y : DataW H × List MemPlace} (h : DataW.trod enc Tryz.prog w base spare held m 39 cs = some y) (hl : cs.length = 9) : ∃ x : I9, cs = actC x ∧ FitsA x := by
 obtain ⟨xs, n, _, rfl, _, hlen, hf⟩ := DataW.trod_struct Tryz.underlying39 h
 have ci : Tryz.prog.cellsOf 3 = 1 := by kernel_rfl
 have cu : Tryz.prog.cellsOf 32 = 1 := by kernel_rfl
 have ct : Tryz.prog.cellsOf 37 = 4 := by kernel_rfl
 have g0 := hf 0 _ rfl
 have g1 := hf 1 _ rfl
 have g2 := hf 2 _ rfl
 have g3 := hf 3 _ rfl
 have g4 := hf 4 _ rfl
 have g5 := hf 5 _ rfl
 match cs, hl with
 | [v0, v1, v2, v3, v4, v5, v6, v7, v8], _ =>
  match xs, hlen with
  | [y0, y1, y2, y3, y4, y5], _ =>
   simp [ci, cu, ct] at g0 g1 g2 g3 g4 g5
   obtain ⟨a, ha, _, wa⟩ := DataW.trod_int Tryz.underlying3 g0
   obtain ⟨o, ho, _, wo⟩ := DataW.trod_int Tryz.underlying3 g1
   obtain ⟨b, hb, w1, w2, w3, w4⟩ := rec4 (k0 := .i64) (k1 := .i64) (k2 := .i64) (k3 := .i64) Tryz.underlying37 (by kernel_rfl) Tryz.underlying3 Tryz.underlying3 Tryz.underlying3 Tryz.underlying3 g2 rfl
   obtain ⟨c, hc, _, wc⟩ := DataW.trod_int Tryz.underlying3 g3
   obtain ⟨d, hd, _, wd⟩ := DataW.trod_int Tryz.underlying3 g4
   obtain ⟨e, he, _, we⟩ := DataW.trod_int Tryz.underlying32 g5
   simp at ha ho hb hc hd he
   obtain ⟨rfl, rfl, rfl, rfl⟩ := hb
   subst ha; subst ho; subst hc; subst hd; subst he
   exact ⟨(a, o, b.1, b.2.1, b.2.2.1, b.2.2.2, c, d, e), rfl, wa, wo, w1, w2, w3, w4, wc, wd, word_fitsH we⟩
theorem open_hacts {n c : Nat} {A : Option Addr} {d : DataW H} {p : List MemPlace}
  (h : DataW.Trod enc Tryz.prog w base spare held 26 (.slice A n c) d p) : ∃ l : List I9, n = l.length ∧ Sl w 9 A l.length c (l.flatMap actC) ∧ (∀ x ∈ l, FitsA x) ∧ (A = none → c = 0) := by
 have h' := h
 obtain ⟨fuel, hf⟩ := h'
 obtain ⟨l, h1, h2, h3⟩ := open_rec (f := actC) (sz := 9) (Good := FitsA) Tryz.underlying26 (by kernel_rfl) (by decide) (fun cs m y h hl => act_rec h hl) h
 subst h2
 exact ⟨l, rfl, h1, h3, none_capH Tryz.underlying26 (show DataW.trod enc Tryz.prog w base spare held fuel 26 [.slice A l.length c] = some (d, p) by simpa [Value.cells] using hf)⟩
end
end
end Go.Proofs.YtkinchgjidpjnaaGreat
