/- roster: one validator of a clone is jailed. Conditions stand in each lemma. -/
import Derived.Test.YtjdpgapmdmpjjaaRos10
set_option linter.unusedVariables false
set_option linter.unusedSimpArgs false
namespace Go.Proofs.Ytjdpgapmdmpjjaa
open Go.RowKit Go.ChangeShapes Go.WideShapes Go.Deep Go.Joins

def jailOne (x : (Int × Int × Int × Int × Bool × Bool)) (u : Int) : (Int × Int × Int × Int × Bool × Bool) := (x.1, x.2.1, 3, max x.2.2.2.1 u, x.2.2.2.2)
theorem val_set2 (l : List (Int × Int × Int × Int × Bool × Bool)) (k : Nat) (x : (Int × Int × Int × Int × Bool × Bool)) (s t : Int) (h : l[k]? = some x) : ((l.flatMap valC).set (k * 6 + 2) (.int .i64 s)).set (k * 6 + 3) (.int .i64 t) = (l.set k (x.1, x.2.1, s, t, x.2.2.2.2)).flatMap valC := by
  obtain ⟨hk, hx⟩ := List.getElem?_eq_some_iff.1 h
  have e : l = l.take k ++ x :: l.drop (k + 1) := by rw [← hx, ← List.drop_eq_getElem_cons hk, List.take_append_drop]
  have hp : (l.take k).length = k := by rw [List.length_take]; omega
  have hq : ((l.take k).flatMap valC).length = k * 6 := by rw [flat_len valC_len, hp]
  have e2 : l.set k (x.1, x.2.1, s, t, x.2.2.2.2) = l.take k ++ (x.1, x.2.1, s, t, x.2.2.2.2) :: l.drop (k + 1) := by
    rw [List.set_eq_take_append_cons_drop, if_pos hk]
  rw [e2]
  generalize l.take k = a at *
  generalize l.drop (k + 1) = b at *
  subst e
  rw [List.flatMap_append, List.flatMap_append, ← hq, List.set_append_right _ _ (by omega), Nat.add_sub_cancel_left, List.set_append_right _ _ (by omega), Nat.add_sub_cancel_left]
  simp [valC]
set_option maxRecDepth 100000 in
set_option maxHeartbeats 1000000 in
theorem rosChangeJail_any (A : Option Addr) (c k ub : Nat) (l : List (Int × Int × Int × Int × Bool × Bool)) (x : (Int × Int × Int × Int × Bool × Bool)) (u : Int) (w : World) (h : Sl w 6 A l.length c (l.flatMap valC)) (hn : l.length < 1099511627776) (hnil : A = none → c = 0) (hk : l[k]? = some x) (y_0 : w.cell? ⟨ub, 0, none⟩ = some (.int .i64 u)) :
    Calls Try.prog 106 #[.slice A l.length c, .int .i64 (k : Int), .func (.func 107) #[] #[.pointer (some ⟨ub, 0, none⟩)]] w (RetV (l.set k (jailOne x u)) [.int .i64 0] w) := by
  have s1 := h.small
  have hk1 : k < l.length := (List.getElem?_eq_some_iff.1 hk).1
  have hkn : (k : Int) < l.length := by omega
  have hub := cell_lt y_0
  have hlk : ∀ j v, (valC x)[j]? = some v → (l.flatMap valC)[k * 6 + j]? = some v := fun j v hv => by rw [flat_get valC_len l k j x hk (by have := (List.getElem?_eq_some_iff.1 hv).1; simp [valC] at this ⊢; omega)]; exact hv
  have HS := Lib.hid h
  have HK := Lib.hid (And.intro hk hk1)
  have HLK := Lib.hid hlk
  clear h hk hlk hk1
  go_enter Try.func106, Try.ntmps106
  go_wp2_with fail
  (with_reducible refine (vClone_any A c l _ HS.out hn hnil).mono ?_)
  rintro e w1 ⟨A3, c3, rfl, hA3, hO3, hx1⟩
  have y_1 : w1.cell? ⟨ub, 0, none⟩ = some (.int .i64 u) := hx1.has y_0
  rcases hO3.2 with ⟨_, h0⟩ | ⟨g, cap, cur, h', hbg, _⟩
  · have := HK.out.2; omega
  injection h' with h1 h2 h3
  subst h1; subst h3
  have hlen := hO3.1
  have hkk := HK.out.2
  have z_2 := (World.ownsRow.cellAt hO3 (k * 6 + 2) (by omega)).trans (HLK.out 2 _ rfl)
  have z_2f := World.ownsRow.frozenAt hO3 (k * 6 + 2)
  have z_3 := (World.ownsRow.cellAt hO3 (k * 6 + 3) (by omega)).trans (HLK.out 3 _ rfl)
  have z_3f := World.ownsRow.frozenAt hO3 (k * 6 + 3)
  have hne : ub ≠ g := by omega
  have HO := Lib.hid hO3
  have X1 := Lib.hid hx1
  clear hO3 hx1 hlen hkk
  go_wp2_with fail
  (with_reducible refine (rosJail1_any g (k * 6) ub _ x.2.2.2.1 u (max x.2.2.2.1 u) _ rfl hne z_2 z_2f z_3 z_3f y_1).mono ?_)
  rintro e w2 ⟨⟨v, rfl⟩, rfl⟩
  have HW : OwnVal w1.drew w.heap.size (.slice (some ⟨g, 0, none⟩) l.length c3) l.length l := HO.out.ext ((Ext.refl _).drew)
  have HW2 := (World.ownsRow.stored (World.ownsRow.stored HW (k * 6 + 2) (.int .i64 3)).1 (k * 6 + 3) (.int .i64 (max x.2.2.2.1 u))).1
  rw [val_set2 l k x _ _ HK.out.1] at HW2
  have HW3 := Lib.hid (show OwnVal _ w.heap.size (.slice (some ⟨g, 0, none⟩) l.length c3) l.length (l.set k (jailOne x u)) from HW2)
  have XX := Lib.hid (((X1.out.drew).setCell (p := ⟨g, k * 6 + 2, none⟩) hbg (.int .i64 3)).setCell (p := ⟨g, k * 6 + 3, none⟩) hbg (.int .i64 (max x.2.2.2.1 u)))
  clear HW HW2 z_2 z_3 z_2f z_3f
  go_wp2_with fail
  refine bodyPost_ret (v := .tuple #[.slice (some ⟨g, 0, none⟩) l.length c3, .int .i64 0]) (by simp [results, Try.results106]; try rfl) rfl (RetV.mk (xs := [.int .i64 0]) HW3.out XX.out (by simp))
end Go.Proofs.Ytjdpgapmdmpjjaa
