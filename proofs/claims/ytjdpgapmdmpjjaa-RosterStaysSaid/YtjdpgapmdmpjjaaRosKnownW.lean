/- law16: the chapter's examples; RosterKnown returns true. Conditions: none. -/
import Derived.Test.YtjdpgapmdmpjjaaRosBytesW
set_option linter.unusedVariables false
set_option linter.unusedSimpArgs false
namespace Go.Proofs.Ytjdpgapmdmpjjaa
open Go.RowKit Go.ChangeShapes Go.WideShapes Go.Deep Go.Joins

def kn5 : List (Int × Int × Int × Int × Bool × Bool) := [(5, 1, 1, 30, false, false), (3, 9, 1, 0, false, false)]
def pn1 : List (Int × Int × Int × Int × Bool × Bool) := [(5, 1, 1, 0, false, false), (3, 9, 3, 30, false, true)]
def pn2 : List (Int × Int × Int × Int × Bool × Bool) := [(5, 1, 1, 0, false, false), (3, 9, 4, 30, true, true)]
theorem wf_two {a b c d a' b' c' d' : Int} {e f e' f' : Bool} (h1 : (Lit.int .i64 a).wf = true) (h2 : (Lit.int .i64 a').wf = true) : ∀ x ∈ ([(a, b, c, d, e, f), (a', b', c', d', e', f')] : List (Int × Int × Int × Int × Bool × Bool)), (Lit.int .i64 x.1).wf = true := by
  intro x hx
  simp at hx
  rcases hx with rfl | rfl
  · exact h1
  · exact h2
theorem wf_aw4 : ∀ x ∈ aw4, (Lit.int .i64 x.1).wf = true := wf_two rfl rfl
theorem wf_pn1 : ∀ x ∈ pn1, (Lit.int .i64 x.1).wf = true := wf_two rfl rfl
theorem wf_pn2 : ∀ x ∈ pn2, (Lit.int .i64 x.1).wf = true := wf_two rfl rfl
theorem wf_chapV : ∀ x ∈ chapV, (Lit.int .i64 x.1).wf = true := wf_two rfl rfl
theorem bools1 {w : World} {g : Nat} {a : Bool} (h0 : w.cell? ⟨g, 0, none⟩ = some (.bool a)) : Sl w 1 (some ⟨g, 0, none⟩) 1 1 ([a].map Value.bool) := by
  refine ⟨rfl, Nat.le_refl _, by simp [maxLen], fun _ => ⟨g, 0, rfl, cell_lt h0, fun j u hj => ?_⟩⟩
  match j, hj with
  | 0, hj => simp at hj; subst hj; simpa using h0
  | j + 1, hj => simp at hj
theorem two_some {w : World} {base c : Nat} {A : Option Addr} {l : List (Int × Int × Int × Int × Bool × Bool)} (h : OwnVal w base (.slice A 2 c) 2 l) : ∃ g, A = some ⟨g, 0, none⟩ := by
  rcases h.2 with ⟨_, h0⟩ | ⟨g, cap, cur, h', hbg, _⟩
  · omega
  injection h' with h1 h2 h3
  exact ⟨g, h1⟩
theorem unjails16_ev (A : Option Addr) (c : Nat) (l L : List (Int × Int × Int × Int × Bool × Bool)) (v b h e : Int) (w : World) (hs : Sl w 6 A l.length c (l.flatMap valC)) (hw : ∀ x ∈ l, (Lit.int .i64 x.1).wf = true) (hnil : A = none → c = 0) (hF : (L, e) = unjV l v b h) :
    Calls Try.prog 130 #[.slice A l.length c, .int .i64 v, .int .i64 b, .int .i64 h] w fun r w' => r = .returned (.int .i64 e) ∧ Ext w w' := by
  have s1 := hs.small
  have HS := Lib.hid hs
  have HW := Lib.hid hw
  have HF := Lib.hid hF
  clear hs hw hF
  go_enter Try.func130, Try.ntmps130
  go_wp2_with fail
  (with_reducible refine (rosUnjail_ev A c l L v b h e _ (HS.out.ext (by repeat (first | with_reducible exact Ext.refl _ | with_reducible refine Ext.drew ?_ | with_reducible refine Ext.drewN ?_ _ | with_reducible refine Ext.alloc ?_ _ | with_reducible refine Ext.setCell ?_ (by first | omega | (simp; done) | (simp; omega)) _))) HW.out hnil HF.out).mono ?_)
  rintro e w1 ⟨A1, c1, rfl, _, _, hx1⟩
  have z1 := hx1.size
  try simp at z1
  replace HS := Lib.hid (HS.out.ext (Ext.trans (by repeat (first | with_reducible exact Ext.refl _ | with_reducible refine Ext.drew ?_ | with_reducible refine Ext.drewN ?_ _ | with_reducible refine Ext.alloc ?_ _ | with_reducible refine Ext.setCell ?_ (by first | omega | (simp; done) | (simp; omega)) _)) hx1))
  have X1 : Hid (Ext w w1) := Lib.hid (Ext.trans (by repeat (first | with_reducible exact Ext.refl w | with_reducible refine Ext.drew ?_ | with_reducible refine Ext.drewN ?_ _ | with_reducible refine Ext.alloc ?_ _ | with_reducible refine Ext.setCell ?_ (by first | omega | (simp; done) | (simp; omega)) _)) hx1)
  clear hx1 z1
  go_wp2_with fail
  go_ret
  exact ⟨rfl, (by repeat (first | with_reducible exact X1.out | with_reducible refine Ext.drew ?_ | with_reducible refine Ext.drewN ?_ _ | with_reducible refine Ext.alloc ?_ _ | with_reducible refine Ext.setCell ?_ (by first | omega | (simp; done) | (simp; omega)) _))⟩
set_option maxRecDepth 100000 in
set_option maxHeartbeats 4000000 in
theorem fault16_ev (A : Option Addr) (c : Nat) (L : List Nat) (RL : List (Int × Int × Int × Int × Bool × Bool)) (e a : Int) (hB : Byt L) (hL : L.length < 1099511627776) (hnil : A = none → c = 0) (w : World) (hs : Sl w 1 A L.length c (by_ L)) (hF : (RL, e, a) = rosRV L) :
    Calls Try.prog 82 #[.slice A L.length c] w fun r w' => r = .returned (.agg #[.int .i64 e, .int .i64 a]) ∧ Ext w w' := by
  have s1 := hs.small
  have HS := Lib.hid hs
  have HF := Lib.hid hF
  have HB := Lib.hid hB
  clear hs hF hB
  go_enter Try.func82, Try.ntmps82
  go_wp2_with fail
  (with_reducible refine (rosRead_e A c L RL e a HB.out hL hnil _ (HS.out.ext (by repeat (first | with_reducible exact Ext.refl _ | with_reducible refine Ext.drew ?_ | with_reducible refine Ext.drewN ?_ _ | with_reducible refine Ext.alloc ?_ _ | with_reducible refine Ext.setCell ?_ (by first | omega | (simp; done) | (simp; omega)) _))) HF.out).mono ?_)
  rintro e w1 ⟨A1, c1, rfl, _, _, hx1⟩
  have c0_0f : w1.frozen? ⟨w.heap.size, 0, none⟩ = false := hx1.froz (v := .int .i64 0) (by first | fail | (simp [go_sem, World.cell?_alloc_past]; done)) (by first | fail | (simp [go_sem, World.cell?_alloc_past]; done))
  have c0_1f : w1.frozen? ⟨w.heap.size, 1, none⟩ = false := hx1.froz (v := .int .i64 0) (by first | fail | (simp [go_sem, World.cell?_alloc_past]; done)) (by first | fail | (simp [go_sem, World.cell?_alloc_past]; done))
  have c0_0 : w1.cell? ⟨w.heap.size, 0, none⟩ = some (.int .i64 0) := hx1.has (by first | fail | (simp [go_sem, World.cell?_alloc_past]; done))
  have c0_1 : w1.cell? ⟨w.heap.size, 1, none⟩ = some (.int .i64 0) := hx1.has (by first | fail | (simp [go_sem, World.cell?_alloc_past]; done))
  have z1 := hx1.size
  try simp at z1
  have rc0 : w.heap.size < w1.heap.size := by omega
  have rc0a : w.heap.size < w1.heap.size + 1 := by omega
  have rc0b : w.heap.size < w1.heap.size + 1 + 1 := by omega
  have rc0c : w.heap.size < w1.heap.size + 1 + 1 + 1 := by omega
  have rc0n : ¬ w.heap.size = w1.heap.size := by omega
  replace HS := Lib.hid (HS.out.ext (Ext.trans (by repeat (first | with_reducible exact Ext.refl _ | with_reducible refine Ext.drew ?_ | with_reducible refine Ext.drewN ?_ _ | with_reducible refine Ext.alloc ?_ _ | with_reducible refine Ext.setCell ?_ (by first | omega | (simp; done) | (simp; omega)) _)) hx1))
  have X1 : Hid (Ext w w1) := Lib.hid (Ext.trans (by repeat (first | with_reducible exact Ext.refl w | with_reducible refine Ext.drew ?_ | with_reducible refine Ext.drewN ?_ _ | with_reducible refine Ext.alloc ?_ _ | with_reducible refine Ext.setCell ?_ (by first | omega | (simp; done) | (simp; omega)) _)) hx1)
  clear hx1 z1
  go_wp2_with fail
  refine bodyPost_ret (v := .agg #[.int .i64 e, .int .i64 a]) (by simp [results, Try.results82, go_sem, World.cell?_alloc_past, c0_0f, c0_1f, c0_0, c0_1, rc0, rc0a, rc0b, rc0c, rc0n]; try rfl) rfl ⟨rfl, ?_⟩
  exact (by repeat (first | with_reducible exact X1.out | with_reducible refine Ext.drew ?_ | with_reducible refine Ext.drewN ?_ _ | with_reducible refine Ext.alloc ?_ _ | with_reducible refine Ext.setCell ?_ (by first | omega | (simp; done) | (simp; omega)) _))
theorem kCho3 : choV chapV [true] = ([], 2) := by rfl
theorem kUnj : unjV aw4 0 5 30 = (kn5, 0) := by rfl
theorem kPun1 : punV chapV 1 2 30 = (pn1, 0) := by rfl
theorem kPun2 : punV pn1 1 1 20 = (pn2, 0) := by rfl
theorem kBytes : rosB chapV = [2, 5, 1, 1, 0, 0, 3, 9, 1, 0, 0] := by decide +kernel
theorem kFault0 (w : World) : Calls Try.prog 82 #[.slice (some ⟨w.heap.size, 0, none⟩) 6 6] (w.alloc (.cells #[.int .u8 1, .int .u8 5, .int .u8 1, .int .u8 1, .int .u8 0, .int .u8 1] 5)) fun r w' => r = .returned (.agg #[.int .i64 11, .int .i64 1]) ∧ Ext (w.alloc (.cells #[.int .u8 1, .int .u8 5, .int .u8 1, .int .u8 1, .int .u8 0, .int .u8 1] 5)) w' :=
  fault16_ev (some ⟨w.heap.size, 0, none⟩) 6 [1, 5, 1, 1, 0, 1] [] 11 1 (by unfold Byt; decide) (by decide) (by intro h; cases h) _ (sl_new w 5 1 #[.int .u8 1, .int .u8 5, .int .u8 1, .int .u8 1, .int .u8 0, .int .u8 1] 6 rfl (by decide)) (by kernel_rfl)
theorem kFault1 (w : World) : Calls Try.prog 82 #[.slice (some ⟨w.heap.size, 0, none⟩) 6 6] (w.alloc (.cells #[.int .u8 1, .int .u8 5, .int .u8 0, .int .u8 1, .int .u8 0, .int .u8 0] 5)) fun r w' => r = .returned (.agg #[.int .i64 2, .int .i64 1]) ∧ Ext (w.alloc (.cells #[.int .u8 1, .int .u8 5, .int .u8 0, .int .u8 1, .int .u8 0, .int .u8 0] 5)) w' :=
  fault16_ev (some ⟨w.heap.size, 0, none⟩) 6 [1, 5, 0, 1, 0, 0] [] 2 1 (by unfold Byt; decide) (by decide) (by intro h; cases h) _ (sl_new w 5 1 #[.int .u8 1, .int .u8 5, .int .u8 0, .int .u8 1, .int .u8 0, .int .u8 0] 6 rfl (by decide)) (by kernel_rfl)
theorem kFault2 (w : World) : Calls Try.prog 82 #[.slice (some ⟨w.heap.size, 0, none⟩) 11 11] (w.alloc (.cells #[.int .u8 2, .int .u8 5, .int .u8 1, .int .u8 1, .int .u8 0, .int .u8 0, .int .u8 5, .int .u8 1, .int .u8 1, .int .u8 0, .int .u8 0] 5)) fun r w' => r = .returned (.agg #[.int .i64 8, .int .i64 6]) ∧ Ext (w.alloc (.cells #[.int .u8 2, .int .u8 5, .int .u8 1, .int .u8 1, .int .u8 0, .int .u8 0, .int .u8 5, .int .u8 1, .int .u8 1, .int .u8 0, .int .u8 0] 5)) w' :=
  fault16_ev (some ⟨w.heap.size, 0, none⟩) 11 [2, 5, 1, 1, 0, 0, 5, 1, 1, 0, 0] [] 8 6 (by unfold Byt; decide) (by decide) (by intro h; cases h) _ (sl_new w 5 1 #[.int .u8 2, .int .u8 5, .int .u8 1, .int .u8 1, .int .u8 0, .int .u8 0, .int .u8 5, .int .u8 1, .int .u8 1, .int .u8 0, .int .u8 0] 11 rfl (by decide)) (by kernel_rfl)
theorem kFault3 (w : World) : Calls Try.prog 82 #[.slice (some ⟨w.heap.size, 0, none⟩) 1 1] (w.alloc (.cells #[.int .u8 33] 5)) fun r w' => r = .returned (.agg #[.int .i64 3, .int .i64 0]) ∧ Ext (w.alloc (.cells #[.int .u8 33] 5)) w' :=
  fault16_ev (some ⟨w.heap.size, 0, none⟩) 1 [33] [] 3 0 (by unfold Byt; decide) (by decide) (by intro h; cases h) _ (sl_new w 5 1 #[.int .u8 33] 1 rfl (by decide)) (by kernel_rfl)
theorem kSame16 (A : Option Addr) (c : Nat) (w : World) (h : Sl w 1 A 11 c (by_ [2, 5, 1, 1, 0, 0, 3, 9, 1, 0, 0])) :
    Calls Try.prog 53 #[.slice A 11 c, .slice (some ⟨w.heap.size, 0, none⟩) 11 11] (w.alloc (.cells #[.int .u8 2, .int .u8 5, .int .u8 1, .int .u8 1, .int .u8 0, .int .u8 0, .int .u8 3, .int .u8 9, .int .u8 1, .int .u8 0, .int .u8 0] 5)) fun r w' => r = .returned (.bool true) ∧ Ext (w.alloc (.cells #[.int .u8 2, .int .u8 5, .int .u8 1, .int .u8 1, .int .u8 0, .int .u8 0, .int .u8 3, .int .u8 9, .int .u8 1, .int .u8 0, .int .u8 0] 5)) w' := by
  refine (kSameBytes_eq A (some ⟨w.heap.size, 0, none⟩) 11 c 11 11 [2, 5, 1, 1, 0, 0, 3, 9, 1, 0, 0] (by unfold Byt; decide) _ (h.ext ((Ext.refl w).alloc _)) (sl_new w 5 1 #[.int .u8 2, .int .u8 5, .int .u8 1, .int .u8 1, .int .u8 0, .int .u8 0, .int .u8 3, .int .u8 9, .int .u8 1, .int .u8 0, .int .u8 0] 11 rfl (by decide))).mono ?_
  rintro r w' ⟨rfl, rfl⟩
  exact ⟨rfl, Ext.refl _⟩
theorem kBytesC (A : Option Addr) (c : Nat) (w : World) (h : Sl w 6 A 2 c (chapV.flatMap valC)) : Calls Try.prog 74 #[.slice A 2 c] w fun r w' => ∃ A c, r = .returned (.tuple #[.slice A 11 c, .int .i64 0]) ∧ Sl w' 1 A 11 c (by_ [2, 5, 1, 1, 0, 0, 3, 9, 1, 0, 0]) ∧ Ext w w' := by
  have h := rosBytes_e A c chapV [2, 5, 1, 1, 0, 0, 3, 9, 1, 0, 0] 0 w h (wf_two rfl rfl) (by intro x hx; simp [chapV] at hx; rcases hx with rfl | rfl <;> (unfold Fits; rfl)) (by rw [kBytes]; rfl)
  exact h.mono (by rintro r w' ⟨A, c, h1, _, h2, h3⟩; exact ⟨A, c, h1, h2.sl, h3⟩)
theorem kCre (A : Option Addr) (c : Nat) (w : World) (h : Sl w 6 A 2 c (chapV.flatMap valC)) (hnil : A = none → c = 0) : Calls Try.prog 33 #[.slice A 2 c, .int .i64 3, .int .u64 1] w fun r w' => ∃ A c, r = .returned (.tuple #[.slice A 0 c, .int .i64 0, .int .i64 8]) ∧ Ext w w' :=
  (rosCreate_ev A c chapV [] 3 1 0 8 w h (wf_two rfl rfl) hnil rfl).mono (by rintro r w' ⟨A, c, h1, _, _, h3⟩; exact ⟨A, c, h1, h3⟩)
theorem kCre0 (a m e : Int) (hF : (([] : List (Int × Int × Int × Int × Bool × Bool)), (0 : Int), e) = creV [] a m) (w : World) : Calls Try.prog 33 #[.slice none 0 0, .int .i64 a, .int .u64 m] w fun r w' => ∃ A c, r = .returned (.tuple #[.slice A 0 c, .int .i64 0, .int .i64 e]) ∧ Ext w w' :=
  (rosCreate_ev none 0 [] [] a m 0 e w (Sl.nil w 6) (by simp) (fun _ => rfl) hF).mono (by rintro r w' ⟨A, c, h1, _, _, h3⟩; exact ⟨A, c, h1, h3⟩)
theorem kFnd (A : Option Addr) (c : Nat) (w : World) (h : Sl w 6 A 2 c (chapV.flatMap valC)) : Calls Try.prog 39 #[.slice A 2 c, .int .i64 4] w fun e w' => e = .returned (.tuple #[.int .i64 0, .bool false]) ∧ Ext w w' := rosFind_ev A 2 c chapV 4 0 false w h rfl
theorem kCho (A : Option Addr) (c g : Nat) (w : World) (h : Sl w 6 A 2 c (chapV.flatMap valC)) (hnil : A = none → c = 0) (h0 : w.cell? ⟨g, 0, none⟩ = some (.bool true)) :
    Calls Try.prog 54 #[.slice A 2 c, .slice (some ⟨g, 0, none⟩) 1 1] w fun e w' => ∃ A c, e = .returned (.tuple #[.slice A 0 c, .int .i64 2]) ∧ Ext w w' := by
  have h := rosChoose_any A (some ⟨g, 0, none⟩) c 1 1 chapV [true] w h (bools1 h0) (wf_two rfl rfl) hnil
  rw [kCho3] at h
  exact h.mono (by rintro e w' ⟨A, c, h1, _, _, h2⟩; exact ⟨A, c, h1, h2⟩)
theorem kUnjail (A : Option Addr) (c : Nat) (w : World) (h : Sl w 6 A 2 c (aw4.flatMap valC)) (hnil : A = none → c = 0) : Calls Try.prog 58 #[.slice A 2 c, .int .i64 0, .int .i64 5, .int .i64 30] w fun r w' => ∃ A c, r = .returned (.tuple #[.slice A 2 c, .int .i64 0]) ∧ (A = none → c = 0) ∧ OwnVal w' w.heap.size (.slice A 2 c) 2 kn5 ∧ Ext w w' :=
  rosUnjail_ev A c aw4 kn5 0 5 30 0 w h (wf_two rfl rfl) hnil kUnj.symm
theorem kUj (A : Option Addr) (c : Nat) (l : List (Int × Int × Int × Int × Bool × Bool)) (v b h e : Int) (hl : l.length = 2) (hw : ∀ x ∈ l, (Lit.int .i64 x.1).wf = true) (hF : (([] : List (Int × Int × Int × Int × Bool × Bool)), e) = unjV l v b h) (w : World) (hs : Sl w 6 A 2 c (l.flatMap valC)) (hnil : A = none → c = 0) : Calls Try.prog 130 #[.slice A 2 c, .int .i64 v, .int .i64 b, .int .i64 h] w fun r w' => r = .returned (.int .i64 e) ∧ Ext w w' := by
  have h := unjails16_ev A c l [] v b h e w (by rw [hl]; exact hs) hw hnil hF
  rw [hl] at h
  exact h
theorem kFree5 (A : Option Addr) (c : Nat) (w : World) (h : Sl w 6 A 2 c (kn5.flatMap valC)) : Calls Try.prog 42 #[.slice A 2 c] w fun e w' => ∃ A c, e = .returned (.slice A 2 c) ∧ Sl w' 1 A 2 c ([true, true].map Value.bool) ∧ Ext w w' :=
  (rosFree_any A 2 c kn5 w h (by omega)).mono (by rintro e w' ⟨A, c, h1, _, h3, h4⟩; exact ⟨A, c, h1, OwnB.sl h3, h4⟩)
theorem kPunish (A : Option Addr) (c : Nat) (l L : List (Int × Int × Int × Int × Bool × Bool)) (v cl u : Int) (hl : l.length = 2) (hL : L.length = 2) (hw : ∀ x ∈ l, (Lit.int .i64 x.1).wf = true) (hF : (L, (0 : Int)) = punV l v cl u) (w : World) (hs : Sl w 6 A 2 c (l.flatMap valC)) (hnil : A = none → c = 0) : Calls Try.prog 60 #[.slice A 2 c, .int .i64 v, .int .i64 cl, .int .i64 u] w fun r w' => ∃ g c, r = .returned (.tuple #[.slice (some ⟨g, 0, none⟩) 2 c, .int .i64 0]) ∧ OwnVal w' w.heap.size (.slice (some ⟨g, 0, none⟩) 2 c) 2 L ∧ Ext w w' := by
  have h := rosPunish_ev A c l L v cl u 0 w (by rw [hl]; exact hs) hw hnil hF
  rw [hl] at h
  refine h.mono ?_
  rintro r w' ⟨A1, c1, h1, _, h2, h3⟩
  rw [hL] at h1 h2
  obtain ⟨g, rfl⟩ := two_some h2
  exact ⟨g, c1, h1, h2, h3⟩
theorem kPunished (A : Option Addr) (c : Nat) (l : List (Int × Int × Int × Int × Bool × Bool)) (v cl e : Int) (hl : l.length = 2) (hw : ∀ x ∈ l, (Lit.int .i64 x.1).wf = true) (hF : e = pndV l v cl) (w : World) (hs : Sl w 6 A 2 c (l.flatMap valC)) : Calls Try.prog 62 #[.slice A 2 c, .int .i64 v, .int .i64 cl] w fun q w' => q = .returned (.int .i64 e) ∧ Ext w w' := by
  have h := rosPunished_ev A c l v cl e w (by rw [hl]; exact hs) hw hF
  rw [hl] at h
  exact h
set_option maxRecDepth 100000 in
set_option maxHeartbeats 4000000 in
theorem jails16_any (w : World) : Calls Try.prog 83 #[] w fun e w' => e = .returned (.bool true) ∧ Ext w w' := by
  go_enter Try.func83, Try.ntmps83
  go_wp2_with fail
  (with_reducible refine (chapter16_some _).mono ?_)
  rintro e w1 ⟨g1, c1, rfl, hO1, hx1⟩
  have z1 := hx1.size
  try simp at z1
  have X1 : Hid (Ext w w1) := Lib.hid (Ext.trans (by repeat (first | with_reducible exact Ext.refl w | with_reducible refine Ext.drew ?_ | with_reducible refine Ext.drewN ?_ _ | with_reducible refine Ext.alloc ?_ _ | with_reducible refine Ext.setCell ?_ (by first | omega | (simp; done) | (simp; omega)) _)) hx1)
  have HO := Lib.hid hO1
  clear hx1 z1 hO1
  go_wp2_with fail
  (with_reducible refine (awCho1 _ c1 _ _ (OwnVal.sl (HO.out.ext (by repeat (first | with_reducible exact Ext.refl _ | with_reducible refine Ext.drew ?_ | with_reducible refine Ext.drewN ?_ _ | with_reducible refine Ext.alloc ?_ _ | with_reducible refine Ext.setCell ?_ (by first | omega | (simp; done) | (simp; omega)) _)))) (fun h => by cases h) (by first | (simp [go_sem, World.cell?_alloc_past]; done) | assumption) (by first | (simp [go_sem, World.cell?_alloc_past]; done) | assumption)).mono ?_)
  rintro e w2 ⟨A2, c2, rfl, hA2, hO2, hx2⟩
  have z2 := hx2.size
  try simp at z2
  replace HO := Lib.hid (HO.out.ext (Ext.trans (by repeat (first | with_reducible exact Ext.refl _ | with_reducible refine Ext.drew ?_ | with_reducible refine Ext.drewN ?_ _ | with_reducible refine Ext.alloc ?_ _ | with_reducible refine Ext.setCell ?_ (by first | omega | (simp; done) | (simp; omega)) _)) hx2))
  have X2 : Hid (Ext w w2) := Lib.hid (Ext.trans (by repeat (first | with_reducible exact X1.out | with_reducible refine Ext.drew ?_ | with_reducible refine Ext.drewN ?_ _ | with_reducible refine Ext.alloc ?_ _ | with_reducible refine Ext.setCell ?_ (by first | omega | (simp; done) | (simp; omega)) _)) hx2)
  have HO2 := Lib.hid hO2
  clear X1 hx2 z2 hO2
  go_wp2_with fail
  (with_reducible refine (awJail A2 c2 _ (OwnVal.sl (HO2.out.ext (by repeat (first | with_reducible exact Ext.refl _ | with_reducible refine Ext.drew ?_ | with_reducible refine Ext.drewN ?_ _ | with_reducible refine Ext.alloc ?_ _ | with_reducible refine Ext.setCell ?_ (by first | omega | (simp; done) | (simp; omega)) _)))) hA2).mono ?_)
  rintro e w3 ⟨A3, c3, rfl, hA3, hO3, hx3⟩
  have z3 := hx3.size
  try simp at z3
  replace HO := Lib.hid (HO.out.ext (Ext.trans (by repeat (first | with_reducible exact Ext.refl _ | with_reducible refine Ext.drew ?_ | with_reducible refine Ext.drewN ?_ _ | with_reducible refine Ext.alloc ?_ _ | with_reducible refine Ext.setCell ?_ (by first | omega | (simp; done) | (simp; omega)) _)) hx3))
  have X3 : Hid (Ext w w3) := Lib.hid (Ext.trans (by repeat (first | with_reducible exact X2.out | with_reducible refine Ext.drew ?_ | with_reducible refine Ext.drewN ?_ _ | with_reducible refine Ext.alloc ?_ _ | with_reducible refine Ext.setCell ?_ (by first | omega | (simp; done) | (simp; omega)) _)) hx3)
  have HO3 := Lib.hid hO3
  clear HO2 X2 hx3 z3 hO3
  go_wp2_with fail
  (with_reducible refine (kCho _ c1 _ _ (OwnVal.sl (HO.out.ext (by repeat (first | with_reducible exact Ext.refl _ | with_reducible refine Ext.drew ?_ | with_reducible refine Ext.drewN ?_ _ | with_reducible refine Ext.alloc ?_ _ | with_reducible refine Ext.setCell ?_ (by first | omega | (simp; done) | (simp; omega)) _)))) (fun h => by cases h) (by first | (simp [go_sem, World.cell?_alloc_past]; done) | assumption)).mono ?_)
  rintro e w4 ⟨A4, c4, rfl, hx4⟩
  have z4 := hx4.size
  try simp at z4
  replace HO3 := Lib.hid (HO3.out.ext (Ext.trans (by repeat (first | with_reducible exact Ext.refl _ | with_reducible refine Ext.drew ?_ | with_reducible refine Ext.drewN ?_ _ | with_reducible refine Ext.alloc ?_ _ | with_reducible refine Ext.setCell ?_ (by first | omega | (simp; done) | (simp; omega)) _)) hx4))
  have X4 : Hid (Ext w w4) := Lib.hid (Ext.trans (by repeat (first | with_reducible exact X3.out | with_reducible refine Ext.drew ?_ | with_reducible refine Ext.drewN ?_ _ | with_reducible refine Ext.alloc ?_ _ | with_reducible refine Ext.setCell ?_ (by first | omega | (simp; done) | (simp; omega)) _)) hx4)
  clear HO X3 hx4 z4
  go_wp2_with fail
  (with_reducible refine (kUnjail A3 c3 _ (OwnVal.sl (HO3.out.ext (by repeat (first | with_reducible exact Ext.refl _ | with_reducible refine Ext.drew ?_ | with_reducible refine Ext.drewN ?_ _ | with_reducible refine Ext.alloc ?_ _ | with_reducible refine Ext.setCell ?_ (by first | omega | (simp; done) | (simp; omega)) _)))) hA3).mono ?_)
  rintro e w5 ⟨A5, c5, rfl, hA5, hO5, hx5⟩
  have z5 := hx5.size
  try simp at z5
  replace HO3 := Lib.hid (HO3.out.ext (Ext.trans (by repeat (first | with_reducible exact Ext.refl _ | with_reducible refine Ext.drew ?_ | with_reducible refine Ext.drewN ?_ _ | with_reducible refine Ext.alloc ?_ _ | with_reducible refine Ext.setCell ?_ (by first | omega | (simp; done) | (simp; omega)) _)) hx5))
  have X5 : Hid (Ext w w5) := Lib.hid (Ext.trans (by repeat (first | with_reducible exact X4.out | with_reducible refine Ext.drew ?_ | with_reducible refine Ext.drewN ?_ _ | with_reducible refine Ext.alloc ?_ _ | with_reducible refine Ext.setCell ?_ (by first | omega | (simp; done) | (simp; omega)) _)) hx5)
  have HO5 := Lib.hid hO5
  clear X4 hx5 z5 hO5
  go_wp2_with fail
  (with_reducible refine (kUj A3 c3 aw4 0 3 30 24 rfl wf_aw4 rfl _ (OwnVal.sl (HO3.out.ext (by repeat (first | with_reducible exact Ext.refl _ | with_reducible refine Ext.drew ?_ | with_reducible refine Ext.drewN ?_ _ | with_reducible refine Ext.alloc ?_ _ | with_reducible refine Ext.setCell ?_ (by first | omega | (simp; done) | (simp; omega)) _)))) hA3).mono ?_)
  rintro e w6 ⟨rfl, hx6⟩
  have z6 := hx6.size
  try simp at z6
  replace HO3 := Lib.hid (HO3.out.ext (Ext.trans (by repeat (first | with_reducible exact Ext.refl _ | with_reducible refine Ext.drew ?_ | with_reducible refine Ext.drewN ?_ _ | with_reducible refine Ext.alloc ?_ _ | with_reducible refine Ext.setCell ?_ (by first | omega | (simp; done) | (simp; omega)) _)) hx6))
  replace HO5 := Lib.hid (HO5.out.ext (Ext.trans (by repeat (first | with_reducible exact Ext.refl _ | with_reducible refine Ext.drew ?_ | with_reducible refine Ext.drewN ?_ _ | with_reducible refine Ext.alloc ?_ _ | with_reducible refine Ext.setCell ?_ (by first | omega | (simp; done) | (simp; omega)) _)) hx6))
  have X6 : Hid (Ext w w6) := Lib.hid (Ext.trans (by repeat (first | with_reducible exact X5.out | with_reducible refine Ext.drew ?_ | with_reducible refine Ext.drewN ?_ _ | with_reducible refine Ext.alloc ?_ _ | with_reducible refine Ext.setCell ?_ (by first | omega | (simp; done) | (simp; omega)) _)) hx6)
  clear X5 hx6 z6
  go_wp2_with fail
  (with_reducible refine (kUj A3 c3 aw4 0 5 29 21 rfl wf_aw4 rfl _ (OwnVal.sl (HO3.out.ext (by repeat (first | with_reducible exact Ext.refl _ | with_reducible refine Ext.drew ?_ | with_reducible refine Ext.drewN ?_ _ | with_reducible refine Ext.alloc ?_ _ | with_reducible refine Ext.setCell ?_ (by first | omega | (simp; done) | (simp; omega)) _)))) hA3).mono ?_)
  rintro e w7 ⟨rfl, hx7⟩
  have z7 := hx7.size
  try simp at z7
  replace HO3 := Lib.hid (HO3.out.ext (Ext.trans (by repeat (first | with_reducible exact Ext.refl _ | with_reducible refine Ext.drew ?_ | with_reducible refine Ext.drewN ?_ _ | with_reducible refine Ext.alloc ?_ _ | with_reducible refine Ext.setCell ?_ (by first | omega | (simp; done) | (simp; omega)) _)) hx7))
  replace HO5 := Lib.hid (HO5.out.ext (Ext.trans (by repeat (first | with_reducible exact Ext.refl _ | with_reducible refine Ext.drew ?_ | with_reducible refine Ext.drewN ?_ _ | with_reducible refine Ext.alloc ?_ _ | with_reducible refine Ext.setCell ?_ (by first | omega | (simp; done) | (simp; omega)) _)) hx7))
  have X7 : Hid (Ext w w7) := Lib.hid (Ext.trans (by repeat (first | with_reducible exact X6.out | with_reducible refine Ext.drew ?_ | with_reducible refine Ext.drewN ?_ _ | with_reducible refine Ext.alloc ?_ _ | with_reducible refine Ext.setCell ?_ (by first | omega | (simp; done) | (simp; omega)) _)) hx7)
  clear X6 hx7 z7
  go_wp2_with fail
  (with_reducible refine (kUj A3 c3 aw4 1 3 99 11 rfl wf_aw4 rfl _ (OwnVal.sl (HO3.out.ext (by repeat (first | with_reducible exact Ext.refl _ | with_reducible refine Ext.drew ?_ | with_reducible refine Ext.drewN ?_ _ | with_reducible refine Ext.alloc ?_ _ | with_reducible refine Ext.setCell ?_ (by first | omega | (simp; done) | (simp; omega)) _)))) hA3).mono ?_)
  rintro e w8 ⟨rfl, hx8⟩
  have z8 := hx8.size
  try simp at z8
  replace HO3 := Lib.hid (HO3.out.ext (Ext.trans (by repeat (first | with_reducible exact Ext.refl _ | with_reducible refine Ext.drew ?_ | with_reducible refine Ext.drewN ?_ _ | with_reducible refine Ext.alloc ?_ _ | with_reducible refine Ext.setCell ?_ (by first | omega | (simp; done) | (simp; omega)) _)) hx8))
  replace HO5 := Lib.hid (HO5.out.ext (Ext.trans (by repeat (first | with_reducible exact Ext.refl _ | with_reducible refine Ext.drew ?_ | with_reducible refine Ext.drewN ?_ _ | with_reducible refine Ext.alloc ?_ _ | with_reducible refine Ext.setCell ?_ (by first | omega | (simp; done) | (simp; omega)) _)) hx8))
  have X8 : Hid (Ext w w8) := Lib.hid (Ext.trans (by repeat (first | with_reducible exact X7.out | with_reducible refine Ext.drew ?_ | with_reducible refine Ext.drewN ?_ _ | with_reducible refine Ext.alloc ?_ _ | with_reducible refine Ext.setCell ?_ (by first | omega | (simp; done) | (simp; omega)) _)) hx8)
  clear X7 hx8 z8
  go_wp2_with fail
  (with_reducible refine (kUj A3 c3 aw4 2 3 0 10 rfl wf_aw4 rfl _ (OwnVal.sl (HO3.out.ext (by repeat (first | with_reducible exact Ext.refl _ | with_reducible refine Ext.drew ?_ | with_reducible refine Ext.drewN ?_ _ | with_reducible refine Ext.alloc ?_ _ | with_reducible refine Ext.setCell ?_ (by first | omega | (simp; done) | (simp; omega)) _)))) hA3).mono ?_)
  rintro e w9 ⟨rfl, hx9⟩
  have z9 := hx9.size
  try simp at z9
  replace HO3 := Lib.hid (HO3.out.ext (Ext.trans (by repeat (first | with_reducible exact Ext.refl _ | with_reducible refine Ext.drew ?_ | with_reducible refine Ext.drewN ?_ _ | with_reducible refine Ext.alloc ?_ _ | with_reducible refine Ext.setCell ?_ (by first | omega | (simp; done) | (simp; omega)) _)) hx9))
  replace HO5 := Lib.hid (HO5.out.ext (Ext.trans (by repeat (first | with_reducible exact Ext.refl _ | with_reducible refine Ext.drew ?_ | with_reducible refine Ext.drewN ?_ _ | with_reducible refine Ext.alloc ?_ _ | with_reducible refine Ext.setCell ?_ (by first | omega | (simp; done) | (simp; omega)) _)) hx9))
  have X9 : Hid (Ext w w9) := Lib.hid (Ext.trans (by repeat (first | with_reducible exact X8.out | with_reducible refine Ext.drew ?_ | with_reducible refine Ext.drewN ?_ _ | with_reducible refine Ext.alloc ?_ _ | with_reducible refine Ext.setCell ?_ (by first | omega | (simp; done) | (simp; omega)) _)) hx9)
  clear X8 hx9 z9
  go_wp2_with fail
  (with_reducible refine (kFree5 A5 c5 _ (OwnVal.sl (HO5.out.ext (by repeat (first | with_reducible exact Ext.refl _ | with_reducible refine Ext.drew ?_ | with_reducible refine Ext.drewN ?_ _ | with_reducible refine Ext.alloc ?_ _ | with_reducible refine Ext.setCell ?_ (by first | omega | (simp; done) | (simp; omega)) _))))).mono ?_)
  rintro e w10 ⟨A8, c8, rfl, hS8, hx10⟩
  have z10 := hx10.size
  try simp at z10
  replace HO3 := Lib.hid (HO3.out.ext (Ext.trans (by repeat (first | with_reducible exact Ext.refl _ | with_reducible refine Ext.drew ?_ | with_reducible refine Ext.drewN ?_ _ | with_reducible refine Ext.alloc ?_ _ | with_reducible refine Ext.setCell ?_ (by first | omega | (simp; done) | (simp; omega)) _)) hx10))
  replace HO5 := Lib.hid (HO5.out.ext (Ext.trans (by repeat (first | with_reducible exact Ext.refl _ | with_reducible refine Ext.drew ?_ | with_reducible refine Ext.drewN ?_ _ | with_reducible refine Ext.alloc ?_ _ | with_reducible refine Ext.setCell ?_ (by first | omega | (simp; done) | (simp; omega)) _)) hx10))
  have X10 : Hid (Ext w w10) := Lib.hid (Ext.trans (by repeat (first | with_reducible exact X9.out | with_reducible refine Ext.drew ?_ | with_reducible refine Ext.drewN ?_ _ | with_reducible refine Ext.alloc ?_ _ | with_reducible refine Ext.setCell ?_ (by first | omega | (simp; done) | (simp; omega)) _)) hx10)
  have HS8 := Lib.hid hS8
  clear X9 hx10 z10 hS8
  go_wp2_with fail
  (with_reducible refine (kSameBools_eq A8 _ 2 c8 2 2 [true, true] _ (HS8.out.ext (by repeat (first | with_reducible exact Ext.refl _ | with_reducible refine Ext.drew ?_ | with_reducible refine Ext.drewN ?_ _ | with_reducible refine Ext.alloc ?_ _ | with_reducible refine Ext.setCell ?_ (by first | omega | (simp; done) | (simp; omega)) _))) (bools2 (by first | (simp [go_sem, World.cell?_alloc_past]; done) | assumption) (by first | (simp [go_sem, World.cell?_alloc_past]; done) | assumption))).mono ?_)
  rintro e w11 ⟨rfl, hx11⟩
  have z11 := hx11.size
  try simp at z11
  replace HO3 := Lib.hid (HO3.out.ext (Ext.trans (by repeat (first | with_reducible exact Ext.refl _ | with_reducible refine Ext.drew ?_ | with_reducible refine Ext.drewN ?_ _ | with_reducible refine Ext.alloc ?_ _ | with_reducible refine Ext.setCell ?_ (by first | omega | (simp; done) | (simp; omega)) _)) hx11))
  replace HO5 := Lib.hid (HO5.out.ext (Ext.trans (by repeat (first | with_reducible exact Ext.refl _ | with_reducible refine Ext.drew ?_ | with_reducible refine Ext.drewN ?_ _ | with_reducible refine Ext.alloc ?_ _ | with_reducible refine Ext.setCell ?_ (by first | omega | (simp; done) | (simp; omega)) _)) hx11))
  replace HS8 := Lib.hid (HS8.out.ext (Ext.trans (by repeat (first | with_reducible exact Ext.refl _ | with_reducible refine Ext.drew ?_ | with_reducible refine Ext.drewN ?_ _ | with_reducible refine Ext.alloc ?_ _ | with_reducible refine Ext.setCell ?_ (by first | omega | (simp; done) | (simp; omega)) _)) hx11))
  have X11 : Hid (Ext w w11) := Lib.hid (Ext.trans (by repeat (first | with_reducible exact X10.out | with_reducible refine Ext.drew ?_ | with_reducible refine Ext.drewN ?_ _ | with_reducible refine Ext.alloc ?_ _ | with_reducible refine Ext.setCell ?_ (by first | omega | (simp; done) | (simp; omega)) _)) hx11)
  clear X10 hx11 z11
  go_wp2_with fail
  go_ret
  exact ⟨rfl, (by repeat (first | with_reducible exact X11.out | with_reducible refine Ext.drew ?_ | with_reducible refine Ext.drewN ?_ _ | with_reducible refine Ext.alloc ?_ _ | with_reducible refine Ext.setCell ?_ (by first | omega | (simp; done) | (simp; omega)) _))⟩
set_option maxRecDepth 100000 in
set_option maxHeartbeats 4000000 in
theorem punishes16_any (w : World) : Calls Try.prog 84 #[] w fun e w' => e = .returned (.bool true) ∧ Ext w w' := by
  go_enter Try.func84, Try.ntmps84
  go_wp2_with fail
  (with_reducible refine (chapter16_some _).mono ?_)
  rintro e w1 ⟨g1, c1, rfl, hO1, hx1⟩
  have z1 := hx1.size
  try simp at z1
  have X1 : Hid (Ext w w1) := Lib.hid (Ext.trans (by repeat (first | with_reducible exact Ext.refl w | with_reducible refine Ext.drew ?_ | with_reducible refine Ext.drewN ?_ _ | with_reducible refine Ext.alloc ?_ _ | with_reducible refine Ext.setCell ?_ (by first | omega | (simp; done) | (simp; omega)) _)) hx1)
  have HO := Lib.hid hO1
  clear hx1 z1 hO1
  go_wp2_with fail
  (with_reducible refine (kPunish _ c1 chapV pn1 1 2 30 rfl rfl wf_chapV kPun1.symm _ (OwnVal.sl (HO.out.ext (by repeat (first | with_reducible exact Ext.refl _ | with_reducible refine Ext.drew ?_ | with_reducible refine Ext.drewN ?_ _ | with_reducible refine Ext.alloc ?_ _ | with_reducible refine Ext.setCell ?_ (by first | omega | (simp; done) | (simp; omega)) _)))) (fun h => by cases h)).mono ?_)
  rintro e w2 ⟨g2, c2, rfl, hO2, hx2⟩
  have z2 := hx2.size
  try simp at z2
  have X2 : Hid (Ext w w2) := Lib.hid (Ext.trans (by repeat (first | with_reducible exact X1.out | with_reducible refine Ext.drew ?_ | with_reducible refine Ext.drewN ?_ _ | with_reducible refine Ext.alloc ?_ _ | with_reducible refine Ext.setCell ?_ (by first | omega | (simp; done) | (simp; omega)) _)) hx2)
  have HO2 := Lib.hid hO2
  clear HO X1 hx2 z2 hO2
  go_wp2_with fail
  (with_reducible refine (kPunished (some ⟨g2, 0, none⟩) c2 pn1 1 2 19 rfl wf_pn1 rfl _ (OwnVal.sl (HO2.out.ext (by repeat (first | with_reducible exact Ext.refl _ | with_reducible refine Ext.drew ?_ | with_reducible refine Ext.drewN ?_ _ | with_reducible refine Ext.alloc ?_ _ | with_reducible refine Ext.setCell ?_ (by first | omega | (simp; done) | (simp; omega)) _))))).mono ?_)
  rintro e w3 ⟨rfl, hx3⟩
  have z3 := hx3.size
  try simp at z3
  replace HO2 := Lib.hid (HO2.out.ext (Ext.trans (by repeat (first | with_reducible exact Ext.refl _ | with_reducible refine Ext.drew ?_ | with_reducible refine Ext.drewN ?_ _ | with_reducible refine Ext.alloc ?_ _ | with_reducible refine Ext.setCell ?_ (by first | omega | (simp; done) | (simp; omega)) _)) hx3))
  have X3 : Hid (Ext w w3) := Lib.hid (Ext.trans (by repeat (first | with_reducible exact X2.out | with_reducible refine Ext.drew ?_ | with_reducible refine Ext.drewN ?_ _ | with_reducible refine Ext.alloc ?_ _ | with_reducible refine Ext.setCell ?_ (by first | omega | (simp; done) | (simp; omega)) _)) hx3)
  clear X2 hx3 z3
  go_wp2_with fail
  (with_reducible refine (kPunished (some ⟨g2, 0, none⟩) c2 pn1 1 1 0 rfl wf_pn1 rfl _ (OwnVal.sl (HO2.out.ext (by repeat (first | with_reducible exact Ext.refl _ | with_reducible refine Ext.drew ?_ | with_reducible refine Ext.drewN ?_ _ | with_reducible refine Ext.alloc ?_ _ | with_reducible refine Ext.setCell ?_ (by first | omega | (simp; done) | (simp; omega)) _))))).mono ?_)
  rintro e w4 ⟨rfl, hx4⟩
  have z4 := hx4.size
  try simp at z4
  replace HO2 := Lib.hid (HO2.out.ext (Ext.trans (by repeat (first | with_reducible exact Ext.refl _ | with_reducible refine Ext.drew ?_ | with_reducible refine Ext.drewN ?_ _ | with_reducible refine Ext.alloc ?_ _ | with_reducible refine Ext.setCell ?_ (by first | omega | (simp; done) | (simp; omega)) _)) hx4))
  have X4 : Hid (Ext w w4) := Lib.hid (Ext.trans (by repeat (first | with_reducible exact X3.out | with_reducible refine Ext.drew ?_ | with_reducible refine Ext.drewN ?_ _ | with_reducible refine Ext.alloc ?_ _ | with_reducible refine Ext.setCell ?_ (by first | omega | (simp; done) | (simp; omega)) _)) hx4)
  clear X3 hx4 z4
  go_wp2_with fail
  (with_reducible refine (kPunished (some ⟨g2, 0, none⟩) c2 pn1 1 3 2 rfl wf_pn1 rfl _ (OwnVal.sl (HO2.out.ext (by repeat (first | with_reducible exact Ext.refl _ | with_reducible refine Ext.drew ?_ | with_reducible refine Ext.drewN ?_ _ | with_reducible refine Ext.alloc ?_ _ | with_reducible refine Ext.setCell ?_ (by first | omega | (simp; done) | (simp; omega)) _))))).mono ?_)
  rintro e w5 ⟨rfl, hx5⟩
  have z5 := hx5.size
  try simp at z5
  replace HO2 := Lib.hid (HO2.out.ext (Ext.trans (by repeat (first | with_reducible exact Ext.refl _ | with_reducible refine Ext.drew ?_ | with_reducible refine Ext.drewN ?_ _ | with_reducible refine Ext.alloc ?_ _ | with_reducible refine Ext.setCell ?_ (by first | omega | (simp; done) | (simp; omega)) _)) hx5))
  have X5 : Hid (Ext w w5) := Lib.hid (Ext.trans (by repeat (first | with_reducible exact X4.out | with_reducible refine Ext.drew ?_ | with_reducible refine Ext.drewN ?_ _ | with_reducible refine Ext.alloc ?_ _ | with_reducible refine Ext.setCell ?_ (by first | omega | (simp; done) | (simp; omega)) _)) hx5)
  clear X4 hx5 z5
  go_wp2_with fail
  (with_reducible refine (kPunish _ c2 pn1 pn2 1 1 20 rfl rfl wf_pn1 kPun2.symm _ (OwnVal.sl (HO2.out.ext (by repeat (first | with_reducible exact Ext.refl _ | with_reducible refine Ext.drew ?_ | with_reducible refine Ext.drewN ?_ _ | with_reducible refine Ext.alloc ?_ _ | with_reducible refine Ext.setCell ?_ (by first | omega | (simp; done) | (simp; omega)) _)))) (fun h => by cases h)).mono ?_)
  rintro e w6 ⟨g3, c3, rfl, hO3, hx6⟩
  have z6 := hx6.size
  try simp at z6
  have X6 : Hid (Ext w w6) := Lib.hid (Ext.trans (by repeat (first | with_reducible exact X5.out | with_reducible refine Ext.drew ?_ | with_reducible refine Ext.drewN ?_ _ | with_reducible refine Ext.alloc ?_ _ | with_reducible refine Ext.setCell ?_ (by first | omega | (simp; done) | (simp; omega)) _)) hx6)
  have HO3 := Lib.hid hO3
  clear HO2 X5 hx6 z6 hO3
  have x_8 := World.ownsRow.cellAt HO3.out 8 (by decide)
  have x_9 := World.ownsRow.cellAt HO3.out 9 (by decide)
  simp only [pn2, List.flatMap_cons, List.flatMap_nil, valC] at x_8 x_9
  replace x_8 := x_8.trans (show _ = some (Value.int .i64 4) from rfl)
  replace x_9 := x_9.trans (show _ = some (Value.int .i64 30) from rfl)
  go_wp2_with fail
  (with_reducible refine (rosRefuse_ev _ 2 c3 pn2 1 20 _ (OwnVal.sl (HO3.out.ext (by repeat (first | with_reducible exact Ext.refl _ | with_reducible refine Ext.drew ?_ | with_reducible refine Ext.drewN ?_ _ | with_reducible refine Ext.alloc ?_ _ | with_reducible refine Ext.setCell ?_ (by first | omega | (simp; done) | (simp; omega)) _)))) rfl).mono ?_)
  rintro e w7 ⟨rfl, hx7⟩
  have z7 := hx7.size
  try simp at z7
  replace HO3 := Lib.hid (HO3.out.ext (Ext.trans (by repeat (first | with_reducible exact Ext.refl _ | with_reducible refine Ext.drew ?_ | with_reducible refine Ext.drewN ?_ _ | with_reducible refine Ext.alloc ?_ _ | with_reducible refine Ext.setCell ?_ (by first | omega | (simp; done) | (simp; omega)) _)) hx7))
  have X7 : Hid (Ext w w7) := Lib.hid (Ext.trans (by repeat (first | with_reducible exact X6.out | with_reducible refine Ext.drew ?_ | with_reducible refine Ext.drewN ?_ _ | with_reducible refine Ext.alloc ?_ _ | with_reducible refine Ext.setCell ?_ (by first | omega | (simp; done) | (simp; omega)) _)) hx7)
  clear x_8 x_9 X6 hx7 z7
  go_wp2_with fail
  (with_reducible refine (kUj _ c3 pn2 1 3 99 20 rfl wf_pn2 rfl _ (OwnVal.sl (HO3.out.ext (by repeat (first | with_reducible exact Ext.refl _ | with_reducible refine Ext.drew ?_ | with_reducible refine Ext.drewN ?_ _ | with_reducible refine Ext.alloc ?_ _ | with_reducible refine Ext.setCell ?_ (by first | omega | (simp; done) | (simp; omega)) _)))) (fun h => by cases h)).mono ?_)
  rintro e w8 ⟨rfl, hx8⟩
  have z8 := hx8.size
  try simp at z8
  replace HO3 := Lib.hid (HO3.out.ext (Ext.trans (by repeat (first | with_reducible exact Ext.refl _ | with_reducible refine Ext.drew ?_ | with_reducible refine Ext.drewN ?_ _ | with_reducible refine Ext.alloc ?_ _ | with_reducible refine Ext.setCell ?_ (by first | omega | (simp; done) | (simp; omega)) _)) hx8))
  have X8 : Hid (Ext w w8) := Lib.hid (Ext.trans (by repeat (first | with_reducible exact X7.out | with_reducible refine Ext.drew ?_ | with_reducible refine Ext.drewN ?_ _ | with_reducible refine Ext.alloc ?_ _ | with_reducible refine Ext.setCell ?_ (by first | omega | (simp; done) | (simp; omega)) _)) hx8)
  clear X7 hx8 z8
  go_wp2_with fail
  (with_reducible refine (kPunished (some ⟨g3, 0, none⟩) c3 pn2 1 2 20 rfl wf_pn2 rfl _ (OwnVal.sl (HO3.out.ext (by repeat (first | with_reducible exact Ext.refl _ | with_reducible refine Ext.drew ?_ | with_reducible refine Ext.drewN ?_ _ | with_reducible refine Ext.alloc ?_ _ | with_reducible refine Ext.setCell ?_ (by first | omega | (simp; done) | (simp; omega)) _))))).mono ?_)
  rintro e w9 ⟨rfl, hx9⟩
  have z9 := hx9.size
  try simp at z9
  replace HO3 := Lib.hid (HO3.out.ext (Ext.trans (by repeat (first | with_reducible exact Ext.refl _ | with_reducible refine Ext.drew ?_ | with_reducible refine Ext.drewN ?_ _ | with_reducible refine Ext.alloc ?_ _ | with_reducible refine Ext.setCell ?_ (by first | omega | (simp; done) | (simp; omega)) _)) hx9))
  have X9 : Hid (Ext w w9) := Lib.hid (Ext.trans (by repeat (first | with_reducible exact X8.out | with_reducible refine Ext.drew ?_ | with_reducible refine Ext.drewN ?_ _ | with_reducible refine Ext.alloc ?_ _ | with_reducible refine Ext.setCell ?_ (by first | omega | (simp; done) | (simp; omega)) _)) hx9)
  clear X8 hx9 z9
  go_wp2_with fail
  go_ret
  exact ⟨rfl, (by repeat (first | with_reducible exact X9.out | with_reducible refine Ext.drew ?_ | with_reducible refine Ext.drewN ?_ _ | with_reducible refine Ext.alloc ?_ _ | with_reducible refine Ext.setCell ?_ (by first | omega | (simp; done) | (simp; omega)) _))⟩
set_option maxRecDepth 100000 in
set_option maxHeartbeats 4000000 in
theorem RosterKnown_any (w : World) : Calls Try.prog 12 #[] w fun e w' => e = .returned (.bool true) ∧ Ext w w' := by
  have qe := flt_eql
  have qg := flt_eqg
  go_enter Try.func12, Try.ntmps12
  go_wp2_with fail
  (with_reducible refine (chapter16_some _).mono ?_)
  rintro e w1 ⟨g1, c1, rfl, hO1, hx1⟩
  have z1 := hx1.size
  try simp at z1
  have X1 : Hid (Ext w w1) := Lib.hid (Ext.trans (by repeat (first | with_reducible exact Ext.refl w | with_reducible refine Ext.drew ?_ | with_reducible refine Ext.drewN ?_ _ | with_reducible refine Ext.alloc ?_ _ | with_reducible refine Ext.setCell ?_ (by first | omega | (simp; done) | (simp; omega)) _)) hx1)
  have HO := Lib.hid hO1
  clear hx1 z1 hO1
  go_wp2_with fail
  (with_reducible refine (kCre0 64 1 3 rfl _).mono ?_)
  rintro e w2 ⟨A2, c2, rfl, hx2⟩
  have z2 := hx2.size
  try simp at z2
  replace HO := Lib.hid (HO.out.ext (Ext.trans (by repeat (first | with_reducible exact Ext.refl _ | with_reducible refine Ext.drew ?_ | with_reducible refine Ext.drewN ?_ _ | with_reducible refine Ext.alloc ?_ _ | with_reducible refine Ext.setCell ?_ (by first | omega | (simp; done) | (simp; omega)) _)) hx2))
  have X2 : Hid (Ext w w2) := Lib.hid (Ext.trans (by repeat (first | with_reducible exact X1.out | with_reducible refine Ext.drew ?_ | with_reducible refine Ext.drewN ?_ _ | with_reducible refine Ext.alloc ?_ _ | with_reducible refine Ext.setCell ?_ (by first | omega | (simp; done) | (simp; omega)) _)) hx2)
  clear X1 hx2 z2
  go_wp2_with fail
  (with_reducible refine (kCre0 5 0 2 rfl _).mono ?_)
  rintro e w3 ⟨A3, c3, rfl, hx3⟩
  have z3 := hx3.size
  try simp at z3
  replace HO := Lib.hid (HO.out.ext (Ext.trans (by repeat (first | with_reducible exact Ext.refl _ | with_reducible refine Ext.drew ?_ | with_reducible refine Ext.drewN ?_ _ | with_reducible refine Ext.alloc ?_ _ | with_reducible refine Ext.setCell ?_ (by first | omega | (simp; done) | (simp; omega)) _)) hx3))
  have X3 : Hid (Ext w w3) := Lib.hid (Ext.trans (by repeat (first | with_reducible exact X2.out | with_reducible refine Ext.drew ?_ | with_reducible refine Ext.drewN ?_ _ | with_reducible refine Ext.alloc ?_ _ | with_reducible refine Ext.setCell ?_ (by first | omega | (simp; done) | (simp; omega)) _)) hx3)
  clear X2 hx3 z3
  go_wp2_with fail
  (with_reducible refine (kCre _ c1 _ (OwnVal.sl (HO.out.ext (by repeat (first | with_reducible exact Ext.refl _ | with_reducible refine Ext.drew ?_ | with_reducible refine Ext.drewN ?_ _ | with_reducible refine Ext.alloc ?_ _ | with_reducible refine Ext.setCell ?_ (by first | omega | (simp; done) | (simp; omega)) _)))) (fun h => by cases h)).mono ?_)
  rintro e w4 ⟨A4, c4, rfl, hx4⟩
  have z4 := hx4.size
  try simp at z4
  replace HO := Lib.hid (HO.out.ext (Ext.trans (by repeat (first | with_reducible exact Ext.refl _ | with_reducible refine Ext.drew ?_ | with_reducible refine Ext.drewN ?_ _ | with_reducible refine Ext.alloc ?_ _ | with_reducible refine Ext.setCell ?_ (by first | omega | (simp; done) | (simp; omega)) _)) hx4))
  have X4 : Hid (Ext w w4) := Lib.hid (Ext.trans (by repeat (first | with_reducible exact X3.out | with_reducible refine Ext.drew ?_ | with_reducible refine Ext.drewN ?_ _ | with_reducible refine Ext.alloc ?_ _ | with_reducible refine Ext.setCell ?_ (by first | omega | (simp; done) | (simp; omega)) _)) hx4)
  clear X3 hx4 z4
  go_wp2_with fail
  (with_reducible refine (kFnd _ c1 _ (OwnVal.sl (HO.out.ext (by repeat (first | with_reducible exact Ext.refl _ | with_reducible refine Ext.drew ?_ | with_reducible refine Ext.drewN ?_ _ | with_reducible refine Ext.alloc ?_ _ | with_reducible refine Ext.setCell ?_ (by first | omega | (simp; done) | (simp; omega)) _))))).mono ?_)
  rintro e w5 ⟨rfl, hx5⟩
  have z5 := hx5.size
  try simp at z5
  replace HO := Lib.hid (HO.out.ext (Ext.trans (by repeat (first | with_reducible exact Ext.refl _ | with_reducible refine Ext.drew ?_ | with_reducible refine Ext.drewN ?_ _ | with_reducible refine Ext.alloc ?_ _ | with_reducible refine Ext.setCell ?_ (by first | omega | (simp; done) | (simp; omega)) _)) hx5))
  have X5 : Hid (Ext w w5) := Lib.hid (Ext.trans (by repeat (first | with_reducible exact X4.out | with_reducible refine Ext.drew ?_ | with_reducible refine Ext.drewN ?_ _ | with_reducible refine Ext.alloc ?_ _ | with_reducible refine Ext.setCell ?_ (by first | omega | (simp; done) | (simp; omega)) _)) hx5)
  clear X4 hx5 z5
  go_wp2_with fail
  (with_reducible refine (kBytesC _ c1 _ (OwnVal.sl (HO.out.ext (by repeat (first | with_reducible exact Ext.refl _ | with_reducible refine Ext.drew ?_ | with_reducible refine Ext.drewN ?_ _ | with_reducible refine Ext.alloc ?_ _ | with_reducible refine Ext.setCell ?_ (by first | omega | (simp; done) | (simp; omega)) _))))).mono ?_)
  rintro e w6 ⟨A6, c6, rfl, hS6, hx6⟩
  have z6 := hx6.size
  try simp at z6
  have X6 : Hid (Ext w w6) := Lib.hid (Ext.trans (by repeat (first | with_reducible exact X5.out | with_reducible refine Ext.drew ?_ | with_reducible refine Ext.drewN ?_ _ | with_reducible refine Ext.alloc ?_ _ | with_reducible refine Ext.setCell ?_ (by first | omega | (simp; done) | (simp; omega)) _)) hx6)
  have HS6 := Lib.hid hS6
  clear HO X5 hx6 z6 hS6
  go_wp2_with fail
  (with_reducible refine (kSame16 _ _ _ HS6.out).mono ?_)
  rintro e w7 ⟨rfl, hx7⟩
  have z7 := hx7.size
  try simp at z7
  have X7 : Hid (Ext w w7) := Lib.hid (Ext.trans (by repeat (first | with_reducible exact X6.out | with_reducible refine Ext.drew ?_ | with_reducible refine Ext.drewN ?_ _ | with_reducible refine Ext.alloc ?_ _ | with_reducible refine Ext.setCell ?_ (by first | omega | (simp; done) | (simp; omega)) _)) hx7)
  clear HS6 X6 hx7 z7
  go_wp2_with fail
  (with_reducible refine (kFault0 _).mono ?_)
  rintro e w8 ⟨rfl, hx8⟩
  have z8 := hx8.size
  try simp at z8
  have X8 : Hid (Ext w w8) := Lib.hid (Ext.trans (by repeat (first | with_reducible exact X7.out | with_reducible refine Ext.drew ?_ | with_reducible refine Ext.drewN ?_ _ | with_reducible refine Ext.alloc ?_ _ | with_reducible refine Ext.setCell ?_ (by first | omega | (simp; done) | (simp; omega)) _)) hx8)
  clear X7 hx8 z8
  go_wp2_with fail
  (with_reducible refine (kFault1 _).mono ?_)
  rintro e w9 ⟨rfl, hx9⟩
  have z9 := hx9.size
  try simp at z9
  have X9 : Hid (Ext w w9) := Lib.hid (Ext.trans (by repeat (first | with_reducible exact X8.out | with_reducible refine Ext.drew ?_ | with_reducible refine Ext.drewN ?_ _ | with_reducible refine Ext.alloc ?_ _ | with_reducible refine Ext.setCell ?_ (by first | omega | (simp; done) | (simp; omega)) _)) hx9)
  clear X8 hx9 z9
  go_wp2_with fail
  (with_reducible refine (kFault2 _).mono ?_)
  rintro e w10 ⟨rfl, hx10⟩
  have z10 := hx10.size
  try simp at z10
  have X10 : Hid (Ext w w10) := Lib.hid (Ext.trans (by repeat (first | with_reducible exact X9.out | with_reducible refine Ext.drew ?_ | with_reducible refine Ext.drewN ?_ _ | with_reducible refine Ext.alloc ?_ _ | with_reducible refine Ext.setCell ?_ (by first | omega | (simp; done) | (simp; omega)) _)) hx10)
  clear X9 hx10 z10
  go_wp2_with fail
  (with_reducible refine (kFault3 _).mono ?_)
  rintro e w11 ⟨rfl, hx11⟩
  have z11 := hx11.size
  try simp at z11
  have X11 : Hid (Ext w w11) := Lib.hid (Ext.trans (by repeat (first | with_reducible exact X10.out | with_reducible refine Ext.drew ?_ | with_reducible refine Ext.drewN ?_ _ | with_reducible refine Ext.alloc ?_ _ | with_reducible refine Ext.setCell ?_ (by first | omega | (simp; done) | (simp; omega)) _)) hx11)
  clear X10 hx11 z11
  go_wp2_with fail
  (with_reducible refine (awake16_any _).mono ?_)
  rintro e w12 ⟨rfl, hx12⟩
  have z12 := hx12.size
  try simp at z12
  have X12 : Hid (Ext w w12) := Lib.hid (Ext.trans (by repeat (first | with_reducible exact X11.out | with_reducible refine Ext.drew ?_ | with_reducible refine Ext.drewN ?_ _ | with_reducible refine Ext.alloc ?_ _ | with_reducible refine Ext.setCell ?_ (by first | omega | (simp; done) | (simp; omega)) _)) hx12)
  clear X11 hx12 z12
  go_wp2_with fail
  (with_reducible refine (jails16_any _).mono ?_)
  rintro e w13 ⟨rfl, hx13⟩
  have z13 := hx13.size
  try simp at z13
  have X13 : Hid (Ext w w13) := Lib.hid (Ext.trans (by repeat (first | with_reducible exact X12.out | with_reducible refine Ext.drew ?_ | with_reducible refine Ext.drewN ?_ _ | with_reducible refine Ext.alloc ?_ _ | with_reducible refine Ext.setCell ?_ (by first | omega | (simp; done) | (simp; omega)) _)) hx13)
  clear X12 hx13 z13
  go_wp2_with fail
  (with_reducible refine (punishes16_any _).mono ?_)
  rintro e w14 ⟨rfl, hx14⟩
  have z14 := hx14.size
  try simp at z14
  have X14 : Hid (Ext w w14) := Lib.hid (Ext.trans (by repeat (first | with_reducible exact X13.out | with_reducible refine Ext.drew ?_ | with_reducible refine Ext.drewN ?_ _ | with_reducible refine Ext.alloc ?_ _ | with_reducible refine Ext.setCell ?_ (by first | omega | (simp; done) | (simp; omega)) _)) hx14)
  clear X13 hx14 z14
  go_wp2_with fail
  go_ret
  exact ⟨rfl, (by repeat (first | with_reducible exact X14.out | with_reducible refine Ext.drew ?_ | with_reducible refine Ext.drewN ?_ _ | with_reducible refine Ext.alloc ?_ _ | with_reducible refine Ext.setCell ?_ (by first | omega | (simp; done) | (simp; omega)) _))⟩
end Go.Proofs.Ytjdpgapmdmpjjaa
