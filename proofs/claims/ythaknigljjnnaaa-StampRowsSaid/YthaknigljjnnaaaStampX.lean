/- law12: StampRows returns true. Conditions: none. -/
import Derived.Test.YthaknigljjnnaaaStampY
import Derived.Test.YthaknigljjnnaaaNil
import Derived.Test.YthaknigljjnnaaaRec4
set_option linter.unusedVariables false
set_option linter.unusedSimpArgs false
namespace Go.Proofs.Ythaknigljjnnaaa
open Go.RowKit

theorem Rd.c0 {w : World} {g k : Nat} {L : List Nat} {f : Option (Int × Int)} (h : Rd w g L k f) : ∃ A n c, w.cell? ⟨g, 0, none⟩ = some (.slice A n c) := by
  obtain ⟨A, c, h0, _⟩ := h.b
  exact ⟨A, _, c, h0⟩
theorem Rd.ext {w w' : World} {g k : Nat} {L : List Nat} {f : Option (Int × Int)} (h : Rd w g L k f) (hx : Ext w w') : Rd w' g L k f := h.keep hx
/-- a codec reader stays, where a reference reader behind it turns -/
theorem Rd.butO {w w' : World} {g g' k : Nat} {L : List Nat} {f : Option (Int × Int)} (h : Rd w g L k f) (hb : But (· = g') w w') (hlt : g < g') (hty : ∃ cs z, w.heap[g']? = some (.cells cs 104 z)) : Rd w' g L k f := by
  obtain ⟨A, c, h0, h1, h2⟩ := h.b
  obtain ⟨v, h3, h4⟩ := h.c3
  have hne : ¬ (fun x => x = g') g := fun hh => by have hh2 : g = g' := hh; omega
  have cl : ∀ o, w'.cell? ⟨g, o, none⟩ = w.cell? ⟨g, o, none⟩ := fun o => hb.cell h.lt hne
  have fl : ∀ o, w'.frozen? ⟨g, o, none⟩ = w.frozen? ⟨g, o, none⟩ := fun o => hb.frozen h.lt hne
  refine ⟨⟨A, c, (cl 0).trans h0, h1.butS hb (fun _ b o s e hh => by have hh2 : b = g' := hh; have := h2 b o s e; omega), h2⟩, (cl 1).trans h.c1, (cl 2).trans h.c2, ⟨v, (cl 3).trans h3, ?_⟩, (fl 1).trans h.f1, (fl 3).trans h.f3, by have := h.lt; have := hb.size; omega, h.le, h.byt⟩
  match f, h4 with
  | none, h4 => exact h4
  | some (e, a), ⟨fb, k1, k2, k3, k4, cs, z, k5⟩ =>
    obtain ⟨cs', z', hg⟩ := hty
    have hn : ¬ fb = g' := by
      rintro rfl
      rw [hg] at k5
      injection k5 with k5
      injection k5 with _ k6
      exact absurd k6 (by decide)
    exact ⟨fb, k1, ⟨k2.1, by have := hb.size; omega⟩, (hb.cell k2.2 hn).trans k3, (hb.cell k2.2 hn).trans k4, cs, z, (hb.block fb k2.2 hn).trans k5⟩
/-- a reference reader stays, where a codec reader turns -/
theorem RRd.butO {w w' : World} {g g' k : Nat} {L : List Nat} {f : Option (Int × Int)} (h : RRd w g' L k f) (hb : But (· = g) w w') (hne : ¬ g' = g) (hc : ∃ A n c, w.cell? ⟨g, 0, none⟩ = some (.slice A n c)) : RRd w' g' L k f := by
  obtain ⟨A, c, h0, h1, h2⟩ := h.b
  obtain ⟨t, h3, h4, h5⟩ := h.c1
  obtain ⟨cs, z, h6⟩ := h.ty
  have cl : ∀ o, w'.cell? ⟨g', o, none⟩ = w.cell? ⟨g', o, none⟩ := fun o => hb.cell h.lt hne
  have fl : ∀ o, w'.frozen? ⟨g', o, none⟩ = w.frozen? ⟨g', o, none⟩ := fun o => hb.frozen h.lt hne
  refine ⟨⟨A, c, (cl 0).trans h0, h1.butS hb (fun hn b o s e hh => ?_), h2⟩, ⟨t, (cl 1).trans h3, h4, h5⟩, (cl 2).trans h.c2, (cl 3).trans h.c3, (fl 1).trans h.f1, (fl 2).trans h.f2, (fl 3).trans h.f3, by have := h.lt; have := hb.size; omega, h.le, h.byt, h.nz, cs, z, (hb.block g' h.lt hne).trans h6⟩
  obtain ⟨b', o', e', _, hcell⟩ := h1.at_ hn
  have ho := (h2 b o s e).2
  rw [e] at e'
  injection e' with e'
  injection e' with e1 e2 e3
  have hh2 : b = g := hh
  obtain ⟨A', n', c', hA⟩ := hc
  have hL : 0 < L.length := hn
  have h7 := hcell 0 _ (by_get L 0 hL)
  rw [← e1, ← e2, ho, hh2, Nat.add_zero, hA] at h7
  cases h7
theorem Wr.butO {w w' : World} {g : Nat} {lim e : Int} {L : List Nat} {S : Nat → Prop} (h : Wr w g lim e L) (hb : But S w w') (hne : ∀ k, Sg w g 0 k → ¬ S k) : Wr w' g lim e L := by
  obtain ⟨A, c, h0, h1⟩ := h.b
  have cl : ∀ o, w'.cell? ⟨g, o, none⟩ = w.cell? ⟨g, o, none⟩ := fun o => hb.cell h.lt (hne g (.inl rfl))
  have fl : ∀ o, w'.frozen? ⟨g, o, none⟩ = w.frozen? ⟨g, o, none⟩ := fun o => hb.frozen h.lt (hne g (.inl rfl))
  refine ⟨⟨A, c, (cl 0).trans h0, h1.1, ?_⟩, (cl 1).trans h.c1, (cl 2).trans h.c2, (cl 3).trans h.c3, (fl 0).trans h.f0, (fl 3).trans h.f3, by have := h.lt; have := hb.size; omega, h.short, h.l0, h.l1⟩
  rcases h1.2 with h2 | ⟨q, cap, cur, e', hq, hq2, rest⟩
  · exact .inl h2
  · refine .inr ⟨q, cap, cur, e', hq, (hb.block q (Array.getElem?_eq_some_iff.1 hq2).1 (hne q ?_)).trans hq2, rest⟩
    rw [e'] at h0
    exact .inr ⟨_, _, h0⟩
theorem RWr.butO {w w' : World} {g : Nat} {lim e : Int} {L : List Nat} {S : Nat → Prop} (h : RWr w g lim e L) (hb : But S w w') (hne : ∀ k, Sg w g 1 k → ¬ S k) : RWr w' g lim e L := by
  obtain ⟨A, c, h0, h1⟩ := h.b
  have cl : ∀ o, w'.cell? ⟨g, o, none⟩ = w.cell? ⟨g, o, none⟩ := fun o => hb.cell h.lt (hne g (.inl rfl))
  have fl : ∀ o, w'.frozen? ⟨g, o, none⟩ = w.frozen? ⟨g, o, none⟩ := fun o => hb.frozen h.lt (hne g (.inl rfl))
  refine ⟨⟨A, c, (cl 1).trans h0, h1.1, ?_⟩, (cl 0).trans h.c0, (cl 2).trans h.c2, (fl 1).trans h.f1, (fl 2).trans h.f2, by have := h.lt; have := hb.size; omega, h.short, h.l0, h.l1⟩
  rcases h1.2 with h2 | ⟨q, cap, cur, e', hq, hq2, rest⟩
  · exact .inl h2
  · refine .inr ⟨q, cap, cur, e', hq, (hb.block q (Array.getElem?_eq_some_iff.1 hq2).1 (hne q ?_)).trans hq2, rest⟩
    rw [e'] at h0
    exact .inr ⟨_, _, h0⟩
/-- two writers have nothing in common -/
def Dis (w : World) (g1 g2 : Nat) : Prop := ∀ k, Sg w g1 0 k → ¬ Sg w g2 1 k
theorem Dis.step1 {w w' : World} {g1 g2 : Nat} {lim e : Int} {L : List Nat} (h : Dis w g1 g2) (h2 : RWr w g2 lim e L) (hf : WF g1 0 w w') : Dis w' g1 g2 := by
  intro k hk hs
  have hc : w'.cell? ⟨g2, 1, none⟩ = w.cell? ⟨g2, 1, none⟩ := hf.but.cell h2.lt (fun hh => h g2 hh (.inl rfl))
  have hs2 := (Sg.congr hc).1 hs
  have hl := (h2.sg hs2).2
  exact h k (hf.row k hl hk) hs2
theorem Dis.step2 {w w' : World} {g1 g2 : Nat} {lim e : Int} {L : List Nat} (h : Dis w g1 g2) (h2 : Wr w g1 lim e L) (hf : WF g2 1 w w') : Dis w' g1 g2 := by
  intro k hk hs
  have hc : w'.cell? ⟨g1, 0, none⟩ = w.cell? ⟨g1, 0, none⟩ := hf.but.cell h2.lt (fun hh => h g1 (.inl rfl) hh)
  have hk2 := (Sg.congr hc).1 hk
  have hl := (h2.sg hk2).2
  exact h k hk2 (hf.row k hl hs)
theorem dis0 {w1 w2 : World} {g1 : Nat} {lim e lim2 e2 : Int} {L L2 : List Nat} (h : Wr w1 g1 lim e L) (h2 : RWr w2 w1.heap.size lim2 e2 L2) (hx : Ext w1 w2) : Dis w2 g1 w1.heap.size := by
  intro k hk hs
  have h3 := (h.sg ((Sg.congr (hx.cells.1 g1 0 h.lt)).1 hk)).2
  have h4 := (h2.sg hs).1
  omega
theorem wNE_ne1 {lim e n : Int} {L : List Nat} (h : ¬ e = 1) : ¬ wNE lim e L n = 1 := by
  unfold wNE wAddE
  split
  · split
    · decide
    · simp only [if_true]; split <;> decide
  · exact h
theorem wnAll_ne1 {lim : Int} : ∀ (l : List Int) (s : Int × List Nat), ¬ s.1 = 1 → ¬ (wnAll lim s l).1 = 1 := by
  intro l
  induction l with
  | nil => intro s h; exact h
  | cons n l ih => intro s h; exact ih (wnS lim s n) (wNE_ne1 h)
theorem putST_ne1 {lim : Int} {s : Int × List Nat} {V S P F : Int} (h : ¬ s.1 = 1) : ¬ (putST lim s V S P F).1 = 1 := by
  unfold putST
  split
  · exact wnAll_ne1 _ _ h
  · exact h
theorem wNL_byt {lim e n : Int} {L : List Nat} (h : Byt L) : Byt (wNL lim e L n) := by
  unfold wNL wAddL
  split
  · split
    · exact h
    · split
      · intro x hx
        rcases List.mem_append.1 hx with hx | hx
        · exact h x hx
        · exact byt_putL _ _ (Nat.le_refl _) x hx
      · exact h
  · exact h
theorem wnAll_byt {lim : Int} : ∀ (l : List Int) (s : Int × List Nat), Byt s.2 → Byt (wnAll lim s l).2 := by
  intro l
  induction l with
  | nil => intro s h; exact h
  | cons n l ih => intro s h; exact ih (wnS lim s n) (wNL_byt h)
theorem putST_byt {lim : Int} {s : Int × List Nat} {V S P F : Int} (h : Byt s.2) : Byt (putST lim s V S P F).2 := by
  unfold putST
  split
  · exact wnAll_byt _ _ h
  · exact h
/-- a stamp's cells -/
def stc (x : Int × Int × Int × Int) : List Value := [.int .i64 x.1, .int .i64 x.2.1, .int .i64 x.2.2.1, .int .i64 x.2.2.2]
theorem stc_len (x : Int × Int × Int × Int) : (stc x).length = 4 := rfl
set_option maxRecDepth 100000 in
set_option maxHeartbeats 8000000 in
theorem StampRows_bad (A : Option Addr) (n c : Nat) (hn : n ≤ 12) (lim : Int) (M : List Nat) (B : Option Addr) (d : Nat) (hM : Byt M) (hMl : M.length < 1099511627776) (hM2 : M.length ≤ 200) (hnil : B = none → d = 0) (w : World) (hB : Sl w 1 B M.length d (by_ M))
    (C1 : Hid (∀ w, Calls Try.prog 14 #[.int .i64 lim] w fun r w' => r = .returned (.tuple #[.pointer none, .int .i64 3]) ∧ w = w')) (C2 : Hid (∀ w, Calls Try.prog 15 #[.int .i64 lim] w fun r w' => r = .returned (.tuple #[.pointer none, .int .i64 3]) ∧ w = w')) :
    Calls Try.prog 3 #[.slice A n c, .int .i64 lim, .slice B M.length d] w fun r w' => r = .returned (.bool true) ∧ Ext w w' := by
  have HB := Lib.hid hB
  have hnI : ¬ (12 : Int) < (n : Int) := by omega
  have hmI : ¬ (200 : Int) < (M.length : Int) := by omega
  have XW := Lib.hid (Ext.refl w)
  clear hB
  go_enter Try.func3, Try.ntmps3
  go_wp2_with fail
  (with_reducible refine (C1.out _).mono ?_)
  rintro e w_1 ⟨rfl, rfl⟩
  go_wp2_with fail
  (with_reducible refine (C2.out _).mono ?_)
  rintro e w_2 ⟨rfl, rfl⟩
  go_wp2_with fail
  go_loopg [11] 0 (fun gh i wx => i = .int .i64 0 ∧ Ext w wx)
  case atStart => exact ⟨rfl, XW.out⟩
  case round =>
    obtain ⟨rfl, hx0⟩ := hrel
    replace HB := Lib.hid (HB.out.ext hx0)
    replace XW := Lib.hid hx0
    have rw0 := Ext.size hx0
    clear hx0
    go_wp2_with fail
    (with_reducible refine (cNewReader_any B d M hM _ (HB.out.ext (by repeat (first | with_reducible exact Ext.refl _ | with_reducible refine Ext.drew ?_ | with_reducible refine Ext.drewN ?_ _ | with_reducible refine Ext.alloc ?_ _ | with_reducible refine Ext.setCell ?_ (by first | omega | (simp; done) | (simp; omega)) _))) hMl hnil).mono ?_)
    rintro e w11 ⟨g3, rfl, hg3, hr3, hx11⟩
    have z11 := hx11.size
    try simp at z11
    replace HB := Lib.hid (HB.out.ext (Ext.trans (by repeat (first | with_reducible exact Ext.refl _ | with_reducible refine Ext.drew ?_ | with_reducible refine Ext.drewN ?_ _ | with_reducible refine Ext.alloc ?_ _ | with_reducible refine Ext.setCell ?_ (by first | omega | (simp; done) | (simp; omega)) _)) hx11))
    have X11 : Hid (Ext w w11) := Lib.hid (Ext.trans (by repeat (first | with_reducible exact XW.out | with_reducible refine Ext.drew ?_ | with_reducible refine Ext.drewN ?_ _ | with_reducible refine Ext.alloc ?_ _ | with_reducible refine Ext.setCell ?_ (by first | omega | (simp; done) | (simp; omega)) _)) hx11)
    have A3 := Lib.hid hr3
    clear XW hx11 z11 hr3
    try simp only [World.heap_size_alloc] at hg3
    have q3 := A3.out.lt
    have hg3w : w.heap.size ≤ g3 := by omega
    go_wp2_with fail
    (with_reducible refine (rNewReader_any B d M hM _ (HB.out.ext (by repeat (first | with_reducible exact Ext.refl _ | with_reducible refine Ext.drew ?_ | with_reducible refine Ext.drewN ?_ _ | with_reducible refine Ext.alloc ?_ _ | with_reducible refine Ext.setCell ?_ (by first | omega | (simp; done) | (simp; omega)) _))) hMl).mono ?_)
    rintro e w12 ⟨g4, rfl, hg4, hr4, hx12⟩
    have z12 := hx12.size
    try simp at z12
    replace A3 := Lib.hid (A3.out.ext (Ext.trans (by repeat (first | with_reducible exact Ext.refl _ | with_reducible refine Ext.drew ?_ | with_reducible refine Ext.drewN ?_ _ | with_reducible refine Ext.alloc ?_ _ | with_reducible refine Ext.setCell ?_ (by first | omega | (simp; done) | (simp; omega)) _)) hx12))
    have X12 : Hid (Ext w w12) := Lib.hid (Ext.trans (by repeat (first | with_reducible exact X11.out | with_reducible refine Ext.drew ?_ | with_reducible refine Ext.drewN ?_ _ | with_reducible refine Ext.alloc ?_ _ | with_reducible refine Ext.setCell ?_ (by first | omega | (simp; done) | (simp; omega)) _)) hx12)
    have A4 := Lib.hid hr4
    clear HB X11 hx12 z12 hr4
    try simp only [World.heap_size_alloc] at hg4
    have q34 : g3 < g4 := by omega
    have hg4w : w.heap.size ≤ g4 := by omega
    go_wp2_with fail
    go_loopg [18] 8 (fun gh i wx => gh ≤ 8 ∧ i = .int .i64 ((8 - gh : Nat) : Int) ∧ ∃ k f, Rd wx g3 M k f ∧ RRd wx g4 M k f ∧ Ext w wx)
    case atStart => exact ⟨Nat.le_refl _, by simp, 0, none, A3.out, A4.out, X12.out⟩
    case round =>
      clear A3 A4 X12
      obtain ⟨hg, hi, k, f, h3, h4, hx0⟩ := hrel
      have A3 := Lib.hid h3
      have A4 := Lib.hid h4
      have XR := Lib.hid hx0
      have rw_ := Ext.size hx0
      clear h3 h4 hx0
      obtain ⟨j, hj⟩ : ∃ j, j = 8 - gk := ⟨_, rfl⟩
      rw [← hj] at hi
      subst hi
      by_cases hz : gk = 0
      · have hj8 : ¬ (j : Int) < 8 := by omega
        clear hz hg hj
        go_wp2_with fail
        (with_reducible refine (tPut_nil 0 1 (-1) 0 _).mono ?_)
        rintro e w61 ⟨rfl, hx61⟩
        have z61 := hx61.size
        try simp at z61
        have X61 : Hid (Ext w w61) := Lib.hid (Ext.trans (by repeat (first | with_reducible exact XR.out | with_reducible refine Ext.drew ?_ | with_reducible refine Ext.drewN ?_ _ | with_reducible refine Ext.alloc ?_ _ | with_reducible refine Ext.setCell ?_ (by first | omega | (simp; done) | (simp; omega)) _)) hx61)
        clear XR hx61 z61
        go_wp2_with fail
        (with_reducible refine (tTake_nil _).mono ?_)
        rintro e w62 ⟨rfl, hx62⟩
        have z62 := hx62.size
        try simp at z62
        have X62 : Hid (Ext w w62) := Lib.hid (Ext.trans (by repeat (first | with_reducible exact X61.out | with_reducible refine Ext.drew ?_ | with_reducible refine Ext.drewN ?_ _ | with_reducible refine Ext.alloc ?_ _ | with_reducible refine Ext.setCell ?_ (by first | omega | (simp; done) | (simp; omega)) _)) hx62)
        clear X61 hx62 z62
        go_wp2_with fail
        (with_reducible refine (awake12_any _).mono ?_)
        rintro e w63 ⟨rfl, hx63⟩
        have z63 := hx63.size
        try simp at z63
        have X63 : Hid (Ext w w63) := Lib.hid (Ext.trans (by repeat (first | with_reducible exact X62.out | with_reducible refine Ext.drew ?_ | with_reducible refine Ext.drewN ?_ _ | with_reducible refine Ext.alloc ?_ _ | with_reducible refine Ext.setCell ?_ (by first | omega | (simp; done) | (simp; omega)) _)) hx63)
        clear X62 hx63 z63
        go_wp2_with fail
        go_ret
        exact ⟨rfl, (by repeat (first | with_reducible exact X63.out | with_reducible refine Ext.drew ?_ | with_reducible refine Ext.drewN ?_ _ | with_reducible refine Ext.alloc ?_ _ | with_reducible refine Ext.setCell ?_ (by first | omega | (simp; done) | (simp; omega)) _))⟩
      · have hj8 : (j : Int) < 8 := by omega
        have HK := Lib.hid (And.intro hj (And.intro hg hz))
        clear hz hg hj
        have CT := fun w h => tTake_any g3 k M f hMl w h
        have CU := fun w h => rTake12_any g4 k M f hMl w h
        generalize (if tkZ M (k, f) = true then 0 else tkA M (k, f)) = ra at CT CU
        generalize (if tkZ M (k, f) = true then 0 else tkB M (k, f)) = rb at CT CU
        generalize (if tkZ M (k, f) = true then 0 else tkC M (k, f) - 1) = rc at CT CU
        generalize (if tkZ M (k, f) = true then 0 else tkD M (k, f)) = rd at CT CU
        generalize (tk4 M (k, f)).1 = k2 at CT CU
        generalize tkF M (k, f) = f2 at CT CU
        replace CT := Lib.hid CT
        replace CU := Lib.hid CU
        have a1 := Lib.hid (fun w h => cAt_any g3 k2 M f2 w h)
        have a2 := Lib.hid (fun w h => rAt_any g4 k2 M f2 w h)
        have l1 := Lib.hid (fun w h => cLeft_any g3 k2 M f2 w h hMl)
        have l2 := Lib.hid (fun w h => rLeft_any g4 k2 M f2 w h hMl)
        have z1 := fun w h => cEnd_any g3 k2 M f2 w h hMl
        have z2 := fun w h => rEnd_any g4 k2 M f2 w h hMl
        generalize (endF f2 k2 M.length).1 = ee at z1 z2
        generalize (endF f2 k2 M.length).2 = ea at z1 z2
        have E1 := Lib.hid z1
        have E2 := Lib.hid z2
        clear z1 z2
        generalize atF f2 k2 = at_ at a1 a2
        generalize leftF f2 k2 M.length = lf at l1 l2
        have n34 : ¬ g4 = g3 := by omega
        go_wp2_with fail
        (with_reducible refine (CT.out _ A3.out).mono ?_)
        rintro e w71 ⟨rfl, hr, hx71⟩
        have hsz71 := hx71.size
        try simp at hsz71
        have z71 := hx71.size
        try simp at z71
        have X71 : Hid (Ext w w71) := Lib.hid (have hX := (show Ext w _ from (by repeat (first | with_reducible exact XR.out | with_reducible refine Ext.drew ?_ | with_reducible refine Ext.drewN ?_ _ | with_reducible refine Ext.alloc ?_ _ | with_reducible refine Ext.setCell ?_ (by first | omega | (simp; done) | (simp; omega)) _))); Below.trans hX (hx71.below (Ext.size hX) (fun k hk hh => by have hh2 : k = g3 := hh; omega)))
        have B3 := Lib.hid hr
        have B4 := Lib.hid (A4.out.butO hx71 n34 A3.out.c0)
        clear A3 A4 hsz71 XR hx71 z71 hr
        go_wp2_with fail
        (with_reducible refine (CU.out _ B4.out).mono ?_)
        rintro e w72 ⟨rfl, hr, hx72⟩
        have hsz72 := hx72.size
        try simp at hsz72
        have z72 := hx72.size
        try simp at z72
        have X72 : Hid (Ext w w72) := Lib.hid (have hX := (show Ext w _ from (by repeat (first | with_reducible exact X71.out | with_reducible refine Ext.drew ?_ | with_reducible refine Ext.drewN ?_ _ | with_reducible refine Ext.alloc ?_ _ | with_reducible refine Ext.setCell ?_ (by first | omega | (simp; done) | (simp; omega)) _))); Below.trans hX (hx72.below (Ext.size hX) (fun k hk hh => by have hh2 : k = g4 := hh; omega)))
        have D4 := Lib.hid hr
        have D3 := Lib.hid (B3.out.butO hx72 q34 B4.out.ty)
        clear B3 B4 hsz72 X71 hx72 z72 hr
        go_wp2_with fail
        (with_reducible refine (a1.out _ (D3.out.ext (by repeat (first | with_reducible exact Ext.refl _ | with_reducible refine Ext.drew ?_ | with_reducible refine Ext.drewN ?_ _ | with_reducible refine Ext.alloc ?_ _ | with_reducible refine Ext.setCell ?_ (by first | omega | (simp; done) | (simp; omega)) _)))).mono ?_)
        rintro e w_1 ⟨rfl, rfl⟩
        go_wp2_with fail
        (with_reducible refine (a2.out _ (D4.out.ext (by repeat (first | with_reducible exact Ext.refl _ | with_reducible refine Ext.drew ?_ | with_reducible refine Ext.drewN ?_ _ | with_reducible refine Ext.alloc ?_ _ | with_reducible refine Ext.setCell ?_ (by first | omega | (simp; done) | (simp; omega)) _)))).mono ?_)
        rintro e w_2 ⟨rfl, rfl⟩
        go_wp2_with fail
        (with_reducible refine (l1.out _ (D3.out.ext (by repeat (first | with_reducible exact Ext.refl _ | with_reducible refine Ext.drew ?_ | with_reducible refine Ext.drewN ?_ _ | with_reducible refine Ext.alloc ?_ _ | with_reducible refine Ext.setCell ?_ (by first | omega | (simp; done) | (simp; omega)) _)))).mono ?_)
        rintro e w73 ⟨rfl, hx73⟩
        have z73 := hx73.size
        try simp at z73
        replace D4 := Lib.hid (D4.out.ext (Ext.trans (by repeat (first | with_reducible exact Ext.refl _ | with_reducible refine Ext.drew ?_ | with_reducible refine Ext.drewN ?_ _ | with_reducible refine Ext.alloc ?_ _ | with_reducible refine Ext.setCell ?_ (by first | omega | (simp; done) | (simp; omega)) _)) hx73))
        replace D3 := Lib.hid (D3.out.ext (Ext.trans (by repeat (first | with_reducible exact Ext.refl _ | with_reducible refine Ext.drew ?_ | with_reducible refine Ext.drewN ?_ _ | with_reducible refine Ext.alloc ?_ _ | with_reducible refine Ext.setCell ?_ (by first | omega | (simp; done) | (simp; omega)) _)) hx73))
        have X73 : Hid (Ext w w73) := Lib.hid (Ext.trans (by repeat (first | with_reducible exact X72.out | with_reducible refine Ext.drew ?_ | with_reducible refine Ext.drewN ?_ _ | with_reducible refine Ext.alloc ?_ _ | with_reducible refine Ext.setCell ?_ (by first | omega | (simp; done) | (simp; omega)) _)) hx73)
        clear X72 hx73 z73
        go_wp2_with fail
        (with_reducible refine (l2.out _ (D4.out.ext (by repeat (first | with_reducible exact Ext.refl _ | with_reducible refine Ext.drew ?_ | with_reducible refine Ext.drewN ?_ _ | with_reducible refine Ext.alloc ?_ _ | with_reducible refine Ext.setCell ?_ (by first | omega | (simp; done) | (simp; omega)) _)))).mono ?_)
        rintro e w74 ⟨rfl, hx74⟩
        have z74 := hx74.size
        try simp at z74
        replace D4 := Lib.hid (D4.out.ext (Ext.trans (by repeat (first | with_reducible exact Ext.refl _ | with_reducible refine Ext.drew ?_ | with_reducible refine Ext.drewN ?_ _ | with_reducible refine Ext.alloc ?_ _ | with_reducible refine Ext.setCell ?_ (by first | omega | (simp; done) | (simp; omega)) _)) hx74))
        replace D3 := Lib.hid (D3.out.ext (Ext.trans (by repeat (first | with_reducible exact Ext.refl _ | with_reducible refine Ext.drew ?_ | with_reducible refine Ext.drewN ?_ _ | with_reducible refine Ext.alloc ?_ _ | with_reducible refine Ext.setCell ?_ (by first | omega | (simp; done) | (simp; omega)) _)) hx74))
        have X74 : Hid (Ext w w74) := Lib.hid (Ext.trans (by repeat (first | with_reducible exact X73.out | with_reducible refine Ext.drew ?_ | with_reducible refine Ext.drewN ?_ _ | with_reducible refine Ext.alloc ?_ _ | with_reducible refine Ext.setCell ?_ (by first | omega | (simp; done) | (simp; omega)) _)) hx74)
        clear X73 hx74 z74
        go_wp2_with fail
        (with_reducible refine (E1.out _ (D3.out.ext (by repeat (first | with_reducible exact Ext.refl _ | with_reducible refine Ext.drew ?_ | with_reducible refine Ext.drewN ?_ _ | with_reducible refine Ext.alloc ?_ _ | with_reducible refine Ext.setCell ?_ (by first | omega | (simp; done) | (simp; omega)) _)))).mono ?_)
        rintro e w75 ⟨rfl, hx75⟩
        have z75 := hx75.size
        try simp at z75
        replace D4 := Lib.hid (D4.out.ext (Ext.trans (by repeat (first | with_reducible exact Ext.refl _ | with_reducible refine Ext.drew ?_ | with_reducible refine Ext.drewN ?_ _ | with_reducible refine Ext.alloc ?_ _ | with_reducible refine Ext.setCell ?_ (by first | omega | (simp; done) | (simp; omega)) _)) hx75))
        replace D3 := Lib.hid (D3.out.ext (Ext.trans (by repeat (first | with_reducible exact Ext.refl _ | with_reducible refine Ext.drew ?_ | with_reducible refine Ext.drewN ?_ _ | with_reducible refine Ext.alloc ?_ _ | with_reducible refine Ext.setCell ?_ (by first | omega | (simp; done) | (simp; omega)) _)) hx75))
        have X75 : Hid (Ext w w75) := Lib.hid (Ext.trans (by repeat (first | with_reducible exact X74.out | with_reducible refine Ext.drew ?_ | with_reducible refine Ext.drewN ?_ _ | with_reducible refine Ext.alloc ?_ _ | with_reducible refine Ext.setCell ?_ (by first | omega | (simp; done) | (simp; omega)) _)) hx75)
        clear X74 hx75 z75
        go_wp2_with fail
        (with_reducible refine (E2.out _ (D4.out.ext (by repeat (first | with_reducible exact Ext.refl _ | with_reducible refine Ext.drew ?_ | with_reducible refine Ext.drewN ?_ _ | with_reducible refine Ext.alloc ?_ _ | with_reducible refine Ext.setCell ?_ (by first | omega | (simp; done) | (simp; omega)) _)))).mono ?_)
        rintro e w76 ⟨rfl, hx76⟩
        have z76 := hx76.size
        try simp at z76
        replace D4 := Lib.hid (D4.out.ext (Ext.trans (by repeat (first | with_reducible exact Ext.refl _ | with_reducible refine Ext.drew ?_ | with_reducible refine Ext.drewN ?_ _ | with_reducible refine Ext.alloc ?_ _ | with_reducible refine Ext.setCell ?_ (by first | omega | (simp; done) | (simp; omega)) _)) hx76))
        replace D3 := Lib.hid (D3.out.ext (Ext.trans (by repeat (first | with_reducible exact Ext.refl _ | with_reducible refine Ext.drew ?_ | with_reducible refine Ext.drewN ?_ _ | with_reducible refine Ext.alloc ?_ _ | with_reducible refine Ext.setCell ?_ (by first | omega | (simp; done) | (simp; omega)) _)) hx76))
        have X76 : Hid (Ext w w76) := Lib.hid (Ext.trans (by repeat (first | with_reducible exact X75.out | with_reducible refine Ext.drew ?_ | with_reducible refine Ext.drewN ?_ _ | with_reducible refine Ext.alloc ?_ _ | with_reducible refine Ext.setCell ?_ (by first | omega | (simp; done) | (simp; omega)) _)) hx76)
        clear X75 hx76 z76
        go_wp2_with fail
        go_roundg (gk - 1)
        case measure => have := HK.out; omega
        case rel => exact ⟨by have := HK.out; omega, num_eq (by have := HK.out; omega), k2, f2, D3.out.ext (by repeat (first | with_reducible exact Ext.refl _ | with_reducible refine Ext.drew ?_ | with_reducible refine Ext.drewN ?_ _ | with_reducible refine Ext.alloc ?_ _ | with_reducible refine Ext.setCell ?_ (by first | omega | (simp; done) | (simp; omega)) _)), D4.out.ext (by repeat (first | with_reducible exact Ext.refl _ | with_reducible refine Ext.drew ?_ | with_reducible refine Ext.drewN ?_ _ | with_reducible refine Ext.alloc ?_ _ | with_reducible refine Ext.setCell ?_ (by first | omega | (simp; done) | (simp; omega)) _)), (by repeat (first | with_reducible exact X76.out | with_reducible refine Ext.drew ?_ | with_reducible refine Ext.drewN ?_ _ | with_reducible refine Ext.alloc ?_ _ | with_reducible refine Ext.setCell ?_ (by first | omega | (simp; done) | (simp; omega)) _))⟩
set_option maxRecDepth 100000 in
set_option maxHeartbeats 8000000 in
theorem StampRows_ok (A : Option Addr) (n c : Nat) (l : List (Int × Int × Int × Int)) (hn : n ≤ 12) (lim : Int) (hl0 : 0 ≤ lim) (hl1 : lim ≤ 1048576) (M : List Nat) (B : Option Addr) (d : Nat) (hM : Byt M) (hMl : M.length < 1099511627776) (hM2 : M.length ≤ 200) (hnil : B = none → d = 0) (w : World) (hS : Sl w 4 A n c (l.flatMap stc)) (hB : Sl w 1 B M.length d (by_ M)) :
    Calls Try.prog 3 #[.slice A n c, .int .i64 lim, .slice B M.length d] w fun r w' => r = .returned (.bool true) ∧ Ext w w' := by
  have HB := Lib.hid hB
  have HS := Lib.hid hS
  have hlen := Lib.hid (hS.rlen stc_len (by decide))
  have hnI : ¬ (12 : Int) < (n : Int) := by omega
  have hmI : ¬ (200 : Int) < (M.length : Int) := by omega
  have HB00 := Lib.hid hB
  have HS00 := Lib.hid hS
  clear hB hS
  go_enter Try.func3, Try.ntmps3
  go_wp2_with fail
  (with_reducible refine (cNewWriter_any lim hl0 hl1 _).mono ?_)
  rintro e w1 ⟨rfl, hw, hx1⟩
  have z1 := hx1.size
  try simp at z1
  replace HB := Lib.hid (HB.out.ext (Ext.trans (by repeat (first | with_reducible exact Ext.refl _ | with_reducible refine Ext.drew ?_ | with_reducible refine Ext.drewN ?_ _ | with_reducible refine Ext.alloc ?_ _ | with_reducible refine Ext.setCell ?_ (by first | omega | (simp; done) | (simp; omega)) _)) hx1))
  replace HS := Lib.hid (HS.out.ext (Ext.trans (by repeat (first | with_reducible exact Ext.refl _ | with_reducible refine Ext.drew ?_ | with_reducible refine Ext.drewN ?_ _ | with_reducible refine Ext.alloc ?_ _ | with_reducible refine Ext.setCell ?_ (by first | omega | (simp; done) | (simp; omega)) _)) hx1))
  have X1 : Hid (Ext w w1) := Lib.hid (Ext.trans (by repeat (first | with_reducible exact Ext.refl w | with_reducible refine Ext.drew ?_ | with_reducible refine Ext.drewN ?_ _ | with_reducible refine Ext.alloc ?_ _ | with_reducible refine Ext.setCell ?_ (by first | omega | (simp; done) | (simp; omega)) _)) hx1)
  have HW := Lib.hid hw
  clear hx1 z1 hw
  have HW1 := HW
  have q01 := Ext.size X1.out
  go_wp2_with fail
  (with_reducible refine (rNewWriter_any lim hl0 hl1 _).mono ?_)
  rintro e w2 ⟨rfl, hw, hx2⟩
  have z2 := hx2.size
  try simp at z2
  replace HB := Lib.hid (HB.out.ext (Ext.trans (by repeat (first | with_reducible exact Ext.refl _ | with_reducible refine Ext.drew ?_ | with_reducible refine Ext.drewN ?_ _ | with_reducible refine Ext.alloc ?_ _ | with_reducible refine Ext.setCell ?_ (by first | omega | (simp; done) | (simp; omega)) _)) hx2))
  replace HS := Lib.hid (HS.out.ext (Ext.trans (by repeat (first | with_reducible exact Ext.refl _ | with_reducible refine Ext.drew ?_ | with_reducible refine Ext.drewN ?_ _ | with_reducible refine Ext.alloc ?_ _ | with_reducible refine Ext.setCell ?_ (by first | omega | (simp; done) | (simp; omega)) _)) hx2))
  replace HW := Lib.hid (HW.out.ext (Ext.trans (by repeat (first | with_reducible exact Ext.refl _ | with_reducible refine Ext.drew ?_ | with_reducible refine Ext.drewN ?_ _ | with_reducible refine Ext.alloc ?_ _ | with_reducible refine Ext.setCell ?_ (by first | omega | (simp; done) | (simp; omega)) _)) hx2))
  have X2 : Hid (Ext w w2) := Lib.hid (Ext.trans (by repeat (first | with_reducible exact X1.out | with_reducible refine Ext.drew ?_ | with_reducible refine Ext.drewN ?_ _ | with_reducible refine Ext.alloc ?_ _ | with_reducible refine Ext.setCell ?_ (by first | omega | (simp; done) | (simp; omega)) _)) hx2)
  have HV := Lib.hid hw
  have hd0 := Lib.hid (dis0 HW1.out hw hx2)
  clear X1 hx2 z2 hw
  clear HW1
  go_wp2_with fail
  have HB0 := HB00
  have HS0 := HS00
  go_loopg [11] n (fun gh i wx => gh ≤ n ∧ i = .int .i64 ((n - gh : Nat) : Int) ∧ ∃ e L, Byt L ∧ Wr wx w.heap.size lim e L ∧ RWr wx w1.heap.size lim e L ∧ ¬ e = 1 ∧ Dis wx w.heap.size w1.heap.size ∧ Ext w wx)
  case atStart => exact ⟨Nat.le_refl _, by simp, 0, [], (fun x hx => by cases hx), HW.out, HV.out, by decide, hd0.out, X2.out⟩
  case round =>
    clear HW HV hd0 X2 HB HS
    obtain ⟨hg, hi, e, L, hby, hw, hv, he1, hd, hx0⟩ := hrel
    have HBy := Lib.hid hby
    have HW := Lib.hid hw
    have HV := Lib.hid hv
    have HD := Lib.hid hd
    have HE1 := Lib.hid he1
    have XR := Lib.hid hx0
    have HBr := Lib.hid (HB0.out.ext hx0)
    have HSr := Lib.hid (HS0.out.ext hx0)
    have q1 := hw.lt
    have q2 := hv.lt
    have hwz := Ext.size hx0
    clear hw hv hd he1 hx0 hby
    obtain ⟨k, hk⟩ : ∃ k, k = n - gk := ⟨_, rfl⟩
    rw [← hk] at hi
    subst hi
    by_cases hz : gk = 0
    · have hkn : ¬ (k : Int) < n := by omega
      clear hz hg hk HSr
      have hLb : Byt (if e = 0 then L else []) := by
        split
        · exact HBy.out
        · intro x hx; cases hx
      have CD1 := fun w' h => cDone_any w.heap.size lim e L w' h
      have CD2 := fun w' h => rDone_any w1.heap.size lim e L w' h
      generalize (if e = 0 then L else []) = LD at CD1 CD2 hLb
      replace CD1 := Lib.hid CD1
      replace CD2 := Lib.hid CD2
      go_wp2_with fail
      (with_reducible refine ((Calls.mono (CD1.out _ (HW.out.ext (by repeat (first | with_reducible exact Ext.refl _ | with_reducible refine Ext.drew ?_ | with_reducible refine Ext.drewN ?_ _ | with_reducible refine Ext.alloc ?_ _ | with_reducible refine Ext.setCell ?_ (by first | omega | (simp; done) | (simp; omega)) _)))) fun r w' h => own_out h)).mono ?_)
      rintro e w11 ⟨pA, pAc, rfl, pAn, pAo, hx11⟩
      have z11 := hx11.size
      try simp at z11
      replace HV := Lib.hid (HV.out.ext (Ext.trans (by repeat (first | with_reducible exact Ext.refl _ | with_reducible refine Ext.drew ?_ | with_reducible refine Ext.drewN ?_ _ | with_reducible refine Ext.alloc ?_ _ | with_reducible refine Ext.setCell ?_ (by first | omega | (simp; done) | (simp; omega)) _)) hx11))
      replace HBr := Lib.hid (HBr.out.ext (Ext.trans (by repeat (first | with_reducible exact Ext.refl _ | with_reducible refine Ext.drew ?_ | with_reducible refine Ext.drewN ?_ _ | with_reducible refine Ext.alloc ?_ _ | with_reducible refine Ext.setCell ?_ (by first | omega | (simp; done) | (simp; omega)) _)) hx11))
      have X11 : Hid (Ext w w11) := Lib.hid (Ext.trans (by repeat (first | with_reducible exact XR.out | with_reducible refine Ext.drew ?_ | with_reducible refine Ext.drewN ?_ _ | with_reducible refine Ext.alloc ?_ _ | with_reducible refine Ext.setCell ?_ (by first | omega | (simp; done) | (simp; omega)) _)) hx11)
      have HpA := Lib.hid pAo
      clear HW XR hx11 z11 pAo
      clear pAn
      go_wp2_with fail
      (with_reducible refine ((Calls.mono (CD2.out _ (HV.out.ext (by repeat (first | with_reducible exact Ext.refl _ | with_reducible refine Ext.drew ?_ | with_reducible refine Ext.drewN ?_ _ | with_reducible refine Ext.alloc ?_ _ | with_reducible refine Ext.setCell ?_ (by first | omega | (simp; done) | (simp; omega)) _)))) fun r w' h => own_out h)).mono ?_)
      rintro e w12 ⟨pB, pBc, rfl, pBn, pBo, hx12⟩
      have z12 := hx12.size
      try simp at z12
      replace HBr := Lib.hid (HBr.out.ext (Ext.trans (by repeat (first | with_reducible exact Ext.refl _ | with_reducible refine Ext.drew ?_ | with_reducible refine Ext.drewN ?_ _ | with_reducible refine Ext.alloc ?_ _ | with_reducible refine Ext.setCell ?_ (by first | omega | (simp; done) | (simp; omega)) _)) hx12))
      replace HpA := Lib.hid (HpA.out.ext (Ext.trans (by repeat (first | with_reducible exact Ext.refl _ | with_reducible refine Ext.drew ?_ | with_reducible refine Ext.drewN ?_ _ | with_reducible refine Ext.alloc ?_ _ | with_reducible refine Ext.setCell ?_ (by first | omega | (simp; done) | (simp; omega)) _)) hx12))
      have X12 : Hid (Ext w w12) := Lib.hid (Ext.trans (by repeat (first | with_reducible exact X11.out | with_reducible refine Ext.drew ?_ | with_reducible refine Ext.drewN ?_ _ | with_reducible refine Ext.alloc ?_ _ | with_reducible refine Ext.setCell ?_ (by first | omega | (simp; done) | (simp; omega)) _)) hx12)
      have HpB := Lib.hid pBo
      clear HV X11 hx12 z12 pBo
      clear pBn
      go_wp2_with fail
      (with_reducible refine ((kSameBytes_eq _ _ _ _ _ _ LD hLb _ (HpA.out.ext (by repeat (first | with_reducible exact Ext.refl _ | with_reducible refine Ext.drew ?_ | with_reducible refine Ext.drewN ?_ _ | with_reducible refine Ext.alloc ?_ _ | with_reducible refine Ext.setCell ?_ (by first | omega | (simp; done) | (simp; omega)) _))).sl (HpB.out.ext (by repeat (first | with_reducible exact Ext.refl _ | with_reducible refine Ext.drew ?_ | with_reducible refine Ext.drewN ?_ _ | with_reducible refine Ext.alloc ?_ _ | with_reducible refine Ext.setCell ?_ (by first | omega | (simp; done) | (simp; omega)) _))).sl)).mono ?_)
      rintro e w_1 ⟨rfl, rfl⟩
      clear HpA HpB hLb HD HE1 CD1 CD2
      have HB := HBr
      clear HBr
      have rw0 := Ext.size X12.out
      clear hwz q1 q2
      go_wp2_with fail
      (with_reducible refine (cNewReader_any B d M hM _ (HB.out.ext (by repeat (first | with_reducible exact Ext.refl _ | with_reducible refine Ext.drew ?_ | with_reducible refine Ext.drewN ?_ _ | with_reducible refine Ext.alloc ?_ _ | with_reducible refine Ext.setCell ?_ (by first | omega | (simp; done) | (simp; omega)) _))) hMl hnil).mono ?_)
      rintro e w13 ⟨g3, rfl, hg3, hr3, hx13⟩
      have z13 := hx13.size
      try simp at z13
      replace HB := Lib.hid (HB.out.ext (Ext.trans (by repeat (first | with_reducible exact Ext.refl _ | with_reducible refine Ext.drew ?_ | with_reducible refine Ext.drewN ?_ _ | with_reducible refine Ext.alloc ?_ _ | with_reducible refine Ext.setCell ?_ (by first | omega | (simp; done) | (simp; omega)) _)) hx13))
      have X13 : Hid (Ext w w13) := Lib.hid (Ext.trans (by repeat (first | with_reducible exact X12.out | with_reducible refine Ext.drew ?_ | with_reducible refine Ext.drewN ?_ _ | with_reducible refine Ext.alloc ?_ _ | with_reducible refine Ext.setCell ?_ (by first | omega | (simp; done) | (simp; omega)) _)) hx13)
      have A3 := Lib.hid hr3
      clear X12 hx13 z13 hr3
      try simp only [World.heap_size_alloc] at hg3
      have q3 := A3.out.lt
      have hg3w : w.heap.size ≤ g3 := by omega
      go_wp2_with fail
      (with_reducible refine (rNewReader_any B d M hM _ (HB.out.ext (by repeat (first | with_reducible exact Ext.refl _ | with_reducible refine Ext.drew ?_ | with_reducible refine Ext.drewN ?_ _ | with_reducible refine Ext.alloc ?_ _ | with_reducible refine Ext.setCell ?_ (by first | omega | (simp; done) | (simp; omega)) _))) hMl).mono ?_)
      rintro e w14 ⟨g4, rfl, hg4, hr4, hx14⟩
      have z14 := hx14.size
      try simp at z14
      replace A3 := Lib.hid (A3.out.ext (Ext.trans (by repeat (first | with_reducible exact Ext.refl _ | with_reducible refine Ext.drew ?_ | with_reducible refine Ext.drewN ?_ _ | with_reducible refine Ext.alloc ?_ _ | with_reducible refine Ext.setCell ?_ (by first | omega | (simp; done) | (simp; omega)) _)) hx14))
      have X14 : Hid (Ext w w14) := Lib.hid (Ext.trans (by repeat (first | with_reducible exact X13.out | with_reducible refine Ext.drew ?_ | with_reducible refine Ext.drewN ?_ _ | with_reducible refine Ext.alloc ?_ _ | with_reducible refine Ext.setCell ?_ (by first | omega | (simp; done) | (simp; omega)) _)) hx14)
      have A4 := Lib.hid hr4
      clear HB X13 hx14 z14 hr4
      try simp only [World.heap_size_alloc] at hg4
      have q34 : g3 < g4 := by omega
      have hg4w : w.heap.size ≤ g4 := by omega
      go_wp2_with fail
      go_loopg [18] 8 (fun gh i wx => gh ≤ 8 ∧ i = .int .i64 ((8 - gh : Nat) : Int) ∧ ∃ k f, Rd wx g3 M k f ∧ RRd wx g4 M k f ∧ Ext w wx)
      case atStart => exact ⟨Nat.le_refl _, by simp, 0, none, A3.out, A4.out, X14.out⟩
      case round =>
        clear A3 A4 X14
        obtain ⟨hg, hi, k, f, h3, h4, hx0⟩ := hrel
        have A3 := Lib.hid h3
        have A4 := Lib.hid h4
        have XR := Lib.hid hx0
        have rw_ := Ext.size hx0
        clear h3 h4 hx0
        obtain ⟨j, hj⟩ : ∃ j, j = 8 - gk := ⟨_, rfl⟩
        rw [← hj] at hi
        subst hi
        by_cases hz : gk = 0
        · have hj8 : ¬ (j : Int) < 8 := by omega
          clear hz hg hj
          go_wp2_with fail
          (with_reducible refine (tPut_nil 0 1 (-1) 0 _).mono ?_)
          rintro e w61 ⟨rfl, hx61⟩
          have z61 := hx61.size
          try simp at z61
          have X61 : Hid (Ext w w61) := Lib.hid (Ext.trans (by repeat (first | with_reducible exact XR.out | with_reducible refine Ext.drew ?_ | with_reducible refine Ext.drewN ?_ _ | with_reducible refine Ext.alloc ?_ _ | with_reducible refine Ext.setCell ?_ (by first | omega | (simp; done) | (simp; omega)) _)) hx61)
          clear XR hx61 z61
          go_wp2_with fail
          (with_reducible refine (tTake_nil _).mono ?_)
          rintro e w62 ⟨rfl, hx62⟩
          have z62 := hx62.size
          try simp at z62
          have X62 : Hid (Ext w w62) := Lib.hid (Ext.trans (by repeat (first | with_reducible exact X61.out | with_reducible refine Ext.drew ?_ | with_reducible refine Ext.drewN ?_ _ | with_reducible refine Ext.alloc ?_ _ | with_reducible refine Ext.setCell ?_ (by first | omega | (simp; done) | (simp; omega)) _)) hx62)
          clear X61 hx62 z62
          go_wp2_with fail
          (with_reducible refine (awake12_any _).mono ?_)
          rintro e w63 ⟨rfl, hx63⟩
          have z63 := hx63.size
          try simp at z63
          have X63 : Hid (Ext w w63) := Lib.hid (Ext.trans (by repeat (first | with_reducible exact X62.out | with_reducible refine Ext.drew ?_ | with_reducible refine Ext.drewN ?_ _ | with_reducible refine Ext.alloc ?_ _ | with_reducible refine Ext.setCell ?_ (by first | omega | (simp; done) | (simp; omega)) _)) hx63)
          clear X62 hx63 z63
          go_wp2_with fail
          go_ret
          exact ⟨rfl, (by repeat (first | with_reducible exact X63.out | with_reducible refine Ext.drew ?_ | with_reducible refine Ext.drewN ?_ _ | with_reducible refine Ext.alloc ?_ _ | with_reducible refine Ext.setCell ?_ (by first | omega | (simp; done) | (simp; omega)) _))⟩
        · have hj8 : (j : Int) < 8 := by omega
          have HK := Lib.hid (And.intro hj (And.intro hg hz))
          clear hz hg hj
          have CT := fun w h => tTake_any g3 k M f hMl w h
          have CU := fun w h => rTake12_any g4 k M f hMl w h
          generalize (if tkZ M (k, f) = true then 0 else tkA M (k, f)) = ra at CT CU
          generalize (if tkZ M (k, f) = true then 0 else tkB M (k, f)) = rb at CT CU
          generalize (if tkZ M (k, f) = true then 0 else tkC M (k, f) - 1) = rc at CT CU
          generalize (if tkZ M (k, f) = true then 0 else tkD M (k, f)) = rd at CT CU
          generalize (tk4 M (k, f)).1 = k2 at CT CU
          generalize tkF M (k, f) = f2 at CT CU
          replace CT := Lib.hid CT
          replace CU := Lib.hid CU
          have a1 := Lib.hid (fun w h => cAt_any g3 k2 M f2 w h)
          have a2 := Lib.hid (fun w h => rAt_any g4 k2 M f2 w h)
          have l1 := Lib.hid (fun w h => cLeft_any g3 k2 M f2 w h hMl)
          have l2 := Lib.hid (fun w h => rLeft_any g4 k2 M f2 w h hMl)
          have z1 := fun w h => cEnd_any g3 k2 M f2 w h hMl
          have z2 := fun w h => rEnd_any g4 k2 M f2 w h hMl
          generalize (endF f2 k2 M.length).1 = ee at z1 z2
          generalize (endF f2 k2 M.length).2 = ea at z1 z2
          have E1 := Lib.hid z1
          have E2 := Lib.hid z2
          clear z1 z2
          generalize atF f2 k2 = at_ at a1 a2
          generalize leftF f2 k2 M.length = lf at l1 l2
          have n34 : ¬ g4 = g3 := by omega
          go_wp2_with fail
          (with_reducible refine (CT.out _ A3.out).mono ?_)
          rintro e w71 ⟨rfl, hr, hx71⟩
          have hsz71 := hx71.size
          try simp at hsz71
          have z71 := hx71.size
          try simp at z71
          have X71 : Hid (Ext w w71) := Lib.hid (have hX := (show Ext w _ from (by repeat (first | with_reducible exact XR.out | with_reducible refine Ext.drew ?_ | with_reducible refine Ext.drewN ?_ _ | with_reducible refine Ext.alloc ?_ _ | with_reducible refine Ext.setCell ?_ (by first | omega | (simp; done) | (simp; omega)) _))); Below.trans hX (hx71.below (Ext.size hX) (fun k hk hh => by have hh2 : k = g3 := hh; omega)))
          have B3 := Lib.hid hr
          have B4 := Lib.hid (A4.out.butO hx71 n34 A3.out.c0)
          clear A3 A4 hsz71 XR hx71 z71 hr
          go_wp2_with fail
          (with_reducible refine (CU.out _ B4.out).mono ?_)
          rintro e w72 ⟨rfl, hr, hx72⟩
          have hsz72 := hx72.size
          try simp at hsz72
          have z72 := hx72.size
          try simp at z72
          have X72 : Hid (Ext w w72) := Lib.hid (have hX := (show Ext w _ from (by repeat (first | with_reducible exact X71.out | with_reducible refine Ext.drew ?_ | with_reducible refine Ext.drewN ?_ _ | with_reducible refine Ext.alloc ?_ _ | with_reducible refine Ext.setCell ?_ (by first | omega | (simp; done) | (simp; omega)) _))); Below.trans hX (hx72.below (Ext.size hX) (fun k hk hh => by have hh2 : k = g4 := hh; omega)))
          have D4 := Lib.hid hr
          have D3 := Lib.hid (B3.out.butO hx72 q34 B4.out.ty)
          clear B3 B4 hsz72 X71 hx72 z72 hr
          go_wp2_with fail
          (with_reducible refine (a1.out _ (D3.out.ext (by repeat (first | with_reducible exact Ext.refl _ | with_reducible refine Ext.drew ?_ | with_reducible refine Ext.drewN ?_ _ | with_reducible refine Ext.alloc ?_ _ | with_reducible refine Ext.setCell ?_ (by first | omega | (simp; done) | (simp; omega)) _)))).mono ?_)
          rintro e w_1 ⟨rfl, rfl⟩
          go_wp2_with fail
          (with_reducible refine (a2.out _ (D4.out.ext (by repeat (first | with_reducible exact Ext.refl _ | with_reducible refine Ext.drew ?_ | with_reducible refine Ext.drewN ?_ _ | with_reducible refine Ext.alloc ?_ _ | with_reducible refine Ext.setCell ?_ (by first | omega | (simp; done) | (simp; omega)) _)))).mono ?_)
          rintro e w_2 ⟨rfl, rfl⟩
          go_wp2_with fail
          (with_reducible refine (l1.out _ (D3.out.ext (by repeat (first | with_reducible exact Ext.refl _ | with_reducible refine Ext.drew ?_ | with_reducible refine Ext.drewN ?_ _ | with_reducible refine Ext.alloc ?_ _ | with_reducible refine Ext.setCell ?_ (by first | omega | (simp; done) | (simp; omega)) _)))).mono ?_)
          rintro e w73 ⟨rfl, hx73⟩
          have z73 := hx73.size
          try simp at z73
          replace D4 := Lib.hid (D4.out.ext (Ext.trans (by repeat (first | with_reducible exact Ext.refl _ | with_reducible refine Ext.drew ?_ | with_reducible refine Ext.drewN ?_ _ | with_reducible refine Ext.alloc ?_ _ | with_reducible refine Ext.setCell ?_ (by first | omega | (simp; done) | (simp; omega)) _)) hx73))
          replace D3 := Lib.hid (D3.out.ext (Ext.trans (by repeat (first | with_reducible exact Ext.refl _ | with_reducible refine Ext.drew ?_ | with_reducible refine Ext.drewN ?_ _ | with_reducible refine Ext.alloc ?_ _ | with_reducible refine Ext.setCell ?_ (by first | omega | (simp; done) | (simp; omega)) _)) hx73))
          have X73 : Hid (Ext w w73) := Lib.hid (Ext.trans (by repeat (first | with_reducible exact X72.out | with_reducible refine Ext.drew ?_ | with_reducible refine Ext.drewN ?_ _ | with_reducible refine Ext.alloc ?_ _ | with_reducible refine Ext.setCell ?_ (by first | omega | (simp; done) | (simp; omega)) _)) hx73)
          clear X72 hx73 z73
          go_wp2_with fail
          (with_reducible refine (l2.out _ (D4.out.ext (by repeat (first | with_reducible exact Ext.refl _ | with_reducible refine Ext.drew ?_ | with_reducible refine Ext.drewN ?_ _ | with_reducible refine Ext.alloc ?_ _ | with_reducible refine Ext.setCell ?_ (by first | omega | (simp; done) | (simp; omega)) _)))).mono ?_)
          rintro e w74 ⟨rfl, hx74⟩
          have z74 := hx74.size
          try simp at z74
          replace D4 := Lib.hid (D4.out.ext (Ext.trans (by repeat (first | with_reducible exact Ext.refl _ | with_reducible refine Ext.drew ?_ | with_reducible refine Ext.drewN ?_ _ | with_reducible refine Ext.alloc ?_ _ | with_reducible refine Ext.setCell ?_ (by first | omega | (simp; done) | (simp; omega)) _)) hx74))
          replace D3 := Lib.hid (D3.out.ext (Ext.trans (by repeat (first | with_reducible exact Ext.refl _ | with_reducible refine Ext.drew ?_ | with_reducible refine Ext.drewN ?_ _ | with_reducible refine Ext.alloc ?_ _ | with_reducible refine Ext.setCell ?_ (by first | omega | (simp; done) | (simp; omega)) _)) hx74))
          have X74 : Hid (Ext w w74) := Lib.hid (Ext.trans (by repeat (first | with_reducible exact X73.out | with_reducible refine Ext.drew ?_ | with_reducible refine Ext.drewN ?_ _ | with_reducible refine Ext.alloc ?_ _ | with_reducible refine Ext.setCell ?_ (by first | omega | (simp; done) | (simp; omega)) _)) hx74)
          clear X73 hx74 z74
          go_wp2_with fail
          (with_reducible refine (E1.out _ (D3.out.ext (by repeat (first | with_reducible exact Ext.refl _ | with_reducible refine Ext.drew ?_ | with_reducible refine Ext.drewN ?_ _ | with_reducible refine Ext.alloc ?_ _ | with_reducible refine Ext.setCell ?_ (by first | omega | (simp; done) | (simp; omega)) _)))).mono ?_)
          rintro e w75 ⟨rfl, hx75⟩
          have z75 := hx75.size
          try simp at z75
          replace D4 := Lib.hid (D4.out.ext (Ext.trans (by repeat (first | with_reducible exact Ext.refl _ | with_reducible refine Ext.drew ?_ | with_reducible refine Ext.drewN ?_ _ | with_reducible refine Ext.alloc ?_ _ | with_reducible refine Ext.setCell ?_ (by first | omega | (simp; done) | (simp; omega)) _)) hx75))
          replace D3 := Lib.hid (D3.out.ext (Ext.trans (by repeat (first | with_reducible exact Ext.refl _ | with_reducible refine Ext.drew ?_ | with_reducible refine Ext.drewN ?_ _ | with_reducible refine Ext.alloc ?_ _ | with_reducible refine Ext.setCell ?_ (by first | omega | (simp; done) | (simp; omega)) _)) hx75))
          have X75 : Hid (Ext w w75) := Lib.hid (Ext.trans (by repeat (first | with_reducible exact X74.out | with_reducible refine Ext.drew ?_ | with_reducible refine Ext.drewN ?_ _ | with_reducible refine Ext.alloc ?_ _ | with_reducible refine Ext.setCell ?_ (by first | omega | (simp; done) | (simp; omega)) _)) hx75)
          clear X74 hx75 z75
          go_wp2_with fail
          (with_reducible refine (E2.out _ (D4.out.ext (by repeat (first | with_reducible exact Ext.refl _ | with_reducible refine Ext.drew ?_ | with_reducible refine Ext.drewN ?_ _ | with_reducible refine Ext.alloc ?_ _ | with_reducible refine Ext.setCell ?_ (by first | omega | (simp; done) | (simp; omega)) _)))).mono ?_)
          rintro e w76 ⟨rfl, hx76⟩
          have z76 := hx76.size
          try simp at z76
          replace D4 := Lib.hid (D4.out.ext (Ext.trans (by repeat (first | with_reducible exact Ext.refl _ | with_reducible refine Ext.drew ?_ | with_reducible refine Ext.drewN ?_ _ | with_reducible refine Ext.alloc ?_ _ | with_reducible refine Ext.setCell ?_ (by first | omega | (simp; done) | (simp; omega)) _)) hx76))
          replace D3 := Lib.hid (D3.out.ext (Ext.trans (by repeat (first | with_reducible exact Ext.refl _ | with_reducible refine Ext.drew ?_ | with_reducible refine Ext.drewN ?_ _ | with_reducible refine Ext.alloc ?_ _ | with_reducible refine Ext.setCell ?_ (by first | omega | (simp; done) | (simp; omega)) _)) hx76))
          have X76 : Hid (Ext w w76) := Lib.hid (Ext.trans (by repeat (first | with_reducible exact X75.out | with_reducible refine Ext.drew ?_ | with_reducible refine Ext.drewN ?_ _ | with_reducible refine Ext.alloc ?_ _ | with_reducible refine Ext.setCell ?_ (by first | omega | (simp; done) | (simp; omega)) _)) hx76)
          clear X75 hx76 z76
          go_wp2_with fail
          go_roundg (gk - 1)
          case measure => have := HK.out; omega
          case rel => exact ⟨by have := HK.out; omega, num_eq (by have := HK.out; omega), k2, f2, D3.out.ext (by repeat (first | with_reducible exact Ext.refl _ | with_reducible refine Ext.drew ?_ | with_reducible refine Ext.drewN ?_ _ | with_reducible refine Ext.alloc ?_ _ | with_reducible refine Ext.setCell ?_ (by first | omega | (simp; done) | (simp; omega)) _)), D4.out.ext (by repeat (first | with_reducible exact Ext.refl _ | with_reducible refine Ext.drew ?_ | with_reducible refine Ext.drewN ?_ _ | with_reducible refine Ext.alloc ?_ _ | with_reducible refine Ext.setCell ?_ (by first | omega | (simp; done) | (simp; omega)) _)), (by repeat (first | with_reducible exact X76.out | with_reducible refine Ext.drew ?_ | with_reducible refine Ext.drewN ?_ _ | with_reducible refine Ext.alloc ?_ _ | with_reducible refine Ext.setCell ?_ (by first | omega | (simp; done) | (simp; omega)) _))⟩
    · have hkn : (k : Int) < n := by omega
      have hkl : k < l.length := by have := hlen.out; omega
      obtain ⟨b, o, rfl, hbw, hcell⟩ := HSr.out.rec_ stc_len (show 0 < n from by omega)
      have hb0 : b < w.heap.size := by
        obtain ⟨b', o', e', hb', _⟩ := HS0.out.at_ (show 0 < n from by omega)
        injection e' with e'
        injection e' with e1
        omega
      have c0 := hcell k _ (List.getElem?_eq_getElem hkl) 0 _ rfl
      have c1 := hcell k _ (List.getElem?_eq_getElem hkl) 1 _ rfl
      have c2 := hcell k _ (List.getElem?_eq_getElem hkl) 2 _ rfl
      have c3 := hcell k _ (List.getElem?_eq_getElem hkl) 3 _ rfl
      obtain ⟨⟨V, S, P, Q⟩, hxx⟩ : ∃ x, x = l[k] := ⟨_, rfl⟩
      rw [← hxx] at c0 c1 c2 c3
      simp only at c0 c1 c2 c3
      rw [Nat.add_zero] at c0
      rw [← Nat.add_assoc] at c1 c2 c3
      have b_0 := c0
      have b_1 := c1
      have b_2 := c2
      have b_3 := c3
      have HK := Lib.hid (And.intro hk (And.intro hg hz))
      have rb : b < wr.heap.size := hbw
      have rba : b < wr.heap.size + 1 := by omega
      have rbb : b < wr.heap.size + 1 + 1 := by omega
      have rbc : b < wr.heap.size + 1 + 1 + 1 := by omega
      have rbn : ¬ b = wr.heap.size := by omega
      clear c0 c1 c2 c3 hcell hkl hxx hk hg hz HSr HBr
      have CP := Lib.hid (fun w' h => tPut_any w.heap.size lim e L V S P Q HE1.out w' h)
      have CQ := Lib.hid (fun w' h => rPut12_any w1.heap.size lim e L V S P Q w' h)
      have hN1 := Lib.hid (putST_ne1 (lim := lim) (s := (e, L)) (V := V) (S := S) (P := P) (F := Q) HE1.out)
      have hB2 := Lib.hid (putST_byt (lim := lim) (s := (e, L)) (V := V) (S := S) (P := P) (F := Q) HBy.out)
      generalize putRE lim (e, L) V S P Q = re at CP CQ
      generalize putST lim (e, L) V S P Q = st at CP CQ hN1 hB2
      obtain ⟨e2, L2⟩ := st
      go_wp2_with fail
      refine wp_region_held_drew (S := fun w' => w'.cell? ⟨b, o + k * 4, none⟩ = some (.int .i64 V) ∧ w'.cell? ⟨b, o + k * 4 + 1, none⟩ = some (.int .i64 S) ∧ w'.cell? ⟨b, o + k * 4 + 2, none⟩ = some (.int .i64 P) ∧ w'.cell? ⟨b, o + k * 4 + 3, none⟩ = some (.int .i64 Q)) (by kernel_rfl) (by first | exact ⟨b_0, b_1, b_2, b_3⟩ | (simp [go_sem, b_0, b_1, b_2, b_3]; done)) (fun hHeld => ?_)
      (refine' take_in 0 rfl (by kernel_rfl) (by kernel_rfl) (by kernel_rfl) (fun _ _ _ h => h) (by rfl) (by assumption) ?_ ?_; rotate_left; focus (intro w hSw; (try dsimp only at hSw); go_simp; try with_reducible rfl)); try simp only [Act.put, List.setIfInBounds_toArray, List.set_cons_zero, List.set_cons_succ]
      (refine' take_in 1 rfl (by kernel_rfl) (by kernel_rfl) (by kernel_rfl) (fun _ _ _ h => h) (by rfl) (by assumption) ?_ ?_; rotate_left; focus (intro w hSw; (try dsimp only at hSw); go_simp; try with_reducible rfl)); try simp only [Act.put, List.setIfInBounds_toArray, List.set_cons_zero, List.set_cons_succ]
      (refine' take_in 2 rfl (by kernel_rfl) (by kernel_rfl) (by kernel_rfl) (fun _ _ _ h => h) (by rfl) (by assumption) ?_ ?_; rotate_left; focus (intro w hSw; (try dsimp only at hSw); go_simp; try with_reducible rfl)); try simp only [Act.put, List.setIfInBounds_toArray, List.set_cons_zero, List.set_cons_succ]
      (refine' take_in 3 rfl (by kernel_rfl) (by kernel_rfl) (by kernel_rfl) (fun _ _ _ h => h) (by rfl) (by assumption) ?_ ?_; rotate_left; focus (intro w hSw; (try dsimp only at hSw); go_simp; try with_reducible rfl)); try simp only [Act.put, List.setIfInBounds_toArray, List.set_cons_zero, List.set_cons_succ]
      (refine' take_in 4 rfl (by kernel_rfl) (by kernel_rfl) (by kernel_rfl) (fun _ _ _ h => h) (by rfl) (by assumption) ?_ ?_; rotate_left; focus (intro w hSw; (try dsimp only at hSw); go_simp; try with_reducible rfl)); try simp only [Act.put, List.setIfInBounds_toArray, List.set_cons_zero, List.set_cons_succ]
      (refine' take_in 6 rfl (by kernel_rfl) (by kernel_rfl) (by kernel_rfl) (fun _ _ _ h => h) (by rfl) (by assumption) ?_ ?_; rotate_left; focus (intro w hSw; (try dsimp only at hSw); go_simp; try with_reducible rfl)); try simp only [Act.put, List.setIfInBounds_toArray, List.set_cons_zero, List.set_cons_succ]
      (refine' take_in 7 rfl (by kernel_rfl) (by kernel_rfl) (by kernel_rfl) (fun _ _ _ h => h) (by rfl) (by assumption) ?_ ?_; rotate_left; focus (intro w hSw; (try dsimp only at hSw); go_simp; try with_reducible rfl)); try simp only [Act.put, List.setIfInBounds_toArray, List.set_cons_zero, List.set_cons_succ]
      (refine' take_in 8 rfl (by kernel_rfl) (by kernel_rfl) (by kernel_rfl) (fun _ _ _ h => h) (by rfl) (by assumption) ?_ ?_; rotate_left; focus (intro w hSw; (try dsimp only at hSw); go_simp; try with_reducible rfl)); try simp only [Act.put, List.setIfInBounds_toArray, List.set_cons_zero, List.set_cons_succ]
      (refine' take_in 9 rfl (by kernel_rfl) (by kernel_rfl) (by kernel_rfl) (fun _ _ _ h => h) (by rfl) (by assumption) ?_ ?_; rotate_left; focus (intro w hSw; (try dsimp only at hSw); go_simp; try with_reducible rfl)); try simp only [Act.put, List.setIfInBounds_toArray, List.set_cons_zero, List.set_cons_succ]
      (refine' take_in 10 rfl (by kernel_rfl) (by kernel_rfl) (by kernel_rfl) (fun _ _ _ h => h) (by rfl) (by assumption) ?_ ?_; rotate_left; focus (intro w hSw; (try dsimp only at hSw); go_simp; try with_reducible rfl)); try simp only [Act.put, List.setIfInBounds_toArray, List.set_cons_zero, List.set_cons_succ]
      refine' next_in 5 rfl (by kernel_rfl) (by rfl) (fun K hK => ?_)
      go_simp
      have HW' := Lib.hid (HW.out.ext (show Ext wr wr.drew from (Ext.refl wr).drew))
      have HV' := Lib.hid (HV.out.ext (show Ext wr wr.drew from (Ext.refl wr).drew))
      (with_reducible refine (CP.out _ HW'.out).mono ?_)
      rintro r w31 ⟨rfl, hw, hf⟩
      have hd1 : Dis wr.drew w.heap.size w1.heap.size := fun q h1 h2 => HD.out q h1 h2
      have hnb : ¬ Sg wr.drew w.heap.size 0 b := fun hh => by have := (HW'.out.sg hh).1; omega
      replace b_0 := hf.but.has hnb (show wr.drew.cell? _ = _ from b_0)
      replace b_1 := hf.but.has hnb (show wr.drew.cell? _ = _ from b_1)
      replace b_2 := hf.but.has hnb (show wr.drew.cell? _ = _ from b_2)
      replace b_3 := hf.but.has hnb (show wr.drew.cell? _ = _ from b_3)
      have HV1 := Lib.hid (HV'.out.butO hf.but (fun q h2 h1 => hd1 q h1 h2))
      have HD1 := Lib.hid (hd1.step1 HV'.out hf)
      have XR1 := Lib.hid (Below.trans (XR.out.drew) (hf.but.below (Ext.size XR.out.drew) (fun q hq hh => by have := (HW'.out.sg hh).1; omega)))
      have HW1 := Lib.hid hw
      have hz31 := hf.but.size
      replace rb : b < w31.heap.size := by have h := HW1.out.lt; omega
      clear hw hf hnb hd1 HW HV HD XR HW' HV' rba rbb rbc rbn hz31
      refine hK.out _ _ (by exact ⟨b_0, b_1, b_2, b_3⟩) (fun hHeld => ?_); clear hK K; try simp only [Act.put, List.setIfInBounds_toArray, List.set_cons_zero, List.set_cons_succ]
      refine' next_in 11 rfl (by kernel_rfl) (by rfl) (fun K hK => ?_)
      go_simp
      (with_reducible refine (CQ.out _ HV1.out).mono ?_)
      rintro r w32 ⟨rfl, hv, hf⟩
      have hnb : ¬ Sg w31 w1.heap.size 1 b := fun hh => by have := (HV1.out.sg hh).1; omega
      replace b_0 := hf.but.has hnb b_0
      replace b_1 := hf.but.has hnb b_1
      replace b_2 := hf.but.has hnb b_2
      replace b_3 := hf.but.has hnb b_3
      have HW2 := Lib.hid (HW1.out.butO hf.but (fun q h1 h2 => HD1.out q h1 h2))
      have HD2 := Lib.hid (HD1.out.step2 HW1.out hf)
      have XR2 := Lib.hid (Below.trans XR1.out (hf.but.below (Ext.size XR1.out) (fun q hq hh => by have := (HV1.out.sg hh).1; omega)))
      have HV2 := Lib.hid hv
      clear hv hf hnb HW1 HV1 HD1 XR1
      refine hK.out _ _ (by exact ⟨b_0, b_1, b_2, b_3⟩) (fun hHeld => ?_); clear hK K; try simp only [Act.put, List.setIfInBounds_toArray, List.set_cons_zero, List.set_cons_succ]
      (refine' take_in 12 rfl (by kernel_rfl) (by kernel_rfl) (by kernel_rfl) (fun _ _ _ h => h) (by rfl) (by assumption) ?_ ?_; rotate_left; focus (intro w hSw; (try dsimp only at hSw); go_simp; try with_reducible rfl)); try simp only [Act.put, List.setIfInBounds_toArray, List.set_cons_zero, List.set_cons_succ]
      refine wpAnyH_done (by kernel_rfl) ?_ _
      go_wp2_with fail
      go_roundg (gk - 1)
      case measure => have := HK.out; omega
      case rel => exact ⟨by have := HK.out; omega, num_eq (by have := HK.out; omega), e2, L2, hB2.out, HW2.out, HV2.out, hN1.out, HD2.out, XR2.out⟩
theorem StampRows_any (A : Option Addr) (n c : Nat) (l : List (Int × Int × Int × Int)) (lim : Int) (_ : Fits .i64 lim) (B : Option Addr) (d : Nat) (M : List Nat) (w : World) (hS : Sl w 4 A n c (l.flatMap stc)) (_ : True) (hB : Sl w 1 B M.length d (by_ M)) (hM : Byt M) (hnil : B = none → d = 0) :
    Calls Try.prog 3 #[.slice A n c, .int .i64 lim, .slice B M.length d] w fun r w' => r = .returned (.bool true) ∧ Ext w w' := by
  by_cases hn : n ≤ 12
  · by_cases hM2 : M.length ≤ 200
    · by_cases h0 : lim < 0
      · exact StampRows_bad A n c hn lim M B d hM (by omega) hM2 hnil w hB (Lib.hid fun w => cNewWriter_bad0 lim h0 w) (Lib.hid fun w => rNewWriter_bad0 lim h0 w)
      · by_cases h1 : 1048576 < lim
        · exact StampRows_bad A n c hn lim M B d hM (by omega) hM2 hnil w hB (Lib.hid fun w => cNewWriter_bad1 lim h0 h1 w) (Lib.hid fun w => rNewWriter_bad1 lim h0 h1 w)
        · exact StampRows_ok A n c l hn lim (by omega) (by omega) M B d hM (by omega) hM2 hnil w hS hB
    · have hnI : ¬ (12 : Int) < (n : Int) := by omega
      have hmI : (200 : Int) < (M.length : Int) := by omega
      have hs := hB.small
      clear hn hM2 hS hB
      go_enter Try.func3, Try.ntmps3
      go_wp2_with fail
      (with_reducible refine (awake12_any _).mono ?_)
      rintro e w1 ⟨rfl, hx1⟩
      have X := Lib.hid hx1
      clear hx1
      go_wp2_with fail
      go_ret
      exact ⟨rfl, X.out⟩
  · have hnI : (12 : Int) < (n : Int) := by omega
    have hs := hS.small
    clear hn hS hB
    go_enter Try.func3, Try.ntmps3
    go_wp2_with fail
    (with_reducible refine (awake12_any _).mono ?_)
    rintro e w1 ⟨rfl, hx1⟩
    have X := Lib.hid hx1
    clear hx1
    go_wp2_with fail
    go_ret
    exact ⟨rfl, X.out⟩
theorem open_stamps {H : Type} {enc : TypeId × Value → H} {w : World} {base : Nat} {spare : Nat → Bool} {held : Bool} {n c : Nat} {A : Option Addr} {d : DataW H} {p : List MemPlace}
    (h : DataW.Trod enc Try.prog w base spare held 22 (.slice A n c) d p) : ∃ l : List (Int × Int × Int × Int), Sl w 4 A n c (l.flatMap stc) ∧ l.length = n ∧ True := by
  obtain ⟨l, h1, h2, _⟩ := open_rec (f := stc) (sz := 4) (Good := fun _ => True) Try.underlying22 (by kernel_rfl) (by decide)
    (fun cs m y h hl => by
      obtain ⟨x, hx, _⟩ := rec4 (k0 := .i64) (k1 := .i64) (k2 := .i64) (k3 := .i64) Try.underlying34 (by kernel_rfl) Try.underlying3 Try.underlying3 Try.underlying3 Try.underlying3 h hl
      exact ⟨x, hx, trivial⟩) h
  exact ⟨l, h1, h2, trivial⟩
end Go.Proofs.Ythaknigljjnnaaa
