/- Readers, owned rows and what stands beside them: what stays when one block turns. Conditions stand in each lemma. -/
import Derived.Test.YtlgjdeggbcgbnaaCod
import Derived.Test.YtlgjdeggbcgbnaaAppB
import Derived.Laws.StructEq
set_option linter.unusedVariables false
set_option linter.unusedSimpArgs false
namespace Go.Proofs.Ytlgjdeggbcgbnaa
open Go.RowKit

section
variable {S : Nat → Prop} {w w' : World} {g k n q B : Nat} {L : List Nat} {flt : Option (Int × Int)} {base sz : Nat} {e : TypeId} {v : Value} {xs : List Value}
theorem Sl.butAll {A : Option Addr} {m c : Nat} (h : Sl w sz A m c xs) (hx : But S w w') (hS : ∀ b o s, A = some ⟨b, o, s⟩ → ¬ S b) : Sl w' sz A m c xs := by
  refine ⟨h.1, h.2.1, h.2.2.1, fun hn => ?_⟩
  obtain ⟨b, o, e, hb, hc⟩ := h.at_ hn
  exact ⟨b, o, e, by have := hx.size; omega, fun j u hu => hx.has (hS b o none e) (hc j u hu)⟩
theorem Rd.butT (h : Rd w g L k flt) (hx : But S w w') (hS : ∀ j, j < w.heap.size → S j → g < j ∧ ∀ cs z, w.heap[j]? ≠ some (.cells cs 47 z)) : Rd w' g L k flt := by
  obtain ⟨A, c, h0, h1, h2⟩ := h.b
  obtain ⟨v, h3, h4⟩ := h.c3
  have hg : ¬ S g := fun hs => by have := (hS g h.lt hs).1; omega
  have cl : ∀ o, w'.cell? ⟨g, o, none⟩ = w.cell? ⟨g, o, none⟩ := fun o => hx.cell h.lt hg
  have fl : ∀ o, w'.frozen? ⟨g, o, none⟩ = w.frozen? ⟨g, o, none⟩ := fun o => hx.frozen h.lt hg
  refine ⟨⟨A, c, (cl 0).trans h0, h1.butAll hx (fun b o s e hs => ?_), h2⟩, (cl 1).trans h.c1, (cl 2).trans h.c2, ⟨v, (cl 3).trans h3, ?_⟩, (fl 1).trans h.f1, (fl 3).trans h.f3, by have := h.lt; have := hx.size; omega, h.le, h.byt⟩
  · have hb := h2 b o s e
    have := (hS b (by have := h.lt; omega) hs).1
    omega
  · match flt, h4 with
    | none, h4 => exact h4
    | some (e, a), ⟨fb, h1, h2, h3, h4, cs, z, h5⟩ =>
      have hf : ¬ S fb := fun hs => (hS fb h2.2 hs).2 cs z h5
      exact ⟨fb, h1, ⟨h2.1, by have := hx.size; omega⟩, (hx.cell h2.2 hf).trans h3, (hx.cell h2.2 hf).trans h4, cs, z, (hx.block fb h2.2 hf).trans h5⟩
theorem RRd.butT (h : RRd w g L k flt) (hx : But S w w') (hS : ∀ j, j < w.heap.size → S j → g < j) : RRd w' g L k flt := by
  obtain ⟨A, c, h0, h1, h2⟩ := h.b
  obtain ⟨t, h3, h4, h5⟩ := h.c1
  obtain ⟨cs, z, h6⟩ := h.ty
  have hg : ¬ S g := fun hs => by have := hS g h.lt hs; omega
  have cl : ∀ o, w'.cell? ⟨g, o, none⟩ = w.cell? ⟨g, o, none⟩ := fun o => hx.cell h.lt hg
  have fl : ∀ o, w'.frozen? ⟨g, o, none⟩ = w.frozen? ⟨g, o, none⟩ := fun o => hx.frozen h.lt hg
  refine ⟨⟨A, c, (cl 0).trans h0, h1.butAll hx (fun b o s e hs => ?_), h2⟩, ⟨t, (cl 1).trans h3, h4, h5⟩, (cl 2).trans h.c2, (cl 3).trans h.c3, (fl 1).trans h.f1, (fl 2).trans h.f2, (fl 3).trans h.f3, by have := h.lt; have := hx.size; omega, h.le, h.byt, h.nz, cs, z, (hx.block g h.lt hg).trans h6⟩
  have hb := (h2 b o s e).1
  have := hS b (by have := h.lt; omega) hs
  omega
/-- a row of one's own, all of it below a bound -/
def OwnR (q : Nat) (w : World) (base : Nat) (e : TypeId) (sz : Nat) (v : Value) (n : Nat) (xs : List Value) : Prop := w.ownsRow base e sz v n xs ∧ ∀ j, v.ownBlock = some j → j < q
theorem own_but (h : w.ownsRow base e sz v n xs) (hx : But S w w') (hS : ∀ j, v.ownBlock = some j → ¬ S j) : w'.ownsRow base e sz v n xs := by
  refine ⟨h.1, ?_⟩
  rcases h.2 with h2 | ⟨r, cap, cur, e', hr, hr2, rest⟩
  · exact .inl h2
  · refine .inr ⟨r, cap, cur, e', hr, ?_, rest⟩
    rw [← hr2]
    exact hx.block r (Array.getElem?_eq_some_iff.1 hr2).1 (hS r (by rw [e']; rfl))
theorem own_block (h : w.ownsRow base e sz v n xs) {j : Nat} (hj : v.ownBlock = some j) : base ≤ j ∧ j < w.heap.size ∧ ∃ cs, w.heap[j]? = some (.cells cs e (0, 0)) := by
  rcases h.2 with ⟨rfl, _⟩ | ⟨r, cap, cur, rfl, hr, hr2, rest⟩
  · cases hj
  · injection hj with hj
    have hj2 : r = j := hj
    subst hj2
    exact ⟨hr, (Array.getElem?_eq_some_iff.1 hr2).1, cur, hr2⟩
theorem OwnR.mk (h : w.ownsRow base e sz v n xs) : OwnR w.heap.size w base e sz v n xs := ⟨h, fun j hj => (own_block h hj).2.1⟩
theorem OwnR.own (h : OwnR q w base e sz v n xs) : w.ownsRow base e sz v n xs := h.1
theorem OwnR.raise (h : OwnR q w base e sz v n xs) : OwnR w.heap.size w base e sz v n xs := OwnR.mk h.1
theorem OwnR.ext (h : OwnR q w base e sz v n xs) (hx : Ext w w') : OwnR q w' base e sz v n xs := ⟨own_keep h.1 hx, h.2⟩
theorem OwnR.drewN (h : OwnR q w base e sz v n xs) (m : Nat) : OwnR q (w.drewN m) base e sz v n xs := h.ext ((Ext.refl w).drewN m)
theorem But.one (w : World) (b o : Nat) (u : Value) : But (· = b) w (w.setCell ⟨b, o, none⟩ u) := (But.refl (fun k => k = b) w).setCell (p := ⟨b, o, none⟩) rfl u
theorem OwnR.set {b o : Nat} (h : OwnR q w base e sz v n xs) (hb : q ≤ b) (u : Value) : OwnR q (w.setCell ⟨b, o, none⟩ u) base e sz v n xs :=
  ⟨own_but h.1 (But.one w b o u) (fun j hj e => by have := h.2 j hj; omega), h.2⟩
theorem OwnR.but (h : OwnR q w base e sz v n xs) (hx : But S w w') (hS : ∀ j, base ≤ j → j < q → ¬ S j) : OwnR q w' base e sz v n xs :=
  ⟨own_but h.1 hx (fun j hj => hS j (own_block h.1 hj).1 (h.2 j hj)), h.2⟩
/-- a reader, and a block that is not its fault -/
def RdT (q : Nat) (w : World) (g : Nat) (L : List Nat) (k : Nat) (flt : Option (Int × Int)) : Prop := Rd w g L k flt ∧ g < q ∧ q < w.heap.size ∧ ∀ cs z, w.heap[q]? ≠ some (.cells cs 47 z)
theorem RdT.rd (h : RdT q w g L k flt) : Rd w g L k flt := h.1
theorem RdT.new (h : Rd w g L k flt) (cs : Array Value) (t : TypeId) (ht : t ≠ 47) : RdT w.heap.size (w.alloc (.cells cs t)) g L k flt := by
  refine ⟨h.ext ((Ext.refl w).alloc _), h.lt, by simp, fun cs' z hh => ?_⟩
  rw [World.alloc_heap_new] at hh
  injection hh with hh
  injection hh with _ hh
  exact ht hh
theorem RdT.set {b o : Nat} (h : RdT q w g L k flt) (hb : b = q) (u : Value) : RdT q (w.setCell ⟨b, o, none⟩ u) g L k flt := by
  subst hb
  refine ⟨h.1.butT (But.one w b o u) (fun j _ hj => by subst hj; exact ⟨h.2.1, h.2.2.2⟩), h.2.1, by simpa using h.2.2.1, fun cs z hh => ?_⟩
  obtain ⟨cs', z', hh'⟩ : ∃ cs' z', w.heap[b]? = some (.cells cs' 47 z') := by
    rw [World.setCell, Array.getElem?_modify, if_pos rfl] at hh
    rcases hw : w.heap[b]? with _ | ob
    · rw [hw] at hh; simp at hh
    · rw [hw] at hh
      rcases ob with ⟨cs0, t0, z0⟩ | _ <;> simp at hh
      obtain ⟨_, h2, h3⟩ := hh
      subst h2
      exact ⟨cs0, z0, rfl⟩
  exact h.2.2.2 _ _ hh'
theorem OwnR.butN (h : OwnR q w base e sz v n xs) (hx : But (fun j => q ≤ j) w w') : OwnR q w' base e sz v n xs := h.but hx (fun j _ h2 hh => by have h3 : q ≤ j := hh; omega)
theorem RdT.ext (h : RdT q w g L k flt) (hx : Ext w w') : RdT q w' g L k flt :=
  ⟨h.1.ext hx, h.2.1, by have := h.2.2.1; have := hx.size; omega, fun cs z hh => h.2.2.2 cs z (by rw [← hh]; exact (Below.block hx q h.2.2.1).symm)⟩
theorem RdT.drewN (h : RdT q w g L k flt) (m : Nat) : RdT q (w.drewN m) g L k flt := h.ext ((Ext.refl w).drewN m)
theorem RdT.to {k' : Nat} {flt' : Option (Int × Int)} (h : RdT q w g L k flt) (hr : Rd w' g L k' flt') (hx : But (· = g) w w') : RdT q w' g L k' flt' :=
  ⟨hr, h.2.1, by have := h.2.2.1; have := hx.size; omega, fun cs z hh => h.2.2.2 cs z (by rw [← hh]; exact (hx.block q h.2.2.1 (fun e => by have := h.2.1; have e2 : q = g := e; omega)).symm)⟩
end
theorem cRN_T (q g k : Nat) (L : List Nat) (flt : Option (Int × Int)) (least most : Int) (h0 : 0 ≤ least) (h1 : least ≤ 9223372036854775807) (h2 : 0 ≤ most) (h3 : most ≤ 9223372036854775807) (hL : L.length < 1099511627776) (w : World) (h : RdT q w g L k flt) :
    Calls Try.prog 52 #[.pointer (some ⟨g, 0, none⟩), .int .i64 least, .int .i64 most] w fun r w' => r = .returned (.int .i64 (rnV L k flt least most)) ∧ RdT q w' g L (rnK L k flt least most) (rnF L k flt least most) ∧ But (· = g) w w' :=
  (cRN_any g k L flt least most h0 h1 h2 h3 hL w h.1).mono fun r w' hh => ⟨hh.1, h.to hh.2.1 hh.2.2, hh.2.2⟩
theorem cFail_T (q g k : Nat) (L : List Nat) (flt : Option (Int × Int)) (e a : Int) (w : World) (h : RdT q w g L k flt) :
    Calls Try.prog 83 #[.pointer (some ⟨g, 0, none⟩), .int .i64 e, .int .i64 a] w fun r w' => (∃ v, r = .returned v) ∧ RdT q w' g L k (failF flt e a) ∧ But (· = g) w w' :=
  (cFail_any g k L flt e a w h.1).mono fun r w' hh => ⟨hh.1, h.to hh.2.1 hh.2.2, hh.2.2⟩
theorem RRd.butN {w w' : World} {g k : Nat} {L : List Nat} {flt : Option (Int × Int)} (h : RRd w g L k flt) (hx : But (fun j => g < j) w w') : RRd w' g L k flt := h.butT hx (fun j _ hj => hj)
theorem flt_eql (e a e' a' : Int) (w : World) : (binOp .eql 47 (.agg #[.int .i64 e, .int .i64 a]) (.agg #[.int .i64 e', .int .i64 a'])).run Try.prog w = .ok (.bool (e == e' && a == a')) w := by
  have hS : Try.prog.underlying 47 = some (.struct (Try.prog.fieldsOf 47)) := by kernel_rfl
  have hp : Try.prog.stoodInHeld 47 = false := by kernel_rfl
  rw [run_eql_struct, show (10000 : Nat) = 9999 + 1 from rfl, run_equalIn_agg w 9999 47 _ _ hS hp]
  simp only [Program.fieldsOf, Try.underlying47]
  go_simp
  by_cases h0 : e = e' <;> by_cases h1 : a = a' <;> simp [h0, h1]
theorem flt_neq (e a e' a' : Int) (w : World) : (binOp .neq 47 (.agg #[.int .i64 e, .int .i64 a]) (.agg #[.int .i64 e', .int .i64 a'])).run Try.prog w = .ok (.bool (!(e == e' && a == a'))) w := by
  have hS : Try.prog.underlying 47 = some (.struct (Try.prog.fieldsOf 47)) := by kernel_rfl
  have hp : Try.prog.stoodInHeld 47 = false := by kernel_rfl
  rw [run_neq_struct, show (10000 : Nat) = 9999 + 1 from rfl, run_equalIn_agg w 9999 47 _ _ hS hp]
  simp only [Program.fieldsOf, Try.underlying47]
  go_simp
  by_cases h0 : e = e' <;> by_cases h1 : a = a' <;> simp [h0, h1]
theorem flt_eqg (op : BinOp) (x y : Operand) (xs ys : Array Value) (w : World) : (eqGuard op 47 x y (.agg xs) (.agg ys)).run Try.prog w = .ok () w := run_eqGuard_agg w op 47 x y xs ys (by kernel_rfl)
theorem own_ne_fault {w : World} {base sz n g : Nat} {e : TypeId} {v : Value} {xs : List Value} (h : w.ownsRow base e sz v n xs) (hg : g < base) (ht : e ≠ 47) : ∀ j, j < w.heap.size → v.ownBlock = some j → g < j ∧ ∀ cs z, w.heap[j]? ≠ some (.cells cs 47 z) := by
  intro j _ hj
  obtain ⟨h1, _, cs0, h3⟩ := own_block h hj
  refine ⟨by omega, fun cs z hh => ?_⟩
  rw [h3] at hh
  injection hh with hh
  injection hh with _ hh
  exact ht hh
theorem rnV_in (L : List Nat) (k : Nat) (flt : Option (Int × Int)) (least most : Int) (h2 : 0 ≤ most) : 0 ≤ rnV L k flt least most ∧ rnV L k flt least most ≤ most := by
  unfold rnV
  split
  · rename_i h
    have := rnE_zero h.2
    omega
  · omega
theorem cRN_e (g k k' : Nat) (L : List Nat) (flt flt' : Option (Int × Int)) (least most v : Int) (h0 : 0 ≤ least) (h1 : least ≤ 9223372036854775807) (h2 : 0 ≤ most) (h3 : most ≤ 9223372036854775807) (hL : L.length < 1099511627776) (hv : v = rnV L k flt least most) (hk : k' = rnK L k flt least most) (hf : flt' = rnF L k flt least most) (w : World) (h : Rd w g L k flt) :
    Calls Try.prog 52 #[.pointer (some ⟨g, 0, none⟩), .int .i64 least, .int .i64 most] w fun r w' => r = .returned (.int .i64 v) ∧ Rd w' g L k' flt' ∧ But (· = g) w w' := by
  subst hv hk hf
  exact cRN_any g k L flt least most h0 h1 h2 h3 hL w h
theorem cRN_Te (q g k k' : Nat) (L : List Nat) (flt flt' : Option (Int × Int)) (least most v : Int) (h0 : 0 ≤ least) (h1 : least ≤ 9223372036854775807) (h2 : 0 ≤ most) (h3 : most ≤ 9223372036854775807) (hL : L.length < 1099511627776) (hv : v = rnV L k flt least most) (hk : k' = rnK L k flt least most) (hf : flt' = rnF L k flt least most) (w : World) (h : RdT q w g L k flt) :
    Calls Try.prog 52 #[.pointer (some ⟨g, 0, none⟩), .int .i64 least, .int .i64 most] w fun r w' => r = .returned (.int .i64 v) ∧ RdT q w' g L k' flt' ∧ But (· = g) w w' := by
  subst hv hk hf
  exact cRN_T q g k L flt least most h0 h1 h2 h3 hL w h
theorem cU_e (g k k' : Nat) (L : List Nat) (flt flt' : Option (Int × Int)) (v : Int) (hL : L.length < 1099511627776) (hv : v = ruV L k flt) (hk : k' = ruK L k flt) (hf : flt' = ruF L k flt) (w : World) (h : Rd w g L k flt) :
    Calls Try.prog 53 #[.pointer (some ⟨g, 0, none⟩)] w fun r w' => r = .returned (.int .u64 v) ∧ Rd w' g L k' flt' ∧ But (· = g) w w' := by
  subst hv hk hf
  exact cU_any g k L flt hL w h
theorem rN_e (g k k' : Nat) (L : List Nat) (flt flt' : Option (Int × Int)) (least most v : Int) (h0 : 0 ≤ least) (h1 : least ≤ 9223372036854775807) (h2 : 0 ≤ most) (h3 : most ≤ 9223372036854775807) (hL : L.length < 1099511627776) (hv : v = rnV L k flt least most) (hk : k' = rnK L k flt least most) (hf : flt' = rnF L k flt least most) (w : World) (h : RRd w g L k flt) :
    Calls Try.prog 56 #[.pointer (some ⟨g, 0, none⟩), .int .i64 least, .int .i64 most] w fun r w' => r = .returned (.int .i64 v) ∧ RRd w' g L k' flt' ∧ But (· = g) w w' := by
  subst hv hk hf
  exact rN_any g k L flt least most h0 h1 h2 h3 hL w h
theorem rU_e (g k k' : Nat) (L : List Nat) (flt flt' : Option (Int × Int)) (v : Int) (hL : L.length < 1099511627776) (hv : v = ruV L k flt) (hk : k' = ruK L k flt) (hf : flt' = ruF L k flt) (w : World) (h : RRd w g L k flt) :
    Calls Try.prog 57 #[.pointer (some ⟨g, 0, none⟩)] w fun r w' => r = .returned (.int .u64 v) ∧ RRd w' g L k' flt' ∧ But (· = g) w w' := by
  subst hv hk hf
  exact rU_any g k L flt hL w h
end Go.Proofs.Ytlgjdeggbcgbnaa
