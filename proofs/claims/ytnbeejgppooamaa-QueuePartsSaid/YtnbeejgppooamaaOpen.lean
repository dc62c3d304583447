/- Arguments that came in, opened: slices of integers, of bools, of whatever element, as cells. -/
import Derived.Test.YtnbeejgppooamaaMem
import Derived.ProofKit
import Derived.ChangeOld
import Derived.OpenShut
import Derived.Deep.Slices
set_option linter.unusedVariables false
set_option linter.unusedSimpArgs false
namespace Go.Proofs.Ytnbeejgppooamaa
open Go.RowKit Go.ChangeShapes Go.WideShapes

/-- the number fits its kind -/
def Fits (k : IntKind) (x : Int) : Prop := (Lit.int k x).wf = true
theorem fits_of {k : IntKind} {x : Int} (h : (Lit.int k x).wf = true) : Fits k x := h
theorem Fits.u64 {x : Int} (h : Fits .u64 x) : 0 ≤ x ∧ x < 18446744073709551616 := by
  have := bounds_u64 (n := x) h
  omega
theorem Fits.i64 {x : Int} (h : Fits .i64 x) : -9223372036854775808 ≤ x ∧ x ≤ 9223372036854775807 := bounds_i64 (n := x) h

section
variable {H : Type} {enc : TypeId × Value → H} {P : Program} {w : World} {base : Nat} {spare : Nat → Bool} {held : Bool}
/-- a slice that came in, its cells, and how each element reads -/
theorem open_raw {t e : TypeId} {sz fuel n c : Nat} {A : Option Addr} {x : DataW H × List MemPlace} (ht : P.underlying t = some (.slice e)) (hsz : P.cellsOf e = sz) (hpos : 0 < sz)
    (h : DataW.trod enc P w base spare held fuel t [.slice A n c] = some x) :
    ∃ xs : List Value, Sl w sz A n c xs ∧ ∀ i, i < n → ∃ m y, DataW.trod enc P w base spare held m e ((xs.drop (i * sz)).take sz) = some y := by
  rcases Go.Deep.open_slice ht h with ⟨h0, _⟩ | ⟨a, len, cap, m, n', D, Pl, hcs, _, hl, hm, hmm, _, hi⟩
  · simp at h0
    obtain ⟨rfl, rfl, rfl⟩ := h0
    exact ⟨[], Sl.nil _ _, fun i hi => absurd hi (by omega)⟩
  · simp at hcs
    obtain ⟨rfl, rfl, rfl⟩ := hcs
    subst hsz
    have hnm : n ≤ m := by rw [hmm]; split <;> omega
    -- the cells, one by one
    have hcell : ∀ i, i < n → ∀ j, j < P.cellsOf e → ∃ v, w.cell? (a.add (i * P.cellsOf e + j)) = some v := by
      intro i hin j hj
      obtain ⟨cs', hc, ht'⟩ := hi i (by omega)
      obtain ⟨_, hcl, hat⟩ := World.cells?_some hc
      refine ⟨cs'[j]'(by omega), ?_⟩
      have := hat j hj
      rw [Go.Deep.add_add] at this
      rw [this, List.getElem?_eq_getElem (by omega)]
    obtain ⟨b, o, spot⟩ := a
    rcases Nat.eq_zero_or_pos n with hn0 | hnp
    · subst hn0
      exact ⟨[], ⟨by simp, by omega, hm, fun h => absurd h (by omega)⟩, fun i hi => absurd hi (by omega)⟩
    · have hspot : spot = none := by
        obtain ⟨v, hv⟩ := hcell 0 hnp 0 hpos
        simpa [Addr.add] using World.cell?_spot hv
      subst hspot
      let f : Nat → Value := fun j => (w.cell? ⟨b, o + j, none⟩).getD undef
      have hf : ∀ j, j < n * P.cellsOf e → w.cell? ⟨b, o + j, none⟩ = some (f j) := by
        intro j hj
        have h1 : j / P.cellsOf e < n := by rw [Nat.div_lt_iff_lt_mul hpos]; exact hj
        obtain ⟨v, hv⟩ := hcell (j / P.cellsOf e) h1 (j % P.cellsOf e) (Nat.mod_lt _ hpos)
        rw [Nat.div_add_mod', addr_add] at hv
        show _ = some ((w.cell? ⟨b, o + j, none⟩).getD undef)
        rw [hv]; rfl
      have hb : b < w.heap.size := by
        have h1 := hf 0 (by exact Nat.mul_pos hnp hpos)
        unfold World.cell? at h1
        rcases hx : w.heap[b]? with _ | ob
        · simp [hx] at h1
        · exact (Array.getElem?_eq_some_iff.1 hx).1
      refine ⟨(List.range (n * P.cellsOf e)).map f, ⟨by simp, by omega, hm, fun _ => ⟨b, o, rfl, hb, fun j u hu => ?_⟩⟩, fun i hin => ?_⟩
      · rw [List.getElem?_map] at hu
        rcases Nat.lt_or_ge j (n * P.cellsOf e) with hj | hj
        · rw [List.getElem?_range hj] at hu
          simp at hu
          rw [hf j hj, hu]
        · rw [List.getElem?_eq_none (by simpa using hj)] at hu
          simp at hu
      · obtain ⟨cs', hc, ht'⟩ := hi i (by omega)
        obtain ⟨_, hcl, hat⟩ := World.cells?_some hc
        have e1 : (((List.range (n * P.cellsOf e)).map f).drop (i * P.cellsOf e)).take (P.cellsOf e) = cs' := by
          apply List.ext_getElem?
          intro j
          rw [List.getElem?_take]
          have hle : (i + 1) * P.cellsOf e ≤ n * P.cellsOf e := Nat.mul_le_mul_right _ hin
          rw [Nat.add_mul, Nat.one_mul] at hle
          split
          · rename_i hj
            rw [List.getElem?_drop, List.getElem?_map, List.getElem?_range (by omega)]
            have h2 := hat j hj
            rw [Go.Deep.add_add, addr_add] at h2
            rw [← h2, hf _ (by omega)]
            rfl
          · rename_i hj
            rw [List.getElem?_eq_none (by omega)]
        exact ⟨n', (D i, Pl i), by rw [e1]; exact ht'⟩
theorem open_sl {t e : TypeId} {k : IntKind} {n c : Nat} {A : Option Addr} {d : DataW H} {p : List MemPlace} (ht : P.underlying t = some (.slice e)) (he : P.underlying e = some (.int k)) (hc : P.cellsOf e = 1)
    (h : DataW.Trod enc P w base spare held t (.slice A n c) d p) (_hlt : ∀ x ∈ p, x.block < w.heap.size) : ∃ l : List Int, Sl w 1 A n c (iv k l) ∧ ∀ x ∈ l, Fits k x := by
  obtain ⟨fuel, hf⟩ := h
  obtain ⟨xs, hs, hr⟩ := open_raw ht hc (by decide) (by simpa [Value.cells] using hf)
  have hlen := hs.len
  rw [Nat.mul_one] at hlen
  have hel : ∀ i (hi : i < xs.length), ∃ z, xs[i] = .int k z ∧ Fits k z := by
    intro i hi
    obtain ⟨m, y, hy⟩ := hr i (by omega)
    rw [Nat.mul_one, List.drop_eq_getElem_cons hi] at hy
    obtain ⟨z, hz, _, hw⟩ := DataW.trod_int he hy
    exact ⟨z, List.head_eq_of_cons_eq (show xs[i] :: [] = _ :: [] from hz), hw⟩
  refine ⟨xs.map (fun v => match v with | .int _ z => z | _ => 0), ?_, ?_⟩
  · have : iv k (xs.map (fun v => match v with | .int _ z => z | _ => 0)) = xs := by
      unfold iv
      rw [List.map_map]
      apply List.ext_getElem
      · simp
      · intro i h1 h2
        obtain ⟨z, hz, _⟩ := hel i h2
        simp [hz]
    rw [this]
    exact hs
  · intro x hx
    rw [List.mem_map] at hx
    obtain ⟨v, hv, rfl⟩ := hx
    obtain ⟨i, hi, rfl⟩ := List.mem_iff_getElem.1 hv
    obtain ⟨z, hz, hw⟩ := hel i hi
    simp only [hz]
    exact hw
/-- booleans, as cells -/
def bv (l : List Bool) : List Value := l.map Value.bool
theorem open_slb {t e : TypeId} {n c : Nat} {A : Option Addr} {d : DataW H} {p : List MemPlace} (ht : P.underlying t = some (.slice e)) (he : P.underlying e = some .bool) (hc : P.cellsOf e = 1)
    (h : DataW.Trod enc P w base spare held t (.slice A n c) d p) (_hlt : ∀ x ∈ p, x.block < w.heap.size) : ∃ l : List Bool, Sl w 1 A n c (bv l) := by
  obtain ⟨fuel, hf⟩ := h
  obtain ⟨xs, hs, hr⟩ := open_raw ht hc (by decide) (by simpa [Value.cells] using hf)
  have hlen := hs.len
  rw [Nat.mul_one] at hlen
  have hel : ∀ i (hi : i < xs.length), ∃ z, xs[i] = .bool z := by
    intro i hi
    obtain ⟨m, y, hy⟩ := hr i (by omega)
    rw [Nat.mul_one, List.drop_eq_getElem_cons hi] at hy
    obtain ⟨z, hz, _⟩ := DataW.trod_bool he hy
    exact ⟨z, List.head_eq_of_cons_eq (show xs[i] :: [] = _ :: [] from hz)⟩
  refine ⟨xs.map (fun v => match v with | .bool z => z | _ => false), ?_⟩
  have : bv (xs.map (fun v => match v with | .bool z => z | _ => false)) = xs := by
    unfold bv
    rw [List.map_map]
    apply List.ext_getElem
    · simp
    · intro i h1 h2
      obtain ⟨z, hz⟩ := hel i h2
      simp [hz]
  rw [this]
  exact hs
end
end Go.Proofs.Ytnbeejgppooamaa
