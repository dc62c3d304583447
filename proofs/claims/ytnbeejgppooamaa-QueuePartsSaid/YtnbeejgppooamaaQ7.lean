/- queues: what a cut takes: plain. Conditions stand in each lemma. -/
import Derived.Test.YtnbeejgppooamaaQ6
import Derived.Test.YtnbeejgppooamaaFixShareMath
import Derived.Test.YtnbeejgppooamaaListShave
import Derived.Test.YtnbeejgppooamaaCur
set_option linter.unusedVariables false
set_option linter.unusedSimpArgs false
namespace Go.Proofs.Ytnbeejgppooamaa
open Go.RowKit Go.ChangeShapes Go.WideShapes Go.Deep Go.Joins

/-- what backed a validator at a height -/
def bkE (x : (Int × Int × Int × Int × Int × Int × Int × Int)) (v h : Int) : Bool := bkdB x.2.1 x.2.2.1 x.2.2.2.1 x.2.2.2.2.1 v h x.2.2.2.2.2.1
/-- an entry behind a cut -/
def cutX (x : (Int × Int × Int × Int × Int × Int × Int × Int)) (p : Int) : (Int × Int × Int × Int × Int × Int × Int × Int) := (x.1, x.2.1, x.2.2.1, x.2.2.2.1, x.2.2.2.2.1, x.2.2.2.2.2.1, x.2.2.2.2.2.2.1, baE x - prt (baE x) p)
def cutL (l : List (Int × Int × Int × Int × Int × Int × Int × Int)) (v h p : Int) : Nat → List (Int × Int × Int × Int × Int × Int × Int × Int)
  | 0 => l
  | k + 1 => match l[k]? with
    | some x => if bkE x v h = true then (cutL l v h p k).set k (cutX x p) else cutL l v h p k
    | none => cutL l v h p k
def cutS (l : List (Int × Int × Int × Int × Int × Int × Int × Int)) (v h p : Int) : Nat → List (Int × Int)
  | 0 => []
  | k + 1 => match l[k]? with
    | some x => if bkE x v h = true then cutS l v h p k ++ [((k : Int), prt (baE x) p)] else cutS l v h p k
    | none => cutS l v h p k
def cutA (l : List (Int × Int × Int × Int × Int × Int × Int × Int)) (v h p : Int) : Nat → Int
  | 0 => 0
  | k + 1 => match l[k]? with
    | some x => if bkE x v h = true then cutA l v h p k + prt (baE x) p else cutA l v h p k
    | none => cutA l v h p k
theorem cutL_len (l : List (Int × Int × Int × Int × Int × Int × Int × Int)) (v h p : Int) : ∀ k, (cutL l v h p k).length = l.length
  | 0 => rfl
  | k + 1 => by
    have := cutL_len l v h p k
    unfold cutL
    split
    · split
      · rw [List.length_set]; exact this
      · exact this
    · exact this
theorem cutL_get (l : List (Int × Int × Int × Int × Int × Int × Int × Int)) (v h p : Int) : ∀ (k : Nat) {j : Nat}, k ≤ j → (cutL l v h p k)[j]? = l[j]?
  | 0, j, _ => rfl
  | k + 1, j, hj => by
    have := cutL_get l v h p k (j := j) (by omega)
    unfold cutL
    split
    · split
      · rw [List.getElem?_set_ne (by omega)]; exact this
      · exact this
    · exact this
theorem cutS_len (l : List (Int × Int × Int × Int × Int × Int × Int × Int)) (v h p : Int) : ∀ k, (cutS l v h p k).length ≤ k
  | 0 => Nat.le_refl _
  | k + 1 => by
    have := cutS_len l v h p k
    unfold cutS
    split
    · split
      · rw [List.length_append, List.length_singleton]; omega
      · omega
    · omega
theorem cutA_bound {l : List (Int × Int × Int × Int × Int × Int × Int × Int)} (hf : ∀ x ∈ l, FitsQ x) (v h : Int) {p : Int} (h0 : 0 ≤ p) (hp : p ≤ 1000000000) : ∀ k, 0 ≤ cutA l v h p k ∧ cutA l v h p k ≤ totB (l.take k)
  | 0 => by simp [cutA, totB]
  | k + 1 => by
    obtain ⟨h1, h2⟩ := cutA_bound hf v h h0 hp k
    unfold cutA
    rcases e : l[k]? with _ | x
    · have e2 : l.take (k + 1) = l.take k := by rw [List.take_add_one, e]; simp
      simp only
      rw [e2]
      exact ⟨h1, h2⟩
    · have hx := (hf x (List.mem_of_getElem? e)).ba
      obtain ⟨b1, b2, _⟩ := prt_bounds hx.1 h0 hp
      have := totB_take e
      simp only
      split <;> omega
theorem cut_t {l : List (Int × Int × Int × Int × Int × Int × Int × Int)} {v h p : Int} {k : Nat} {x : (Int × Int × Int × Int × Int × Int × Int × Int)} (hx : l[k]? = some x) (hb : bkE x v h = true) : cutL l v h p (k + 1) = (cutL l v h p k).set k (cutX x p) ∧ cutS l v h p (k + 1) = cutS l v h p k ++ [((k : Int), prt (baE x) p)] ∧ cutA l v h p (k + 1) = cutA l v h p k + prt (baE x) p := by
  refine ⟨?_, ?_, ?_⟩
  · rw [cutL, hx]; simp [hb]
  · rw [cutS, hx]; simp [hb]
  · rw [cutA, hx]; simp [hb]
theorem cut_f {l : List (Int × Int × Int × Int × Int × Int × Int × Int)} {v h p : Int} {k : Nat} {x : (Int × Int × Int × Int × Int × Int × Int × Int)} (hx : l[k]? = some x) (hb : bkE x v h = false) : cutL l v h p (k + 1) = cutL l v h p k ∧ cutS l v h p (k + 1) = cutS l v h p k ∧ cutA l v h p (k + 1) = cutA l v h p k := by
  refine ⟨?_, ?_, ?_⟩
  · rw [cutL, hx]; simp [hb]
  · rw [cutS, hx]; simp [hb]
  · rw [cutA, hx]; simp [hb]
/-- why there is no cut -/
def cutG (e1 v p : Int) (b : Bool) : Int := if e1 ≠ 0 then e1 else if v < 0 then 3 else if 32 ≤ v then 3 else if b = false then 3 else if 1000000000 < p then 3 else 0
def cutE (l : List (Int × Int × Int × Int × Int × Int × Int × Int)) (v h p : Int) : Int := cutG (chkQ l).1 v p (decide (1 ≤ h) && decide (h ≤ 4294967296))
/-- what a cut tells: the entries, the shaves, the sum, why not -/
def cutV (l : List (Int × Int × Int × Int × Int × Int × Int × Int)) (v h p : Int) : List (Int × Int × Int × Int × Int × Int × Int × Int) × List (Int × Int) × Int × Int := if cutE l v h p = 0 then (cutL l v h p l.length, cutS l v h p l.length, cutA l v h p l.length, 0) else ([], [], 0, cutE l v h p)
/-- entries and shaves handed back, apart from each other -/
def RetCut (r : List (Int × Int × Int × Int × Int × Int × Int × Int)) (s : List (Int × Int)) (u er : Int) (w : World) (e : Ending) (w' : World) : Prop := ∃ A1 c1 A2 c2, e = .returned (.tuple #[.slice A1 r.length c1, .slice A2 s.length c2, .int .u64 u, .int .i64 er]) ∧ (A1 = none → c1 = 0) ∧ (A2 = none → c2 = 0) ∧
  OwnEnt w' w.heap.size (.slice A1 r.length c1) r.length r ∧ OwnShave w' w.heap.size (.slice A2 s.length c2) s.length s ∧ (∀ b o s b' o' s', A1 = some ⟨b, o, s⟩ → A2 = some ⟨b', o', s'⟩ → b ≠ b') ∧ Ext w w'
theorem RetCut.nil {er : Int} {w w' : World} (hx : Ext w w') : RetCut [] [] 0 er w (.returned (.tuple #[.slice none 0 0, .slice none 0 0, .int .u64 0, .int .i64 er])) w' :=
  ⟨none, 0, none, 0, rfl, fun _ => rfl, fun _ => rfl, OwnEnt.nil _ _, World.ownsRow_nil _ _ _ _, (fun b o s b' o' s' h => by cases h), hx⟩
theorem RetCut.mk {r : List (Int × Int × Int × Int × Int × Int × Int × Int)} {s : List (Int × Int)} {A1 : Option Addr} {n c1 B : Nat} {u : Int} {v : Value} {w w' : World} (h : OwnEnt w' w.heap.size (.slice A1 n c1) n r) (hs : OwnShave w' B v s.length s) (hB : w.heap.size ≤ B) (hA : ∀ b o s, A1 = some ⟨b, o, s⟩ → b < B) (hn : n = r.length) (hx : Ext w w') : RetCut r s u 0 w (.returned (.tuple #[.slice A1 n c1, v, .int .u64 u, .int .i64 0])) w' := by
  subst hn
  obtain ⟨A, c, h0, h1, h2⟩ := own_parts2 h
  injection h0 with h3 h4 h5
  subst h3; subst h5
  obtain ⟨A2, c2, rfl, h6, h7⟩ := own_parts2 hs
  exact ⟨A1, c1, A2, c2, rfl, h1, h6, h, own_lower hs hB, fun b o s b' o' s' e1 e2 => by have := hA b o s e1; have := (OwnShave.in_ hs b' o' s' e2).1; omega, hx⟩
theorem OwnEnt.box {w : World} {base n c : Nat} {A : Option Addr} {l : List (Int × Int × Int × Int × Int × Int × Int × Int)} (h : OwnEnt w base (.slice A n c) n l) (hk : 0 < n) : ∃ g, A = some ⟨g, 0, none⟩ ∧ base ≤ g ∧ g < w.heap.size := by
  rcases h.2 with ⟨h', h0⟩ | ⟨g, cap, cur, h', hbg, _⟩
  · exfalso
    injection h' with h1 h2 h3
    omega
  · injection h' with h1 h2 h3
    subst h1; subst h3
    exact ⟨g, rfl, hbg, (World.ownsRow.lt h g rfl).2⟩
theorem shave_infoP : ∃ i0, Try.prog.info? 68 = some i0 ∧ i0.zero = some (.agg #[.int .i64 0, .int .u64 0]) ∧ i0.size = 2 ∧ i0.bytes = 16 := info_parts shave_info
end Go.Proofs.Ytnbeejgppooamaa
