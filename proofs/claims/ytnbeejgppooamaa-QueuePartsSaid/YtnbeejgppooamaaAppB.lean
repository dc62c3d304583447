/- append of a slice onto an owned one: which blocks turn, and where the new one lies. Conditions stand in each lemma. -/
import Derived.Test.YtnbeejgppooamaaMem2
import Derived.Test.YtnbeejgppooamaaHas
import Derived.ArgAppend
import Derived.OwnWalk
set_option linter.unusedVariables false
set_option linter.unusedSimpArgs false
namespace Go.Proofs.Ytnbeejgppooamaa
open Go.RowKit

theorem But.ofGrown {w w' : World} {row : Option Nat} (h : w.grownBy w' row) : But (fun k => row = some k) w w' :=
  ⟨h.os, h.tape, h.output, h.size, fun k hk hn => h.block k hk (fun e => hn e.symm)⟩
theorem own_lower {w : World} {base b : Nat} {e : TypeId} {sz n : Nat} {v : Value} {xs : List Value} (h : w.ownsRow base e sz v n xs) (hb : b ≤ base) : w.ownsRow b e sz v n xs := by
  refine ⟨h.1, ?_⟩
  rcases h.2 with h2 | ⟨q, cap, cur, e', hq, rest⟩
  · exact .inl h2
  · exact .inr ⟨q, cap, cur, e', Nat.le_trans hb hq, rest⟩
theorem wpList_append_slB {P : Program} (w : World) {ops : Array Oper} {rest : List Oper} {o : Oper} {a : Act} {Q : Exit → Act → World → Prop} (hgd : o.guard = none) (s x : Operand) (t : TypeId)
    (ho : o.op = .call { callee := .builtin .append, args := #[s, x], argTypes := #[t, t] })
    (base : Nat) (e : TypeId) (i : TypeInfo) (z : Value) (size bytes : Nat) (ht : P.underlying t = some (.slice e)) (hi : P.info? e = some i) (hz : i.zero = some z)
    (hsize : i.size = size) (hby : i.bytes = bytes) (hzs : z.cells.size = size) (hsz : 0 < size)
    (v : Value) (n : Nat) (xs : List Value) (hs : a.eval s = v) (hown : w.ownsRow base e size v n xs) (A : Option Addr) (m c : Nat) (news : List Value)
    (hx : a.eval x = .slice A m c) (hS : Sl w size A m c news) (h1 : ∀ u ∈ news, u.oneCell' = true)
    (hn : n + m < 1099511627776) (hb128 : bytes ≤ 127) (hbase : base ≤ w.heap.size)
    (h : ∀ v' w', w'.ownsRow base e size v' (n + m) (xs ++ news) → But (fun k => v.ownBlock = some k) w w' → (∀ k, v'.ownBlock = some k → v.ownBlock = some k ∨ w.heap.size ≤ k) → wpList P ops Q rest (a.put o.dst v') w') :
    wpList P ops Q (o :: rest) a w := by
  have hby2 : (n + m) * bytes ≤ 140737488355328 := by
    have : (n + m) * bytes ≤ 1099511627776 * 127 := Nat.mul_le_mul (by omega) hb128
    omega
  have h63 : n + m ≤ maxLen := by simp [maxLen]; omega
  rcases A with _ | ad
  · have hm : m = 0 := by
      rcases Nat.eq_zero_or_pos m with h0 | h0
      · exact h0
      · obtain ⟨_, _, hh, _⟩ := hS.at_ h0
        cases hh
    subst hm
    have hnw : news = [] := hS.drop0
    subst hnw
    have hrun := run_append_none (P := P) w base t o.type e i size ht hi v n xs hown c
    have hk := h v w (by simpa using hown) (But.refl _ _) (fun k hk => .inl hk)
    refine wpList_plain hgd fun K hK => ?_
    unfold Oper.wp execOp
    simp only [ho, resolve, invoke, builtin, Sem.run_bind, Sem.run_pure, Result.andThen_ok, List.map_toArray, List.map_cons, List.map_nil, hs, hx, hrun]
    exact hK _ _ hk
  · have hcells : ∀ j u, news[j]? = some u → w.cell? (ad.add j) = some u := by
      intro j u hu
      rcases Nat.eq_zero_or_pos m with h0 | h0
      · subst h0
        rw [hS.drop0] at hu
        simp at hu
      · obtain ⟨b, o', hh, _, hc⟩ := hS.at_ h0
        injection hh with hh
        subst hh
        rw [addr_add]
        exact hc j u hu
    have hown0 := hown
    rcases hown.2 with ⟨rfl, h0⟩ | ⟨g, cap, cur, rfl, hbg, hg, hnc, hcm, hcs, htake⟩
    · subst h0
      have hxs : xs = [] := List.eq_nil_of_length_eq_zero (by simpa using hown.1)
      subst hxs
      refine wpList_append_own w hgd s x t ho w.heap.size e i z size bytes ht hi hz hsize hby hzs hsz _ 0 [] hs (World.ownsRow_nil _ _ _ _) ad m c news hx hS.len hcells h1 h63 hby2 (Nat.le_refl _) ?_
      intro v' w' h2 h3 _
      exact h v' w' (own_lower h2 hbase) (But.ofGrown h3) (fun k hk => .inr (h2.lt k hk).1)
    · by_cases hfit : n + m ≤ cap
      · refine wpList_append_fits w hgd s x t ho base e i size ht hi hsize g n cap xs hs hown0 ad m c news hx hS.len hcells h1 hfit ?_
        intro w' h2 h3
        exact h _ w' h2 (But.ofGrown h3) (fun k hk => .inl hk)
      · refine wpList_append_grows w hgd s x t ho e i z size bytes ht hi hz hsize hby hzs hsz (some ⟨g, 0, none⟩) n cap xs hs (fun hh => by cases hh) hown.1 ?_ ad m c news hx hS.len hcells h1 (by omega) h63 hby2 ?_
        · intro b hb j u hj
          injection hb with hb
          subst hb
          exact hown0.cells rfl j u hj
        · intro v' w' h2 h3
          exact h v' w' (own_lower h2 hbase) ((But.ofGrown h3).mono fun k _ hk => by cases hk) (fun k hk => .inr (h2.lt k hk).1)
end Go.Proofs.Ytnbeejgppooamaa
