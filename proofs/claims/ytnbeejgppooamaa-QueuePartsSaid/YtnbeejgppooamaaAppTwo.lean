/- Two owned rows side by side: an append to the one leaves the other, and they stay apart. Conditions stand in each lemma. -/
import Derived.Test.YtnbeejgppooamaaMem2
set_option linter.unusedVariables false
set_option linter.unusedSimpArgs false
namespace Go.Proofs.Ytnbeejgppooamaa
open Go.RowKit

/-- two slices share no block -/
def Apart (v v2 : Value) : Prop := ∀ k, v.ownBlock = some k → v2.ownBlock ≠ some k
theorem Apart.symm {v v2 : Value} (h : Apart v v2) : Apart v2 v := fun k h2 h1 => h k h1 h2
theorem Apart.nil (v : Value) : Apart v (.slice none 0 0) := fun k _ h => by simp [Value.ownBlock] at h
theorem Apart.some_ {b o n c b' o' n' c' : Nat} {s s' : Option Nat} (h : Apart (.slice (some ⟨b, o, s⟩) n c) (.slice (some ⟨b', o', s'⟩) n' c')) : b ≠ b' := by
  intro e
  subst e
  exact h b rfl rfl

section
variable {P : Program} (w : World)
/-- the run of an append to an owned row: the row's block is the one it had, or a new one -/
theorem run_append_fresh (base : Nat) (t ty e : TypeId) (i : TypeInfo) (z : Value) (size bytes : Nat) (ht : P.underlying t = some (.slice e)) (hi : P.info? e = some i) (hz : i.zero = some z)
    (hsize : i.size = size) (hby : i.bytes = bytes) (hzs : z.cells.size = size) (hsz : 0 < size)
    (v : Value) (n : Nat) (xs : List Value) (hown : w.ownsRow base e size v n xs)
    (a : Addr) (m c : Nat) (news : List Value) (hl : news.length = m * size) (hnews : ∀ j u, news[j]? = some u → w.cell? (a.add j) = some u) (h1 : ∀ u ∈ news, u.oneCell' = true)
    (h63 : n + m ≤ maxLen) (hbytes : (n + m) * bytes ≤ 140737488355328) (hbase : base ≤ w.heap.size) :
    ∃ v' w', (Builtin.append_ #[t, t] ty #[v, .slice (some a) m c]).run P w = .ok v' w' ∧ w'.ownsRow base e size v' (n + m) (xs ++ news) ∧ w.grownBy w' v.ownBlock ∧
      (v'.ownBlock = v.ownBlock ∨ ∀ k, v'.ownBlock = some k → w.heap.size ≤ k) := by
  obtain ⟨v', w', hr, g2, g3, g4⟩ := run_append_own (P := P) w base t ty e i z size bytes ht hi hz hsize hby hzs hsz v n xs hown a m c news hl hnews h1 h63 hbytes hbase
  refine ⟨v', w', hr, g2, g3, ?_⟩
  rcases hown.2 with ⟨rfl, rfl⟩ | ⟨g, cap, cur, rfl, hbg, hg, hnc, hcm, hcs, htake⟩
  · right
    have hx : xs = [] := List.eq_nil_of_length_eq_zero (by simpa using hown.1)
    subst hx
    obtain ⟨v2, w2, hr2, k2, _, _⟩ := run_append_own (P := P) w w.heap.size t ty e i z size bytes ht hi hz hsize hby hzs hsz (.slice none 0 0) 0 [] (World.ownsRow_nil _ _ _ _) a m c news hl hnews h1 h63 hbytes (Nat.le_refl _)
    rw [hr] at hr2
    obtain ⟨rfl, rfl⟩ : v' = v2 ∧ w' = w2 := by
      have := Result.ok.inj hr2
      exact this
    exact fun k hk => (World.ownsRow.lt k2 k hk).1
  · subst hsize
    by_cases hroom : n + m ≤ cap
    · left
      have hfit : n * i.size + news.length ≤ cur.size := by rw [hl, hcs, ← Nat.add_mul]; exact Nat.mul_le_mul_right _ hroom
      have hr2 := run_append_room (P := P) w t ty e i ht hi g n cap cur hg a m c news hl hnews h1 hroom hfit
      rw [hr] at hr2
      obtain ⟨rfl, _⟩ := Result.ok.inj hr2
      rfl
    · right
      subst hby
      have holds : ∀ j u, xs[j]? = some u → w.cell? ((⟨g, 0, none⟩ : Addr).add j) = some u := hown.cells (g := g) rfl
      have hr2 := run_append_grow (P := P) w t ty e i z ht hi hz ⟨g, 0, none⟩ n cap xs hown.1 holds a m c news hl hnews (by omega) (by simp only [maxLen] at h63; omega) (growslice_fits (by simp only [maxLen] at h63; omega) hbytes)
      rw [hr] at hr2
      obtain ⟨rfl, _⟩ := Result.ok.inj hr2
      intro k hk
      simp [Value.ownBlock] at hk
      omega

/-- append of one element that the operation itself has just laid, beside another owned row: that one stays, and they stay apart -/
theorem wpList_append_two {ops : Array Oper} {rest : List Oper} {o : Oper} {a : Act} {Q : Exit → Act → World → Prop} (hgd : o.guard = none) (s x : Operand) (t : TypeId)
    (ho : o.op = .call { callee := .builtin .append, args := #[s, x], argTypes := #[t, t] })
    (base : Nat) (e : TypeId) (i : TypeInfo) (z : Value) (size bytes : Nat) (ht : P.underlying t = some (.slice e)) (hi : P.info? e = some i) (hz : i.zero = some z)
    (hsize : i.size = size) (hby : i.bytes = bytes) (hzs : z.cells.size = size) (hsz : 0 < size)
    (v : Value) (n : Nat) (xs : List Value) (hs : a.eval s = v) (hown : w.ownsRow base e size v n xs)
    (v2 : Value) (e2 : TypeId) (size2 n2 : Nat) (xs2 : List Value) (hown2 : w.ownsRow base e2 size2 v2 n2 xs2) (hap : Apart v v2) (news : Array Value) (c : Nat)
    (hx : a.eval x = .slice (some ⟨w.heap.size, 0, none⟩) 1 c) (hl : news.size = size) (h1 : ∀ u ∈ news.toList, u.oneCell' = true)
    (hn : n < 1099511627776) (hb128 : bytes ≤ 127) (hbase : base ≤ w.heap.size)
    (h : ∀ v' w', w'.ownsRow base e size v' (n + 1) (xs ++ news.toList) → w'.ownsRow base e2 size2 v2 n2 xs2 → Apart v' v2 → Below base w w' → wpList P ops Q rest (a.put o.dst v') w') :
    wpList P ops Q (o :: rest) a (w.alloc (.cells news e)) := by
  have hcells : ∀ j u, news.toList[j]? = some u → (w.alloc (.cells news e)).cell? ((⟨w.heap.size, 0, none⟩ : Addr).add j) = some u := by
    intro j u hu
    rw [addr_add, Nat.zero_add, cell_of_row _ _ j news e (0, 0) (heap_alloc_new w _)]
    simpa using hu
  have hby2 : (n + 1) * bytes ≤ 140737488355328 := by
    have : (n + 1) * bytes ≤ 1099511627776 * 127 := Nat.mul_le_mul (by omega) hb128
    omega
  obtain ⟨v', w', hr, g2, g3, g4⟩ := run_append_fresh (P := P) (w.alloc (.cells news e)) base t o.type e i z size bytes ht hi hz hsize hby hzs hsz v n xs (hown.alloc _) ⟨w.heap.size, 0, none⟩ 1 c news.toList (by simpa using hl) hcells h1
    (by simp [maxLen]; omega) hby2 (by simp; omega)
  have k2 : w'.ownsRow base e2 size2 v2 n2 xs2 := (hown2.alloc _).kept g3 (by
    cases hv : v2.ownBlock with
    | none => exact .inl rfl
    | some k => exact .inr (fun h => hap k h.symm hv))
  have hap2 : Apart v' v2 := by
    intro k hk hk2
    rcases g4 with g4 | g4
    · exact hap k (g4 ▸ hk) hk2
    · have := g4 k hk
      have := (hown2.lt k hk2).2
      simp at *
      omega
  have hB : Below base w w' := ((Below.refl base w).alloc hbase _).grown g3 (by simp; omega) (fun k hk => (hown.lt k hk).1)
  refine wpList_plain hgd fun K hK => ?_
  unfold Oper.wp execOp
  simp only [ho, resolve, invoke, builtin, Sem.run_bind, Sem.run_pure, Result.andThen_ok, List.map_toArray, List.map_cons, List.map_nil, hs, hx, hr]
  exact hK _ _ (h v' w' g2 k2 hap2 hB)
end
end Go.Proofs.Ytnbeejgppooamaa
