/- hops: how many of each: a map keyed by a struct. Conditions stand in each lemma. -/
import Derived.Test.YtjdpgapmdmpjjaaHop3
import Derived.Maps.OwnSet
import Derived.WideKeyEntry
import Derived.DeepKeys5
set_option linter.unusedVariables false
set_option linter.unusedSimpArgs false
namespace Go.Proofs.Ytjdpgapmdmpjjaa
open Go.RowKit Go.ChangeShapes Go.WideShapes Go.Deep Go.Joins Go.Maps

set_option maxRecDepth 100000 in
theorem hopLaid : laidOutB Try.prog = true := by kernel_rfl
set_option maxRecDepth 100000 in
theorem hopWide : (match Try.prog.underlying 105 with | some (.array _ _) | some (.struct _) => true | _ => false) = true := by rw [Try.underlying105]
set_option maxRecDepth 100000 in
theorem hopLaw : Go.WideMaps.KeyLaw Try.prog 105 := deep_law_laid hopLaid (m := 2) (by omega) (of_decide_eq_true (by kernel_rfl)) (by kernel_rfl) hopWide
theorem hopKeyed : Keyed Try.prog 105 := Keyed.of_law hopLaw
theorem hopZero3 (w : World) : (zeroValue 3).run Try.prog w = .ok (.int .i64 0) w := by kernel_rfl
def klW (o s d : Int) : Lit := .string (keyBytes [.int .i64 o, .int .i64 s, .int .i64 d])
set_option maxRecDepth 100000 in
theorem keyW {o s d : Int} (ho : (Lit.int .i64 o).wf = true) (hs : (Lit.int .i64 s).wf = true) (hd : (Lit.int .i64 d).wf = true) : keyOf Try.prog 105 (.agg #[.int .i64 o, .int .i64 s, .int .i64 d]) = some (klW o s d) := by
  have hu := Try.underlying105
  have h3 := Try.underlying3
  have c3 : Try.prog.cellsOf 3 = 1 := by kernel_rfl
  have c5 : Try.prog.cellsOf 105 = 3 := by kernel_rfl
  have hkt : Try.prog.keyType 105 = true := by kernel_rfl
  have hfm : (Value.agg #[Value.int .i64 o, .int .i64 s, .int .i64 d]).formed Try.prog 105 = true := by simp [Value.formed, hu, c5]
  have hz : ∃ m, Try.prog.types.size + 1 = m + 2 := ⟨Try.prog.types.size - 1, by have : 105 < Try.prog.types.size := of_decide_eq_true (by kernel_rfl); omega⟩
  obtain ⟨m, hz⟩ := hz
  unfold keyOf
  simp only [hu, hkt, hfm, Bool.and_self, if_true, hz]
  have hi : ∀ x : Int, (Lit.int .i64 x).wf = true → Try.prog.keyLits (m + 1) 3 [.int .i64 x] = some [.int .i64 x] := by
    intro x hx
    simp [Program.keyLits, h3, hx]
  simp [Program.keyLits, hu, Value.cells, c5, c3, hi, ho, hs, hd, klW]
/-- how many hops there are of an owner, from one validator to another -/
def cntL (l : List (Int × Int × Int × Int)) (o s d : Int) : Int := ((l.filter (fun x => x.1 == o && (x.2.1 == s && x.2.2.1 == d))).length : Int)
theorem cntL_len (l : List (Int × Int × Int × Int)) (o s d : Int) : 0 ≤ cntL l o s d ∧ cntL l o s d ≤ l.length := by
  unfold cntL
  have := List.length_filter_le (fun x : (Int × Int × Int × Int) => x.1 == o && (x.2.1 == s && x.2.2.1 == d)) l
  omega
theorem cntL_add (l : List (Int × Int × Int × Int)) (x : (Int × Int × Int × Int)) (o s d : Int) : cntL (l ++ [x]) o s d = cntL l o s d + if x.1 = o ∧ x.2.1 = s ∧ x.2.2.1 = d then 1 else 0 := by
  unfold cntL
  rw [List.filter_append, List.length_append]
  by_cases h : x.1 = o ∧ x.2.1 = s ∧ x.2.2.1 = d
  · obtain ⟨h1, h2, h3⟩ := h
    simp [h1, h2, h3]
  · rw [if_neg h]
    have : (x.1 == o && (x.2.1 == s && x.2.2.1 == d)) = false := by
      by_cases h1 : x.1 = o <;> by_cases h2 : x.2.1 = s <;> by_cases h3 : x.2.2.1 = d <;> simp_all
    simp [List.filter_cons, this]
theorem klW_inj {o s d o' s' d' : Int} (ho : (Lit.int .i64 o).wf = true) (hs : (Lit.int .i64 s).wf = true) (hd : (Lit.int .i64 d).wf = true) (ho' : (Lit.int .i64 o').wf = true) (hs' : (Lit.int .i64 s').wf = true) (hd' : (Lit.int .i64 d').wf = true) (h : klW o s d = klW o' s' d') : o = o' ∧ s = s' ∧ d = d' := by
  have h1 := keyW ho hs hd
  have h2 := keyW ho' hs' hd'
  rw [h] at h1
  have h3 := hopKeyed.inj h1 h2
  simpa using h3
/-- a map that tells how many there are of each -/
def CntW (w : World) (bm n : Nat) (l : List (Int × Int × Int × Int)) : Prop := ∃ D : DataW Unit, w.ownsMap Try.prog 105 (plainElem Try.prog 3) bm n D ∧ Maps.IsMap D ∧ ∀ o s d, (Lit.int .i64 o).wf = true → (Lit.int .i64 s).wf = true → (Lit.int .i64 d).wf = true → D.atKey (klW o s d) (.lit (.int .i64 0)) = .lit (.int .i64 (cntL l o s d))
theorem CntW.lt {w : World} {bm n : Nat} {l : List (Int × Int × Int × Int)} (h : CntW w bm n l) : bm < w.heap.size := by
  obtain ⟨D, h, _⟩ := h
  exact h.lt
theorem CntW.ext {w w' : World} {bm n : Nat} {l : List (Int × Int × Int × Int)} (h : CntW w bm n l) (hx : Ext w w') : CntW w' bm n l := by
  obtain ⟨D, h, h1, h2⟩ := h
  have hl := h.lt
  obtain ⟨es, clock, hb, Ft, hs, hD⟩ := h
  exact ⟨D, ⟨es, clock, (Below.block hx bm hl).trans hb, Ft, hs, hD⟩, h1, h2⟩
theorem CntW.made (w : World) : CntW (w.alloc (.map #[] 0)) w.heap.size 0 [] := ⟨.map [], World.ownsMap_made _ _ _ _, isMap_empty, fun o s d _ _ _ => by rfl⟩
theorem CntW.look {w : World} {bm n : Nat} {l : List (Int × Int × Int × Int)} (h : CntW w bm n l) {o s d : Int} (ho : (Lit.int .i64 o).wf = true) (hs : (Lit.int .i64 s).wf = true) (hd : (Lit.int .i64 d).wf = true) : (Instr.lookup 101 (.map (some bm)) (.agg #[.int .i64 o, .int .i64 s, .int .i64 d]) false).run Try.prog w = .ok (.int .i64 (cntL l o s d)) w := by
  obtain ⟨D, h, _, h2⟩ := h
  obtain ⟨c, hrun, hat, _⟩ := h.lookup_int hopKeyed Try.underlying101 Try.underlying3 (hopZero3 w) (keyW ho hs hd)
  rw [h2 o s d ho hs hd] at hat
  simp at hat
  rw [hat]
  exact hrun
set_option maxRecDepth 100000 in
theorem CntW.entry {w : World} {bm n : Nat} {l : List (Int × Int × Int × Int)} (h : CntW w bm n l) (hn : n < maxLen) {o s d y : Int} (ho : (Lit.int .i64 o).wf = true) (hs : (Lit.int .i64 s).wf = true) (hd : (Lit.int .i64 d).wf = true) (hl : l.length < 1099511627776) :
    ∃ (st : Nat) (w1 : World), (Instr.mapEntry 101 (.map (some bm)) (.agg #[.int .i64 o, .int .i64 s, .int .i64 d])).run Try.prog w = .ok (.tuple #[.int .i64 (cntL l o s d), goInt st]) w1 ∧ w.grownBy w1 (some bm) ∧ CntW w1 bm (n + 1) l ∧
      ∀ w2 : World, w2.heap[bm]? = w1.heap[bm]? → ∃ w3, (Instr.entryStore 101 (.map (some bm)) (goInt st) (.int .i64 (cntL l o s d + 1))).run Try.prog w2 = .ok () w3 ∧ w2.grownBy w3 (some bm) ∧ CntW w3 bm (n + 1) (l ++ [(o, s, d, y)]) := by
  obtain ⟨D, hown, hm, h2⟩ := h
  have hkey := keyW ho hs hd
  have hkl := hopKeyed.key hkey
  have h2k := h2 o s d ho hs hd
  have hbd := cntL_len l o s d
  obtain ⟨es, clock, hb, F, hsz, hD⟩ := id hown
  have hw0 : (Lit.int .i64 0).wf = true := by decide
  have hw1 : (Lit.int .i64 (cntL l o s d + 1)).wf = true := by
    have e1 : IntKind.i64.min = -9223372036854775808 := by decide
    have e2 : IntKind.i64.max = 9223372036854775807 := by decide
    simp only [Lit.wf, e1, e2, Bool.and_eq_true, decide_eq_true_eq]
    omega
  obtain ⟨v0, st, es1, clock1, hrun1, _, hst⟩ := Go.WideElems.entry_then_store (w := w) (b := bm) hopLaw Try.underlying101 hopZero3 hb F hkey
  have hlook : (Instr.lookup 101 (.map (some bm)) (.agg #[.int .i64 o, .int .i64 s, .int .i64 d]) false).run Try.prog w = .ok (.int .i64 (cntL l o s d)) w := CntW.look ⟨D, hown, hm, h2⟩ ho hs hd
  have hput : ∀ c : Int, (Lit.int .i64 c).wf = true → ∀ (es' : Array MapEntry) (clock' : Nat), (Instr.mapUpdate 101 (.map (some bm)) (.agg #[.int .i64 o, .int .i64 s, .int .i64 d]) (.int .i64 c)).run Try.prog w = .ok () (Go.ChangeMaps.setBlock w bm (.map es' clock')) → ∀ (w2 : World) (b0 : Obj), w2.heap[bm]? = some b0 → (∃ e2 c2, b0 = .map e2 c2) → ∀ (l2 : List (Int × Int × Int × Int)), (∀ o' s' d', cntL l2 o' s' d' = if o = o' ∧ s = s' ∧ d = d' then c else cntL l o' s' d') → CntW (Go.ChangeMaps.setBlock w2 bm (.map es' clock')) bm (n + 1) l2 := by
    intro c hc es' clock' hrun w2 b0 hb2 hmp l2 hcl
    obtain ⟨e2, c2, rfl⟩ := hmp
    obtain ⟨w', hrun', ⟨es3, clock3, hb3, F3, hs3, hD3⟩, _⟩ := hown.update hopKeyed Try.underlying101 hn hkey (plainElem_int Try.underlying3 hc)
    rw [hrun] at hrun'
    have hw' : Go.ChangeMaps.setBlock w bm (.map es' clock') = w' := (Result.ok.inj hrun').2
    rw [← hw', Go.ChangeMaps.heap_setBlock_same hb] at hb3
    simp only [Option.some.injEq, Obj.map.injEq] at hb3
    obtain ⟨rfl, rfl⟩ := hb3
    refine ⟨_, ⟨es', clock', Go.ChangeMaps.heap_setBlock_same hb2 _, F3, hs3, hD3⟩, hm.put _ _, fun o' s' d' ho' hs' hd' => ?_⟩
    rw [hcl]
    by_cases he : o = o' ∧ s = s' ∧ d = d'
    · rw [if_pos he]
      obtain ⟨rfl, rfl, rfl⟩ := he
      exact atKey_put_same hm hkl _ _
    · rw [if_neg he, atKey_put_other (fun e => he (klW_inj ho hs hd ho' hs' hd' e.symm)) _ _]
      exact h2 o' s' d' ho' hs' hd'
  have hgr : ∀ (w2 : World) (e2 : Array MapEntry) (c2 : Nat) (ob : Obj), w2.heap[bm]? = some (.map e2 c2) → w2.grownBy (Go.ChangeMaps.setBlock w2 bm ob) (some bm) := fun w2 e2 c2 ob h0 =>
    ⟨rfl, rfl, rfl, by simp [Go.ChangeMaps.setBlock], fun i _ hi => Go.ChangeMaps.heap_setBlock_other h0 _ (fun e => hi (by rw [e]))⟩
  have hlast : ∀ (w1 : World), w1.heap[bm]? = some (.map es1 clock1) → ∀ w2 : World, w2.heap[bm]? = w1.heap[bm]? → ∃ w3, (Instr.entryStore 101 (.map (some bm)) (goInt st) (.int .i64 (cntL l o s d + 1))).run Try.prog w2 = .ok () w3 ∧ w2.grownBy w3 (some bm) ∧ CntW w3 bm (n + 1) (l ++ [(o, s, d, y)]) := by
    intro w1 hw1b w2 hw2
    rw [hw1b] at hw2
    obtain ⟨es', clock', he, hu⟩ := hst w2 (.int .i64 (cntL l o s d + 1)) hw2
    refine ⟨_, he, hgr w2 _ _ _ hw2, hput _ hw1 _ _ hu w2 _ hw2 ⟨_, _, rfl⟩ _ fun o' s' d' => ?_⟩
    rw [cntL_add]
    by_cases hc : o = o' ∧ s = s' ∧ d = d'
    · rw [if_pos hc, if_pos hc, hc.1, hc.2.1, hc.2.2]
    · rw [if_neg hc, if_neg hc]; omega
  rcases hopLaw.find w hkey es.toList F.keys with ⟨g1, g2⟩ | ⟨j, e0, g1, g2, g3⟩
  · have hme : (Instr.mapEntry 101 (.map (some bm)) (.agg #[.int .i64 o, .int .i64 s, .int .i64 d])).run Try.prog w = .ok (.tuple #[.int .i64 0, goInt clock]) (Go.ChangeMaps.setBlock w bm (.map (es.push ⟨.agg #[.int .i64 o, .int .i64 s, .int .i64 d], .int .i64 0, clock⟩) (clock + 1))) := by
      simp [Instr.mapEntry, run_underlying Try.underlying101, MapKept.run_getObj_map hb, hopLaw.check w false hkey, g1, hopZero3, MapKept.run_setObj_map _ hb, Result.andThen, Go.ChangeMaps.setBlock]
    have hup : (Instr.mapUpdate 101 (.map (some bm)) (.agg #[.int .i64 o, .int .i64 s, .int .i64 d]) (.int .i64 0)).run Try.prog w = .ok () (Go.ChangeMaps.setBlock w bm (.map (es.push ⟨.agg #[.int .i64 o, .int .i64 s, .int .i64 d], .int .i64 0, clock⟩) (clock + 1))) := by
      simp [Instr.mapUpdate, run_underlying Try.underlying101, MapKept.run_getObj_map hb, hopLaw.check w false hkey, g1, MapKept.run_setObj_map _ hb, Result.andThen, Go.ChangeMaps.setBlock]
    have hlk : (Instr.lookup 101 (.map (some bm)) (.agg #[.int .i64 o, .int .i64 s, .int .i64 d]) false).run Try.prog w = .ok (.int .i64 0) w := by
      simp [Instr.lookup, run_underlying Try.underlying101, MapKept.run_getObj_map hb, hopLaw.check w _ hkey, g1, hopZero3, Result.andThen]
    rw [hlk] at hlook
    have hc0 : cntL l o s d = 0 := by
      have h := (Result.ok.inj hlook).1
      exact ((Value.int.inj h).2).symm
    rw [hme] at hrun1
    obtain ⟨q1, q2⟩ := Result.ok.inj hrun1
    have hblk : some (Obj.map (es.push ⟨.agg #[.int .i64 o, .int .i64 s, .int .i64 d], .int .i64 0, clock⟩) (clock + 1)) = some (Obj.map es1 clock1) := by
      rw [← Go.ChangeMaps.heap_setBlock_same hb (.map es1 clock1), ← q2, Go.ChangeMaps.heap_setBlock_same hb]
    have hst1 : goInt clock = goInt st := by have q3 := Value.tuple.inj q1; simp only [Array.mk.injEq, List.cons.injEq] at q3; exact q3.2.1
    refine ⟨st, _, by rw [hme, hc0, hst1], hgr w _ _ _ hb, hput 0 hw0 _ _ hup w _ hb ⟨_, _, rfl⟩ _ fun o' s' d' => ?_, hlast _ ?_⟩
    · by_cases hc : o = o' ∧ s = s' ∧ d = d'
      · rw [if_pos hc, ← hc.1, ← hc.2.1, ← hc.2.2, hc0]
      · rw [if_neg hc]
    · rw [Go.ChangeMaps.heap_setBlock_same hb]; exact hblk
  · have hj : es[j]? = some e0 := by simpa using g2
    have hlk : (Instr.lookup 101 (.map (some bm)) (.agg #[.int .i64 o, .int .i64 s, .int .i64 d]) false).run Try.prog w = .ok e0.val w := by
      simp [Instr.lookup, run_underlying Try.underlying101, MapKept.run_getObj_map hb, hopLaw.check w _ hkey, g1, Result.andThen]
    have hsame : es.modify j (fun e => { e with key := .agg #[.int .i64 o, .int .i64 s, .int .i64 d] }) = es := by
      apply Array.ext'
      rw [Array.toList_modify, Go.ChangeMaps.modify_eq_set _ _ _ _ g2]
      have : ({ e0 with key := .agg #[.int .i64 o, .int .i64 s, .int .i64 d] } : MapEntry) = e0 := by rw [← g3]
      rw [this]
      exact Go.WideElems.set_self _ _ _ g2
    have hme : (Instr.mapEntry 101 (.map (some bm)) (.agg #[.int .i64 o, .int .i64 s, .int .i64 d])).run Try.prog w = .ok (.tuple #[e0.val, goInt e0.born]) (Go.ChangeMaps.setBlock w bm (.map es clock)) := by
      simp [Instr.mapEntry, run_underlying Try.underlying101, MapKept.run_getObj_map hb, hopLaw.check w false hkey, g1, hj, g3, hopLaw.stays w hkey, hsame, MapKept.run_setObj_map _ hb, Result.andThen, Go.ChangeMaps.setBlock]
    rw [hlk] at hlook
    have hc0 : e0.val = .int .i64 (cntL l o s d) := by
      exact (Result.ok.inj hlook).1
    rw [hme] at hrun1
    obtain ⟨q1, q2⟩ := Result.ok.inj hrun1
    have hblk : some (Obj.map es clock) = some (Obj.map es1 clock1) := by
      rw [← Go.ChangeMaps.heap_setBlock_same hb (.map es1 clock1), ← q2, Go.ChangeMaps.heap_setBlock_same hb]
    have hst1 : goInt e0.born = goInt st := by have q3 := Value.tuple.inj q1; simp only [Array.mk.injEq, List.cons.injEq] at q3; exact q3.2.1
    refine ⟨st, _, by rw [hme, hc0, hst1], hgr w _ _ _ hb, ⟨D, ⟨es, clock, Go.ChangeMaps.heap_setBlock_same hb _, F, by omega, hD⟩, hm, h2⟩, hlast _ ?_⟩
    rw [Go.ChangeMaps.heap_setBlock_same hb]; exact hblk
end Go.Proofs.Ytjdpgapmdmpjjaa
