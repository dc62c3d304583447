/- What the law HopBack rests on, part 2 of 3: Hop4, Hop5, Hop6, Hop7, Hop8, Hop9, AppTwo, Search, Hop10, Hop11, ListVal, HopListsW, Hop12, KitC, Pick, HopFullW. Conditions stand in each lemma. -/
import Derived.WalkKit
import Derived.Deep.QuietTactic
import Derived.Deep.Draws
import Derived.Laws.OwnMore
import Derived.Laws.AppendOwn
import Derived.OwnWalk
import Derived.RangeFuncBox
import Derived.RangeFuncLeaves
import Derived.Shelf.Abstract
import Derived.OwnWalkIn
import Derived.TacticsInMore
import Derived.LoopNIn
import Derived.LoopIn
import Derived.Maps.AppendAt
import Derived.Test.YtjdpgapmdmpjjaaRows
import Derived.Lib.Hide
import Derived.Deep.Onto
import Derived.ProofKit
import Derived.ChangeOld
import Derived.OpenShut
import Derived.Deep.Slices
import Derived.BigQuiet
import Derived.IntWalk
import Derived.Lib.SliceRun
import Derived.Deep.LoopGhost
import Derived.WalkSpells
import Derived.WalkLawsBesides
import Derived.Laws.BytesArg
import Derived.Deep.RegionHeld3
import Derived.Lib.SmallJoins
import Derived.ArgAppend
import Derived.Laws.StructEq
import Derived.WalkMore
import Derived.Maps.OwnSet
import Derived.WideKeyEntry
import Derived.DeepKeys5
import Derived.Test.YtjdpgapmdmpjjaaSlHopBack1
set_option linter.unusedVariables false
set_option linter.unusedSimpArgs false
namespace Go.Proofs.Ytjdpgapmdmpjjaa
section
open Go.RowKit Go.ChangeShapes Go.WideShapes Go.Deep Go.Joins Go.Maps
set_option maxRecDepth 100000 in
theorem hopLaid : laidOutB Try.prog = true := by kernel_rfl
set_option maxRecDepth 100000 in
theorem hopWide : (match Try.prog.underlying 105 with | some (.array _ _) | some (.struct _) => true | _ => false) = true := by rw [Try.underlying105]
set_option maxRecDepth 100000 in
theorem hopLaw : Go.WideMaps.KeyLaw Try.prog 105 := deep_law_laid hopLaid (m := 2) (by omega) (of_decide_eq_true (by kernel_rfl)) (by kernel_rfl) hopWide
theorem hopKeyed : Keyed Try.prog 105 := Keyed.of_law hopLaw
theorem hopZero3 (w : World) : (zeroValue 3).run Try.prog w = .ok (.int .i64 0) w := by kernel_rfl
def klW (o s d : Int) : Lit := .string (keyBytes [.int .i64 o, .int .i64 s, .int .i64 d])
set_option maxRecDepth 100000 in
theorem keyW {o s d : Int} (ho : (Lit.int .i64 o).wf = true) (hs : (Lit.int .i64 s).wf = true) (hd : (Lit.int .i64 d).wf = true) : keyOf Try.prog 105 (.agg #[.int .i64 o, .int .i64 s, .int .i64 d]) = some (klW o s d) := by
  have hu := Try.underlying105
  have h3 := Try.underlying3
  have c3 : Try.prog.cellsOf 3 = 1 := by kernel_rfl
  have c5 : Try.prog.cellsOf 105 = 3 := by kernel_rfl
  have hkt : Try.prog.keyType 105 = true := by kernel_rfl
  have hfm : (Value.agg #[Value.int .i64 o, .int .i64 s, .int .i64 d]).formed Try.prog 105 = true := by simp [Value.formed, hu, c5]
  have hz : ∃ m, Try.prog.types.size + 1 = m + 2 := ⟨Try.prog.types.size - 1, by have : 105 < Try.prog.types.size := of_decide_eq_true (by kernel_rfl); omega⟩
  obtain ⟨m, hz⟩ := hz
  unfold keyOf
  simp only [hu, hkt, hfm, Bool.and_self, if_true, hz]
  have hi : ∀ x : Int, (Lit.int .i64 x).wf = true → Try.prog.keyLits (m + 1) 3 [.int .i64 x] = some [.int .i64 x] := by
    intro x hx
    simp [Program.keyLits, h3, hx]
  simp [Program.keyLits, hu, Value.cells, c5, c3, hi, ho, hs, hd, klW]
/-- how many hops there are of an owner, from one validator to another -/
def cntL (l : List (Int × Int × Int × Int)) (o s d : Int) : Int := ((l.filter (fun x => x.1 == o && (x.2.1 == s && x.2.2.1 == d))).length : Int)
theorem cntL_len (l : List (Int × Int × Int × Int)) (o s d : Int) : 0 ≤ cntL l o s d ∧ cntL l o s d ≤ l.length := by
  unfold cntL
  have := List.length_filter_le (fun x : (Int × Int × Int × Int) => x.1 == o && (x.2.1 == s && x.2.2.1 == d)) l
  omega
theorem cntL_add (l : List (Int × Int × Int × Int)) (x : (Int × Int × Int × Int)) (o s d : Int) : cntL (l ++ [x]) o s d = cntL l o s d + if x.1 = o ∧ x.2.1 = s ∧ x.2.2.1 = d then 1 else 0 := by
  unfold cntL
  rw [List.filter_append, List.length_append]
  by_cases h : x.1 = o ∧ x.2.1 = s ∧ x.2.2.1 = d
  · obtain ⟨h1, h2, h3⟩ := h
    simp [h1, h2, h3]
  · rw [if_neg h]
    have : (x.1 == o && (x.2.1 == s && x.2.2.1 == d)) = false := by
      by_cases h1 : x.1 = o <;> by_cases h2 : x.2.1 = s <;> by_cases h3 : x.2.2.1 = d <;> simp_all
    simp [List.filter_cons, this]
theorem klW_inj {o s d o' s' d' : Int} (ho : (Lit.int .i64 o).wf = true) (hs : (Lit.int .i64 s).wf = true) (hd : (Lit.int .i64 d).wf = true) (ho' : (Lit.int .i64 o').wf = true) (hs' : (Lit.int .i64 s').wf = true) (hd' : (Lit.int .i64 d').wf = true) (h : klW o s d = klW o' s' d') : o = o' ∧ s = s' ∧ d = d' := by
  have h1 := keyW ho hs hd
  have h2 := keyW ho' hs' hd'
  rw [h] at h1
  have h3 := hopKeyed.inj h1 h2
  simpa using h3
/-- a map that tells how many there are of each -/
def CntW (w : World) (bm n : Nat) (l : List (Int × Int × Int × Int)) : Prop := ∃ D : DataW Unit, w.ownsMap Try.prog 105 (plainElem Try.prog 3) bm n D ∧ Maps.IsMap D ∧ ∀ o s d, (Lit.int .i64 o).wf = true → (Lit.int .i64 s).wf = true → (Lit.int .i64 d).wf = true → D.atKey (klW o s d) (.lit (.int .i64 0)) = .lit (.int .i64 (cntL l o s d))
theorem CntW.lt {w : World} {bm n : Nat} {l : List (Int × Int × Int × Int)} (h : CntW w bm n l) : bm < w.heap.size := by
  obtain ⟨D, h, _⟩ := h
  exact h.lt
theorem CntW.ext {w w' : World} {bm n : Nat} {l : List (Int × Int × Int × Int)} (h : CntW w bm n l) (hx : Ext w w') : CntW w' bm n l := by
  obtain ⟨D, h, h1, h2⟩ := h
  have hl := h.lt
  obtain ⟨es, clock, hb, Ft, hs, hD⟩ := h
  exact ⟨D, ⟨es, clock, (Below.block hx bm hl).trans hb, Ft, hs, hD⟩, h1, h2⟩
theorem CntW.made (w : World) : CntW (w.alloc (.map #[] 0)) w.heap.size 0 [] := ⟨.map [], World.ownsMap_made _ _ _ _, isMap_empty, fun o s d _ _ _ => by rfl⟩
theorem CntW.look {w : World} {bm n : Nat} {l : List (Int × Int × Int × Int)} (h : CntW w bm n l) {o s d : Int} (ho : (Lit.int .i64 o).wf = true) (hs : (Lit.int .i64 s).wf = true) (hd : (Lit.int .i64 d).wf = true) : (Instr.lookup 101 (.map (some bm)) (.agg #[.int .i64 o, .int .i64 s, .int .i64 d]) false).run Try.prog w = .ok (.int .i64 (cntL l o s d)) w := by
  obtain ⟨D, h, _, h2⟩ := h
  obtain ⟨c, hrun, hat, _⟩ := h.lookup_int hopKeyed Try.underlying101 Try.underlying3 (hopZero3 w) (keyW ho hs hd)
  rw [h2 o s d ho hs hd] at hat
  simp at hat
  rw [hat]
  exact hrun
set_option maxRecDepth 100000 in
theorem CntW.entry {w : World} {bm n : Nat} {l : List (Int × Int × Int × Int)} (h : CntW w bm n l) (hn : n < maxLen) {o s d y : Int} (ho : (Lit.int .i64 o).wf = true) (hs : (Lit.int .i64 s).wf = true) (hd : (Lit.int .i64 d).wf = true) (hl : l.length < 1099511627776) :
    ∃ (st : Nat) (w1 : World), (Instr.mapEntry 101 (.map (some bm)) (.agg #[.int .i64 o, .int .i64 s, .int .i64 d])).run Try.prog w = .ok (.tuple #[.int .i64 (cntL l o s d), goInt st]) w1 ∧ w.grownBy w1 (some bm) ∧ CntW w1 bm (n + 1) l ∧
      ∀ w2 : World, w2.heap[bm]? = w1.heap[bm]? → ∃ w3, (Instr.entryStore 101 (.map (some bm)) (goInt st) (.int .i64 (cntL l o s d + 1))).run Try.prog w2 = .ok () w3 ∧ w2.grownBy w3 (some bm) ∧ CntW w3 bm (n + 1) (l ++ [(o, s, d, y)]) := by
  obtain ⟨D, hown, hm, h2⟩ := h
  have hkey := keyW ho hs hd
  have hkl := hopKeyed.key hkey
  have h2k := h2 o s d ho hs hd
  have hbd := cntL_len l o s d
  obtain ⟨es, clock, hb, F, hsz, hD⟩ := id hown
  have hw0 : (Lit.int .i64 0).wf = true := by decide
  have hw1 : (Lit.int .i64 (cntL l o s d + 1)).wf = true := by
    have e1 : IntKind.i64.min = -9223372036854775808 := by decide
    have e2 : IntKind.i64.max = 9223372036854775807 := by decide
    simp only [Lit.wf, e1, e2, Bool.and_eq_true, decide_eq_true_eq]
    omega
  obtain ⟨v0, st, es1, clock1, hrun1, _, hst⟩ := Go.WideElems.entry_then_store (w := w) (b := bm) hopLaw Try.underlying101 hopZero3 hb F hkey
  have hlook : (Instr.lookup 101 (.map (some bm)) (.agg #[.int .i64 o, .int .i64 s, .int .i64 d]) false).run Try.prog w = .ok (.int .i64 (cntL l o s d)) w := CntW.look ⟨D, hown, hm, h2⟩ ho hs hd
  have hput : ∀ c : Int, (Lit.int .i64 c).wf = true → ∀ (es' : Array MapEntry) (clock' : Nat), (Instr.mapUpdate 101 (.map (some bm)) (.agg #[.int .i64 o, .int .i64 s, .int .i64 d]) (.int .i64 c)).run Try.prog w = .ok () (Go.ChangeMaps.setBlock w bm (.map es' clock')) → ∀ (w2 : World) (b0 : Obj), w2.heap[bm]? = some b0 → (∃ e2 c2, b0 = .map e2 c2) → ∀ (l2 : List (Int × Int × Int × Int)), (∀ o' s' d', cntL l2 o' s' d' = if o = o' ∧ s = s' ∧ d = d' then c else cntL l o' s' d') → CntW (Go.ChangeMaps.setBlock w2 bm (.map es' clock')) bm (n + 1) l2 := by
    intro c hc es' clock' hrun w2 b0 hb2 hmp l2 hcl
    obtain ⟨e2, c2, rfl⟩ := hmp
    obtain ⟨w', hrun', ⟨es3, clock3, hb3, F3, hs3, hD3⟩, _⟩ := hown.update hopKeyed Try.underlying101 hn hkey (plainElem_int Try.underlying3 hc)
    rw [hrun] at hrun'
    have hw' : Go.ChangeMaps.setBlock w bm (.map es' clock') = w' := (Result.ok.inj hrun').2
    rw [← hw', Go.ChangeMaps.heap_setBlock_same hb] at hb3
    simp only [Option.some.injEq, Obj.map.injEq] at hb3
    obtain ⟨rfl, rfl⟩ := hb3
    refine ⟨_, ⟨es', clock', Go.ChangeMaps.heap_setBlock_same hb2 _, F3, hs3, hD3⟩, hm.put _ _, fun o' s' d' ho' hs' hd' => ?_⟩
    rw [hcl]
    by_cases he : o = o' ∧ s = s' ∧ d = d'
    · rw [if_pos he]
      obtain ⟨rfl, rfl, rfl⟩ := he
      exact atKey_put_same hm hkl _ _
    · rw [if_neg he, atKey_put_other (fun e => he (klW_inj ho hs hd ho' hs' hd' e.symm)) _ _]
      exact h2 o' s' d' ho' hs' hd'
  have hgr : ∀ (w2 : World) (e2 : Array MapEntry) (c2 : Nat) (ob : Obj), w2.heap[bm]? = some (.map e2 c2) → w2.grownBy (Go.ChangeMaps.setBlock w2 bm ob) (some bm) := fun w2 e2 c2 ob h0 =>
    ⟨rfl, rfl, rfl, by simp [Go.ChangeMaps.setBlock], fun i _ hi => Go.ChangeMaps.heap_setBlock_other h0 _ (fun e => hi (by rw [e]))⟩
  have hlast : ∀ (w1 : World), w1.heap[bm]? = some (.map es1 clock1) → ∀ w2 : World, w2.heap[bm]? = w1.heap[bm]? → ∃ w3, (Instr.entryStore 101 (.map (some bm)) (goInt st) (.int .i64 (cntL l o s d + 1))).run Try.prog w2 = .ok () w3 ∧ w2.grownBy w3 (some bm) ∧ CntW w3 bm (n + 1) (l ++ [(o, s, d, y)]) := by
    intro w1 hw1b w2 hw2
    rw [hw1b] at hw2
    obtain ⟨es', clock', he, hu⟩ := hst w2 (.int .i64 (cntL l o s d + 1)) hw2
    refine ⟨_, he, hgr w2 _ _ _ hw2, hput _ hw1 _ _ hu w2 _ hw2 ⟨_, _, rfl⟩ _ fun o' s' d' => ?_⟩
    rw [cntL_add]
    by_cases hc : o = o' ∧ s = s' ∧ d = d'
    · rw [if_pos hc, if_pos hc, hc.1, hc.2.1, hc.2.2]
    · rw [if_neg hc, if_neg hc]; omega
  rcases hopLaw.find w hkey es.toList F.keys with ⟨g1, g2⟩ | ⟨j, e0, g1, g2, g3⟩
  · have hme : (Instr.mapEntry 101 (.map (some bm)) (.agg #[.int .i64 o, .int .i64 s, .int .i64 d])).run Try.prog w = .ok (.tuple #[.int .i64 0, goInt clock]) (Go.ChangeMaps.setBlock w bm (.map (es.push ⟨.agg #[.int .i64 o, .int .i64 s, .int .i64 d], .int .i64 0, clock⟩) (clock + 1))) := by
      simp [Instr.mapEntry, run_underlying Try.underlying101, MapKept.run_getObj_map hb, hopLaw.check w false hkey, g1, hopZero3, MapKept.run_setObj_map _ hb, Result.andThen, Go.ChangeMaps.setBlock]
    have hup : (Instr.mapUpdate 101 (.map (some bm)) (.agg #[.int .i64 o, .int .i64 s, .int .i64 d]) (.int .i64 0)).run Try.prog w = .ok () (Go.ChangeMaps.setBlock w bm (.map (es.push ⟨.agg #[.int .i64 o, .int .i64 s, .int .i64 d], .int .i64 0, clock⟩) (clock + 1))) := by
      simp [Instr.mapUpdate, run_underlying Try.underlying101, MapKept.run_getObj_map hb, hopLaw.check w false hkey, g1, MapKept.run_setObj_map _ hb, Result.andThen, Go.ChangeMaps.setBlock]
    have hlk : (Instr.lookup 101 (.map (some bm)) (.agg #[.int .i64 o, .int .i64 s, .int .i64 d]) false).run Try.prog w = .ok (.int .i64 0) w := by
      simp [Instr.lookup, run_underlying Try.underlying101, MapKept.run_getObj_map hb, hopLaw.check w _ hkey, g1, hopZero3, Result.andThen]
    rw [hlk] at hlook
    have hc0 : cntL l o s d = 0 := by
      have h := (Result.ok.inj hlook).1
      exact ((Value.int.inj h).2).symm
    rw [hme] at hrun1
    obtain ⟨q1, q2⟩ := Result.ok.inj hrun1
    have hblk : some (Obj.map (es.push ⟨.agg #[.int .i64 o, .int .i64 s, .int .i64 d], .int .i64 0, clock⟩) (clock + 1)) = some (Obj.map es1 clock1) := by
      rw [← Go.ChangeMaps.heap_setBlock_same hb (.map es1 clock1), ← q2, Go.ChangeMaps.heap_setBlock_same hb]
    have hst1 : goInt clock = goInt st := by have q3 := Value.tuple.inj q1; simp only [Array.mk.injEq, List.cons.injEq] at q3; exact q3.2.1
    refine ⟨st, _, by rw [hme, hc0, hst1], hgr w _ _ _ hb, hput 0 hw0 _ _ hup w _ hb ⟨_, _, rfl⟩ _ fun o' s' d' => ?_, hlast _ ?_⟩
    · by_cases hc : o = o' ∧ s = s' ∧ d = d'
      · rw [if_pos hc, ← hc.1, ← hc.2.1, ← hc.2.2, hc0]
      · rw [if_neg hc]
    · rw [Go.ChangeMaps.heap_setBlock_same hb]; exact hblk
  · have hj : es[j]? = some e0 := by simpa using g2
    have hlk : (Instr.lookup 101 (.map (some bm)) (.agg #[.int .i64 o, .int .i64 s, .int .i64 d]) false).run Try.prog w = .ok e0.val w := by
      simp [Instr.lookup, run_underlying Try.underlying101, MapKept.run_getObj_map hb, hopLaw.check w _ hkey, g1, Result.andThen]
    have hsame : es.modify j (fun e => { e with key := .agg #[.int .i64 o, .int .i64 s, .int .i64 d] }) = es := by
      apply Array.ext'
      rw [Array.toList_modify, Go.ChangeMaps.modify_eq_set _ _ _ _ g2]
      have : ({ e0 with key := .agg #[.int .i64 o, .int .i64 s, .int .i64 d] } : MapEntry) = e0 := by rw [← g3]
      rw [this]
      exact Go.WideElems.set_self _ _ _ g2
    have hme : (Instr.mapEntry 101 (.map (some bm)) (.agg #[.int .i64 o, .int .i64 s, .int .i64 d])).run Try.prog w = .ok (.tuple #[e0.val, goInt e0.born]) (Go.ChangeMaps.setBlock w bm (.map es clock)) := by
      simp [Instr.mapEntry, run_underlying Try.underlying101, MapKept.run_getObj_map hb, hopLaw.check w false hkey, g1, hj, g3, hopLaw.stays w hkey, hsame, MapKept.run_setObj_map _ hb, Result.andThen, Go.ChangeMaps.setBlock]
    rw [hlk] at hlook
    have hc0 : e0.val = .int .i64 (cntL l o s d) := by
      exact (Result.ok.inj hlook).1
    rw [hme] at hrun1
    obtain ⟨q1, q2⟩ := Result.ok.inj hrun1
    have hblk : some (Obj.map es clock) = some (Obj.map es1 clock1) := by
      rw [← Go.ChangeMaps.heap_setBlock_same hb (.map es1 clock1), ← q2, Go.ChangeMaps.heap_setBlock_same hb]
    have hst1 : goInt e0.born = goInt st := by have q3 := Value.tuple.inj q1; simp only [Array.mk.injEq, List.cons.injEq] at q3; exact q3.2.1
    refine ⟨st, _, by rw [hme, hc0, hst1], hgr w _ _ _ hb, ⟨D, ⟨es, clock, Go.ChangeMaps.heap_setBlock_same hb _, F, by omega, hD⟩, hm, h2⟩, hlast _ ?_⟩
    rw [Go.ChangeMaps.heap_setBlock_same hb]; exact hblk
end
section
open Go.RowKit Go.ChangeShapes Go.WideShapes Go.Deep Go.Joins
theorem keyW_wf {x : Int} (h : Fits .i64 x) : (Lit.int .i64 x).wf = true := by
  have h1 := h.i64
  have e1 : IntKind.i64.min = -9223372036854775808 := by decide
  have e2 : IntKind.i64.max = 9223372036854775807 := by decide
  simp only [Lit.wf, e1, e2, Bool.and_eq_true, decide_eq_true_eq]
  omega
set_option maxRecDepth 100000 in
set_option maxHeartbeats 4000000 in
theorem hopOf_any (x0 x1 x2 x3 : Int) (w : World) : Calls Try.prog 92 #[.agg #[.int .i64 x0, .int .i64 x1, .int .i64 x2, .int .i64 x3]] w fun e w' => e = .returned (.agg #[.int .i64 x0, .int .i64 x1, .int .i64 x2]) ∧ Ext w w' := by
  go_enter Try.func92, Try.ntmps92
  go_wp2_with fail
  refine bodyPost_ret (v := .agg #[.int .i64 x0, .int .i64 x1, .int .i64 x2]) (by simp [results, Try.results92, go_sem, World.cell?_alloc_past]; try rfl) rfl ⟨rfl, ?_⟩
  exact (by repeat (first | with_reducible exact Ext.refl w | with_reducible refine Ext.drew ?_ | with_reducible refine Ext.drewN ?_ _ | with_reducible refine Ext.alloc ?_ _ | with_reducible refine Ext.setCell ?_ (by first | omega | (simp; done) | (simp; omega)) _))
set_option maxRecDepth 100000 in
set_option maxHeartbeats 4000000 in
theorem hopCounts_any (A : Option Addr) (n c : Nat) (l : List (Int × Int × Int × Int)) (w : World) (h : Sl w 4 A n c (l.flatMap hopC)) (hn : n < 1099511627776) (hw : ∀ x ∈ l, Fits .i64 x.1 ∧ Fits .i64 x.2.1 ∧ Fits .i64 x.2.2.1) :
    Calls Try.prog 91 #[.slice A n c] w fun e w' => e = .returned (.map (some w.heap.size)) ∧ (CntW w' w.heap.size n l ∧ Ext w w') := by
  have hl := h.rlen hopC_len (by decide)
  have s1 := h.small
  have HS := Lib.hid h
  have HL := Lib.hid hl
  have HW := Lib.hid hw
  clear h hl hw
  have hmm := @run_makeMap Try.prog
  go_enter Try.func91, Try.ntmps91
  go_wp2
  go_loopg [9] n (fun gh i wx => gh ≤ n ∧ i = .int .i64 ((n - gh : Nat) : Int) ∧ Hid (CntW wx w.heap.size (n - gh) (l.take (n - gh))) ∧ Ext w wx)
  case atStart => exact ⟨Nat.le_refl _, by simp, Lib.hid (by rw [Nat.sub_self]; exact CntW.made w), Ext.alloc (Ext.refl _) _⟩
  case round =>
    obtain ⟨hg, hi, hm, hx⟩ := hrel
    obtain ⟨k, hk⟩ : ∃ k, k = n - gk := ⟨_, rfl⟩
    rw [← hk] at hi hm
    subst hi
    have XR := Lib.hid hx
    by_cases hz : gk = 0
    · have hkn : ¬ (k : Int) < n := by omega
      have hkl : l.take k = l := List.take_of_length_le (by have := HL.out; omega)
      have hkk : k = n := by omega
      rw [hkl, hkk] at hm
      clear hx hk hg hz hkl hkk
      go_wp2
      go_ret
      exact ⟨rfl, hm.out, XR.out⟩
    · have hkn : (k : Int) < n := by omega
      have hk1 : k < l.length := by have := HL.out; omega
      have hrm := Ext.size hx
      obtain ⟨b1, o1, rfl, hb1, hc1⟩ := HS.out.rec_ hopC_len (show 0 < n from by omega)
      obtain ⟨xv, hxx⟩ : ∃ x, x = l[k] := ⟨_, rfl⟩
      have hlk : l[k]? = some xv := by rw [hxx]; exact List.getElem?_eq_getElem hk1
      have htk := hopC_take hlk
      obtain ⟨f0, f1, f2⟩ := HW.out xv (List.mem_of_getElem? hlk)
      have hlen : (l.take k).length = k := by rw [List.length_take]; omega
      have x_0 := XR.out.has (hc1 k xv hlk 0 _ rfl)
      have x_1 := XR.out.has (hc1 k xv hlk 1 _ rfl)
      have x_2 := XR.out.has (hc1 k xv hlk 2 _ rfl)
      have x_3 := XR.out.has (hc1 k xv hlk 3 _ rfl)
      obtain ⟨x0, x1, x2, x3⟩ := xv
      simp only at x_0 x_1 x_2 x_3 htk f0 f1 f2
      rw [Nat.add_zero] at x_0
      rw [← Nat.add_assoc] at x_1 x_2 x_3
      have hbd := cntL_len (l.take k) x0 x1 x2
      rw [hlen] at hbd
      obtain ⟨cv, hcv⟩ : ∃ c, c = cntL (l.take k) x0 x1 x2 := ⟨_, rfl⟩
      rw [← hcv] at hbd
      have hwr : IntKind.i64.wrap (cv + 1) = cv + 1 := IntWalk.i64_in _ (by omega)
      have hk5 : k < 1099511627776 := by omega
      have hmb := hm.out.lt
      have HK := Lib.hid (And.intro hk (And.intro hg hz))
      have HC := Lib.hid hcv
      have HT := Lib.hid htk
      have HL5 := Lib.hid hlen
      clear hx hk hg hz hc1 hxx hk1 hlk hcv hbd htk hlen
      go_wp2_with fail
      refine wp_region_held_drew (S := fun _ => True) (by kernel_rfl) trivial (fun hHeld => ?_)
      (refine' take_in 0 rfl (by kernel_rfl) (by kernel_rfl) (by kernel_rfl) (fun _ _ _ h => h) (by rfl) (by assumption) ?_ ?_; rotate_left; focus (intro w hSw; (try dsimp only at hSw); go_simp; try with_reducible rfl)); try simp only [Act.put, List.setIfInBounds_toArray, List.set_cons_zero, List.set_cons_succ]
      refine' next_in 1 rfl (by kernel_rfl) (by rfl) (fun K hK => ?_)
      go_simp
      refine hK.out _ _ (trivial) (fun hHeld => ?_); clear hK K; try simp only [Act.put, List.setIfInBounds_toArray, List.set_cons_zero, List.set_cons_succ]
      refine' next_in 2 rfl (by kernel_rfl) (by rfl) (fun K hK => ?_)
      go_simp
      (with_reducible refine (hopOf_any x0 x1 x2 x3 _).mono ?_)
      rintro e w11 ⟨rfl, hx11⟩
      have X11 : Hid (Ext w w11) := Lib.hid (Ext.trans (by repeat (first | with_reducible exact XR.out | with_reducible refine Ext.drew ?_ | with_reducible refine Ext.drewN ?_ _ | with_reducible refine Ext.alloc ?_ _)) hx11)
      have HM1 : Hid (CntW w11 w.heap.size k (l.take k)) := Lib.hid (hm.out.ext (Ext.trans (by repeat (first | with_reducible exact Ext.refl _ | with_reducible refine Ext.drew ?_ | with_reducible refine Ext.drewN ?_ _ | with_reducible refine Ext.alloc ?_ _)) hx11))
      clear hx11 XR hm
      obtain ⟨st, w12, hrun2, hgr2, hM2, hlast⟩ := CntW.entry (o := x0) (s := x1) (d := x2) (y := x3) HM1.out (by unfold maxLen; omega) (keyW_wf f0) (keyW_wf f1) (keyW_wf f2) (by have := HL5.out; omega)
      have hrun1 := CntW.look HM1.out (keyW_wf f0) (keyW_wf f1) (keyW_wf f2)
      rw [← HC.out] at hrun1 hrun2 hlast
      have hrun3 := CntW.look hM2 (keyW_wf f0) (keyW_wf f1) (keyW_wf f2)
      rw [← HC.out] at hrun3
      have X12 : Hid (Ext w w12) := Lib.hid (Ext.grown X11.out hgr2 (fun q hq => by cases hq; exact Nat.le_refl _))
      obtain ⟨w13, hrun4, hgr4, hM4⟩ := hlast w12 rfl
      unfold goInt at hrun4
      have X13 : Hid (Ext w w13) := Lib.hid (Ext.grown X12.out hgr4 (fun q hq => by cases hq; exact Nat.le_refl _))
      have HM4 := Lib.hid hM4
      clear hM2 hM4 hgr2 hgr4 hlast HM1 X11 X12
      refine hK.out _ _ (trivial) (fun hHeld => ?_); clear hK K; try simp only [Act.put, List.setIfInBounds_toArray, List.set_cons_zero, List.set_cons_succ]
      refine' next2_in 3 5 rfl rfl (by kernel_rfl) (by rfl) (by rfl) (fun K hK => ?_) (fun K hK => ?_)
      · go_simp
        refine hK.out _ _ (trivial) (fun hHeld => ?_); clear hK K; try simp only [Act.put, List.setIfInBounds_toArray, List.set_cons_zero, List.set_cons_succ]
        (refine' take_in 4 rfl (by kernel_rfl) (by kernel_rfl) (by kernel_rfl) (fun _ _ _ h => h) (by rfl) (by assumption) ?_ ?_; rotate_left; focus (intro w hSw; (try dsimp only at hSw); go_simp; try with_reducible rfl)); try simp only [Act.put, List.setIfInBounds_toArray, List.set_cons_zero, List.set_cons_succ]
        refine' next_in 5 rfl (by kernel_rfl) (by rfl) (fun K hK => ?_)
        go_simp
        refine hK.out _ _ (trivial) (fun hHeld => ?_); clear hK K; try simp only [Act.put, List.setIfInBounds_toArray, List.set_cons_zero, List.set_cons_succ]
        (refine' take_in 6 rfl (by kernel_rfl) (by kernel_rfl) (by kernel_rfl) (fun _ _ _ h => h) (by rfl) (by assumption) ?_ ?_; rotate_left; focus (intro w hSw; (try dsimp only at hSw); go_simp; try with_reducible rfl)); try simp only [Act.put, List.setIfInBounds_toArray, List.set_cons_zero, List.set_cons_succ]
        refine' next_in 7 rfl (by kernel_rfl) (by rfl) (fun K hK => ?_)
        go_simp
        refine hK.out _ _ (trivial) (fun hHeld => ?_); clear hK K; try simp only [Act.put, List.setIfInBounds_toArray, List.set_cons_zero, List.set_cons_succ]
        refine wpAnyH_done (by kernel_rfl) ?_ _
        go_wp2_with fail
        go_roundg (gk - 1)
        case measure => have := HK.out; omega
        case rel =>
          refine ⟨by have := HK.out; omega, num_eq (by have := HK.out; omega), Lib.hid ?_, X13.out⟩
          rw [show n - (gk - 1) = k + 1 from by have := HK.out; omega, HT.out]
          exact HM4.out
      · go_simp
        refine hK.out _ _ (trivial) (fun hHeld => ?_); clear hK K; try simp only [Act.put, List.setIfInBounds_toArray, List.set_cons_zero, List.set_cons_succ]
        (refine' take_in 6 rfl (by kernel_rfl) (by kernel_rfl) (by kernel_rfl) (fun _ _ _ h => h) (by rfl) (by assumption) ?_ ?_; rotate_left; focus (intro w hSw; (try dsimp only at hSw); go_simp; try with_reducible rfl)); try simp only [Act.put, List.setIfInBounds_toArray, List.set_cons_zero, List.set_cons_succ]
        refine' next_in 3 rfl (by kernel_rfl) (by rfl) (fun K hK => ?_)
        go_simp
        refine hK.out _ _ (trivial) (fun hHeld => ?_); clear hK K; try simp only [Act.put, List.setIfInBounds_toArray, List.set_cons_zero, List.set_cons_succ]
        (refine' take_in 4 rfl (by kernel_rfl) (by kernel_rfl) (by kernel_rfl) (fun _ _ _ h => h) (by rfl) (by assumption) ?_ ?_; rotate_left; focus (intro w hSw; (try dsimp only at hSw); go_simp; try with_reducible rfl)); try simp only [Act.put, List.setIfInBounds_toArray, List.set_cons_zero, List.set_cons_succ]
        refine' next_in 7 rfl (by kernel_rfl) (by rfl) (fun K hK => ?_)
        go_simp
        refine hK.out _ _ (trivial) (fun hHeld => ?_); clear hK K; try simp only [Act.put, List.setIfInBounds_toArray, List.set_cons_zero, List.set_cons_succ]
        refine wpAnyH_done (by kernel_rfl) ?_ _
        go_wp2_with fail
        go_roundg (gk - 1)
        case measure => have := HK.out; omega
        case rel =>
          refine ⟨by have := HK.out; omega, num_eq (by have := HK.out; omega), Lib.hid ?_, X13.out⟩
          rw [show n - (gk - 1) = k + 1 from by have := HK.out; omega, HT.out]
          exact HM4.out
set_option maxRecDepth 100000 in
set_option maxHeartbeats 4000000 in
theorem hopCount_any (A : Option Addr) (n c : Nat) (l : List (Int × Int × Int × Int)) (ow sr d : Int) (w : World) (h : Sl w 4 A n c (l.flatMap hopC)) (hn : n < 1099511627776) (hw : ∀ x ∈ l, Fits .i64 x.1 ∧ Fits .i64 x.2.1 ∧ Fits .i64 x.2.2.1) (f0 : Fits .i64 ow) (f1 : Fits .i64 sr) (f2 : Fits .i64 d) :
    Calls Try.prog 21 #[.slice A n c, .int .i64 ow, .int .i64 sr, .int .i64 d] w fun e w' => e = .returned (.int .i64 (cntL l ow sr d)) ∧ Ext w w' := by
  have HS := Lib.hid h
  have HW := Lib.hid hw
  clear h hw
  go_enter Try.func21, Try.ntmps21
  go_wp2_with fail
  (with_reducible refine (hopCounts_any A n c l _ HS.out hn HW.out).mono ?_)
  rintro e w1 ⟨rfl, hC, hx⟩
  have hrun := CntW.look hC (keyW_wf f0) (keyW_wf f1) (keyW_wf f2)
  have X1 := Lib.hid hx
  clear hC hx
  go_wp2
  go_ret
  exact ⟨rfl, X1.out⟩
end
section
open Go.RowKit Go.ChangeShapes Go.WideShapes Go.Deep Go.Joins
theorem OwnHop.lower {w : World} {base b' n : Nat} {v : Value} {l : List (Int × Int × Int × Int)} (h : OwnHop w base v n l) (hb : b' ≤ base) : OwnHop w b' v n l := by
  obtain ⟨h1, h2⟩ := h
  refine ⟨h1, ?_⟩
  rcases h2 with h2 | ⟨g, cap, cur, e, hbg, hr⟩
  · exact Or.inl h2
  · exact Or.inr ⟨g, cap, cur, e, by omega, hr⟩
/-- hops handed back, and values behind them -/
def RetHopV (r : List (Int × Int × Int × Int)) (xs : List Value) (w : World) (e : Ending) (w' : World) : Prop := ∃ A c, e = .returned (.tuple (.slice A r.length c :: xs).toArray) ∧ (A = none → c = 0) ∧ OwnHop w' w.heap.size (.slice A r.length c) r.length r ∧ Ext w w'
theorem RetHopV.nil {xs : List Value} {w w' : World} (hx : Ext w w') : RetHopV [] xs w (.returned (.tuple (.slice none 0 0 :: xs).toArray)) w' := ⟨none, 0, rfl, fun _ => rfl, OwnHop.nil _ _, hx⟩
theorem RetHopV.mk {r : List (Int × Int × Int × Int)} {n : Nat} {xs : List Value} {v : Value} {w w' : World} (h : OwnHop w' w.heap.size v n r) (hx : Ext w w') (hn : n = r.length) : RetHopV r xs w (.returned (.tuple (v :: xs).toArray)) w' := by
  subst hn
  obtain ⟨A, c, rfl, h1, h2⟩ := own_parts2 h
  exact ⟨A, c, rfl, h1, h, hx⟩
/-- why a list may not have one more -/
def addE (l : List (Int × Int × Int × Int)) (x : (Int × Int × Int × Int)) (mo : Int) : Int :=
  if (chkH l).1 ≠ 0 then (chkH l).1 else if mayV x l = 3 ∨ mo < 1 ∨ mo > 16 then 3 else if mayV x l ≠ 0 then mayV x l else if mo ≤ cntL l x.1 x.2.1 x.2.2.1 then 22 else if 4096 ≤ l.length then 4 else 0
def addV (l : List (Int × Int × Int × Int)) (x : (Int × Int × Int × Int)) (mo : Int) : List (Int × Int × Int × Int) × Int := if addE l x mo = 0 then (l ++ [x], 0) else ([], addE l x mo)
theorem hopCounts_ex (A : Option Addr) (n c : Nat) (l : List (Int × Int × Int × Int)) (w : World) (h : Sl w 4 A n c (l.flatMap hopC)) (hn : n < 1099511627776) (hw : ∀ x ∈ l, Fits .i64 x.1 ∧ Fits .i64 x.2.1 ∧ Fits .i64 x.2.2.1) :
    Calls Try.prog 91 #[.slice A n c] w fun e w' => ∃ bm, e = .returned (.map (some bm)) ∧ (CntW w' bm n l ∧ Ext w w') := by
  refine (hopCounts_any A n c l w h hn hw).mono ?_
  rintro e w' ⟨h1, h2, h3⟩
  exact ⟨_, h1, h2, h3⟩
/-- what a hop's numbers and a list's are -/
def FitsH (x : (Int × Int × Int × Int)) : Prop := Fits .i64 x.1 ∧ Fits .i64 x.2.1 ∧ Fits .i64 x.2.2.1 ∧ Fits .i64 x.2.2.2
theorem fits_t {l : List (Int × Int × Int × Int)} (h : ∀ x ∈ l, FitsH x) : ∀ x ∈ l, Fits .i64 x.2.2.2 := fun x hx => (h x hx).2.2.2
theorem fits_k {l : List (Int × Int × Int × Int)} (h : ∀ x ∈ l, FitsH x) : ∀ x ∈ l, Fits .i64 x.1 ∧ Fits .i64 x.2.1 ∧ Fits .i64 x.2.2.1 := fun x hx => ⟨(h x hx).1, (h x hx).2.1, (h x hx).2.2.1⟩
theorem fits_x {x0 x1 x2 x3 : Int} (h : FitsH (x0, x1, x2, x3)) : Fits .i64 x0 ∧ Fits .i64 x1 ∧ Fits .i64 x2 ∧ Fits .i64 x3 := h
set_option maxRecDepth 100000 in
set_option maxHeartbeats 4000000 in
theorem hopAdd_chk (A : Option Addr) (n c : Nat) (l : List (Int × Int × Int × Int)) (x0 x1 x2 x3 mo f1 f2 mv cv : Int) (w : World) (h : Sl w 4 A n c (l.flatMap hopC)) (hn : n < 1099511627776) (hw : ∀ x ∈ l, FitsH x) (hfx : FitsH (x0, x1, x2, x3)) (hf : (f1, f2) = chkH l) (hm : mv = mayV (x0, x1, x2, x3) l) (hv : cv = cntL l x0 x1 x2) (hc : f1 ≠ 0) :
    Calls Try.prog 23 #[.slice A n c, .agg #[.int .i64 x0, .int .i64 x1, .int .i64 x2, .int .i64 x3], .int .i64 mo] w (RetHopV [] [.int .i64 f1] w) := by
  have hl := h.rlen hopC_len (by decide)
  have s1 := h.small
  have e0 : (f1 != 0) = true := by simpa using hc
  have HS := Lib.hid h
  have HW := Lib.hid hw
  have HX := Lib.hid hfx
  have HF := Lib.hid hf
  have HM := Lib.hid hm
  have HV := Lib.hid hv
  clear h hw hfx hf hm hv hl
  go_enter Try.func23, Try.ntmps23
  go_wp2_with fail
  (with_reducible refine (hopCheck_ev A n c l f1 f2 _ (HS.out.ext (by repeat (first | with_reducible exact Ext.refl _ | with_reducible refine Ext.drew ?_ | with_reducible refine Ext.drewN ?_ _ | with_reducible refine Ext.alloc ?_ _ | with_reducible refine Ext.setCell ?_ (by first | omega | (simp; done) | (simp; omega)) _))) (fits_t HW.out) HF.out).mono ?_)
  rintro e w1 ⟨rfl, hx1⟩
  have z1 := hx1.size
  try simp at z1
  replace HS := Lib.hid (HS.out.ext (Ext.trans (by repeat (first | with_reducible exact Ext.refl _ | with_reducible refine Ext.drew ?_ | with_reducible refine Ext.drewN ?_ _ | with_reducible refine Ext.alloc ?_ _ | with_reducible refine Ext.setCell ?_ (by first | omega | (simp; done) | (simp; omega)) _)) hx1))
  have X1 : Hid (Ext w w1) := Lib.hid (Ext.trans (by repeat (first | with_reducible exact Ext.refl w | with_reducible refine Ext.drew ?_ | with_reducible refine Ext.drewN ?_ _ | with_reducible refine Ext.alloc ?_ _ | with_reducible refine Ext.setCell ?_ (by first | omega | (simp; done) | (simp; omega)) _)) hx1)
  clear hx1 z1
  go_wp2_with fail
  refine bodyPost_ret (v := .tuple #[.slice none 0 0, .int .i64 f1]) (by simp [results, Try.results23, go_sem, World.cell?_alloc_past]; try rfl) rfl (RetHopV.nil (xs := [.int .i64 f1]) ?_)
  exact (by repeat (first | with_reducible exact X1.out | with_reducible refine Ext.drew ?_ | with_reducible refine Ext.drewN ?_ _ | with_reducible refine Ext.alloc ?_ _ | with_reducible refine Ext.setCell ?_ (by first | omega | (simp; done) | (simp; omega)) _))
set_option maxRecDepth 100000 in
set_option maxHeartbeats 4000000 in
theorem hopAdd_rng (A : Option Addr) (n c : Nat) (l : List (Int × Int × Int × Int)) (x0 x1 x2 x3 mo f1 f2 mv cv : Int) (w : World) (h : Sl w 4 A n c (l.flatMap hopC)) (hn : n < 1099511627776) (hw : ∀ x ∈ l, FitsH x) (hfx : FitsH (x0, x1, x2, x3)) (hf : (f1, f2) = chkH l) (hm : mv = mayV (x0, x1, x2, x3) l) (hv : cv = cntL l x0 x1 x2) (hc : f1 = 0) (h3 : mv = 3) :
    Calls Try.prog 23 #[.slice A n c, .agg #[.int .i64 x0, .int .i64 x1, .int .i64 x2, .int .i64 x3], .int .i64 mo] w (RetHopV [] [.int .i64 3] w) := by
  have hl := h.rlen hopC_len (by decide)
  have s1 := h.small
  subst hc
  subst h3
  have HS := Lib.hid h
  have HW := Lib.hid hw
  have HX := Lib.hid hfx
  have HF := Lib.hid hf
  have HM := Lib.hid hm
  have HV := Lib.hid hv
  clear h hw hfx hf hm hv hl
  go_enter Try.func23, Try.ntmps23
  go_wp2_with fail
  (with_reducible refine (hopCheck_ev A n c l 0 f2 _ (HS.out.ext (by repeat (first | with_reducible exact Ext.refl _ | with_reducible refine Ext.drew ?_ | with_reducible refine Ext.drewN ?_ _ | with_reducible refine Ext.alloc ?_ _ | with_reducible refine Ext.setCell ?_ (by first | omega | (simp; done) | (simp; omega)) _))) (fits_t HW.out) HF.out).mono ?_)
  rintro e w1 ⟨rfl, hx1⟩
  have c0_0 : w1.cell? ⟨w.heap.size, 0, none⟩ = some (.int .i64 x0) := hx1.has (by first | fail | (simp [go_sem, World.cell?_alloc_past]; done))
  have c0_1 : w1.cell? ⟨w.heap.size, 1, none⟩ = some (.int .i64 x1) := hx1.has (by first | fail | (simp [go_sem, World.cell?_alloc_past]; done))
  have c0_2 : w1.cell? ⟨w.heap.size, 2, none⟩ = some (.int .i64 x2) := hx1.has (by first | fail | (simp [go_sem, World.cell?_alloc_past]; done))
  have c0_3 : w1.cell? ⟨w.heap.size, 3, none⟩ = some (.int .i64 x3) := hx1.has (by first | fail | (simp [go_sem, World.cell?_alloc_past]; done))
  have z1 := hx1.size
  try simp at z1
  have rc0 : w.heap.size < w1.heap.size := by omega
  have rc0a : w.heap.size < w1.heap.size + 1 := by omega
  have rc0b : w.heap.size < w1.heap.size + 1 + 1 := by omega
  have rc0c : w.heap.size < w1.heap.size + 1 + 1 + 1 := by omega
  have rc0n : ¬ w.heap.size = w1.heap.size := by omega
  replace HS := Lib.hid (HS.out.ext (Ext.trans (by repeat (first | with_reducible exact Ext.refl _ | with_reducible refine Ext.drew ?_ | with_reducible refine Ext.drewN ?_ _ | with_reducible refine Ext.alloc ?_ _ | with_reducible refine Ext.setCell ?_ (by first | omega | (simp; done) | (simp; omega)) _)) hx1))
  have X1 : Hid (Ext w w1) := Lib.hid (Ext.trans (by repeat (first | with_reducible exact Ext.refl w | with_reducible refine Ext.drew ?_ | with_reducible refine Ext.drewN ?_ _ | with_reducible refine Ext.alloc ?_ _ | with_reducible refine Ext.setCell ?_ (by first | omega | (simp; done) | (simp; omega)) _)) hx1)
  clear hx1 z1
  go_wp2_with fail
  (with_reducible refine (hopMay_ev x0 x1 x2 x3 3 A c n l _ (fits_x HX.out).2.2.2 (HS.out.ext (by repeat (first | with_reducible exact Ext.refl _ | with_reducible refine Ext.drew ?_ | with_reducible refine Ext.drewN ?_ _ | with_reducible refine Ext.alloc ?_ _ | with_reducible refine Ext.setCell ?_ (by first | omega | (simp; done) | (simp; omega)) _))) HM.out).mono ?_)
  rintro e w2 ⟨rfl, hx2⟩
  have z2 := hx2.size
  try simp at z2
  replace HS := Lib.hid (HS.out.ext (Ext.trans (by repeat (first | with_reducible exact Ext.refl _ | with_reducible refine Ext.drew ?_ | with_reducible refine Ext.drewN ?_ _ | with_reducible refine Ext.alloc ?_ _ | with_reducible refine Ext.setCell ?_ (by first | omega | (simp; done) | (simp; omega)) _)) hx2))
  have X2 : Hid (Ext w w2) := Lib.hid (Ext.trans (by repeat (first | with_reducible exact X1.out | with_reducible refine Ext.drew ?_ | with_reducible refine Ext.drewN ?_ _ | with_reducible refine Ext.alloc ?_ _ | with_reducible refine Ext.setCell ?_ (by first | omega | (simp; done) | (simp; omega)) _)) hx2)
  clear c0_0 c0_1 c0_3 c0_2 rc0 rc0a rc0b rc0c rc0n X1 hx2 z2
  go_wp2_with fail
  refine bodyPost_ret (v := .tuple #[.slice none 0 0, .int .i64 3]) (by simp [results, Try.results23, go_sem, World.cell?_alloc_past]; try rfl) rfl (RetHopV.nil (xs := [.int .i64 3]) ?_)
  exact (by repeat (first | with_reducible exact X2.out | with_reducible refine Ext.drew ?_ | with_reducible refine Ext.drewN ?_ _ | with_reducible refine Ext.alloc ?_ _ | with_reducible refine Ext.setCell ?_ (by first | omega | (simp; done) | (simp; omega)) _))
set_option maxRecDepth 100000 in
set_option maxHeartbeats 4000000 in
theorem hopAdd_lo (A : Option Addr) (n c : Nat) (l : List (Int × Int × Int × Int)) (x0 x1 x2 x3 mo f1 f2 mv cv : Int) (w : World) (h : Sl w 4 A n c (l.flatMap hopC)) (hn : n < 1099511627776) (hw : ∀ x ∈ l, FitsH x) (hfx : FitsH (x0, x1, x2, x3)) (hf : (f1, f2) = chkH l) (hm : mv = mayV (x0, x1, x2, x3) l) (hv : cv = cntL l x0 x1 x2) (hc : f1 = 0) (h3 : mv ≠ 3) (h4 : mo < 1) :
    Calls Try.prog 23 #[.slice A n c, .agg #[.int .i64 x0, .int .i64 x1, .int .i64 x2, .int .i64 x3], .int .i64 mo] w (RetHopV [] [.int .i64 3] w) := by
  have hl := h.rlen hopC_len (by decide)
  have s1 := h.small
  subst hc
  have e3 : (mv == 3) = false := by simpa using h3
  have HS := Lib.hid h
  have HW := Lib.hid hw
  have HX := Lib.hid hfx
  have HF := Lib.hid hf
  have HM := Lib.hid hm
  have HV := Lib.hid hv
  clear h hw hfx hf hm hv hl
  go_enter Try.func23, Try.ntmps23
  go_wp2_with fail
  (with_reducible refine (hopCheck_ev A n c l 0 f2 _ (HS.out.ext (by repeat (first | with_reducible exact Ext.refl _ | with_reducible refine Ext.drew ?_ | with_reducible refine Ext.drewN ?_ _ | with_reducible refine Ext.alloc ?_ _ | with_reducible refine Ext.setCell ?_ (by first | omega | (simp; done) | (simp; omega)) _))) (fits_t HW.out) HF.out).mono ?_)
  rintro e w1 ⟨rfl, hx1⟩
  have c0_0 : w1.cell? ⟨w.heap.size, 0, none⟩ = some (.int .i64 x0) := hx1.has (by first | fail | (simp [go_sem, World.cell?_alloc_past]; done))
  have c0_1 : w1.cell? ⟨w.heap.size, 1, none⟩ = some (.int .i64 x1) := hx1.has (by first | fail | (simp [go_sem, World.cell?_alloc_past]; done))
  have c0_2 : w1.cell? ⟨w.heap.size, 2, none⟩ = some (.int .i64 x2) := hx1.has (by first | fail | (simp [go_sem, World.cell?_alloc_past]; done))
  have c0_3 : w1.cell? ⟨w.heap.size, 3, none⟩ = some (.int .i64 x3) := hx1.has (by first | fail | (simp [go_sem, World.cell?_alloc_past]; done))
  have z1 := hx1.size
  try simp at z1
  have rc0 : w.heap.size < w1.heap.size := by omega
  have rc0a : w.heap.size < w1.heap.size + 1 := by omega
  have rc0b : w.heap.size < w1.heap.size + 1 + 1 := by omega
  have rc0c : w.heap.size < w1.heap.size + 1 + 1 + 1 := by omega
  have rc0n : ¬ w.heap.size = w1.heap.size := by omega
  replace HS := Lib.hid (HS.out.ext (Ext.trans (by repeat (first | with_reducible exact Ext.refl _ | with_reducible refine Ext.drew ?_ | with_reducible refine Ext.drewN ?_ _ | with_reducible refine Ext.alloc ?_ _ | with_reducible refine Ext.setCell ?_ (by first | omega | (simp; done) | (simp; omega)) _)) hx1))
  have X1 : Hid (Ext w w1) := Lib.hid (Ext.trans (by repeat (first | with_reducible exact Ext.refl w | with_reducible refine Ext.drew ?_ | with_reducible refine Ext.drewN ?_ _ | with_reducible refine Ext.alloc ?_ _ | with_reducible refine Ext.setCell ?_ (by first | omega | (simp; done) | (simp; omega)) _)) hx1)
  clear hx1 z1
  go_wp2_with fail
  (with_reducible refine (hopMay_ev x0 x1 x2 x3 mv A c n l _ (fits_x HX.out).2.2.2 (HS.out.ext (by repeat (first | with_reducible exact Ext.refl _ | with_reducible refine Ext.drew ?_ | with_reducible refine Ext.drewN ?_ _ | with_reducible refine Ext.alloc ?_ _ | with_reducible refine Ext.setCell ?_ (by first | omega | (simp; done) | (simp; omega)) _))) HM.out).mono ?_)
  rintro e w2 ⟨rfl, hx2⟩
  have z2 := hx2.size
  try simp at z2
  replace HS := Lib.hid (HS.out.ext (Ext.trans (by repeat (first | with_reducible exact Ext.refl _ | with_reducible refine Ext.drew ?_ | with_reducible refine Ext.drewN ?_ _ | with_reducible refine Ext.alloc ?_ _ | with_reducible refine Ext.setCell ?_ (by first | omega | (simp; done) | (simp; omega)) _)) hx2))
  have X2 : Hid (Ext w w2) := Lib.hid (Ext.trans (by repeat (first | with_reducible exact X1.out | with_reducible refine Ext.drew ?_ | with_reducible refine Ext.drewN ?_ _ | with_reducible refine Ext.alloc ?_ _ | with_reducible refine Ext.setCell ?_ (by first | omega | (simp; done) | (simp; omega)) _)) hx2)
  clear c0_0 c0_1 c0_3 c0_2 rc0 rc0a rc0b rc0c rc0n X1 hx2 z2
  go_wp2_with fail
  refine bodyPost_ret (v := .tuple #[.slice none 0 0, .int .i64 3]) (by simp [results, Try.results23, go_sem, World.cell?_alloc_past]; try rfl) rfl (RetHopV.nil (xs := [.int .i64 3]) ?_)
  exact (by repeat (first | with_reducible exact X2.out | with_reducible refine Ext.drew ?_ | with_reducible refine Ext.drewN ?_ _ | with_reducible refine Ext.alloc ?_ _ | with_reducible refine Ext.setCell ?_ (by first | omega | (simp; done) | (simp; omega)) _))
set_option maxRecDepth 100000 in
set_option maxHeartbeats 4000000 in
theorem hopAdd_hi (A : Option Addr) (n c : Nat) (l : List (Int × Int × Int × Int)) (x0 x1 x2 x3 mo f1 f2 mv cv : Int) (w : World) (h : Sl w 4 A n c (l.flatMap hopC)) (hn : n < 1099511627776) (hw : ∀ x ∈ l, FitsH x) (hfx : FitsH (x0, x1, x2, x3)) (hf : (f1, f2) = chkH l) (hm : mv = mayV (x0, x1, x2, x3) l) (hv : cv = cntL l x0 x1 x2) (hc : f1 = 0) (h3 : mv ≠ 3) (h4 : ¬ mo < 1) (h5 : mo > 16) :
    Calls Try.prog 23 #[.slice A n c, .agg #[.int .i64 x0, .int .i64 x1, .int .i64 x2, .int .i64 x3], .int .i64 mo] w (RetHopV [] [.int .i64 3] w) := by
  have hl := h.rlen hopC_len (by decide)
  have s1 := h.small
  subst hc
  have e3 : (mv == 3) = false := by simpa using h3
  have HS := Lib.hid h
  have HW := Lib.hid hw
  have HX := Lib.hid hfx
  have HF := Lib.hid hf
  have HM := Lib.hid hm
  have HV := Lib.hid hv
  clear h hw hfx hf hm hv hl
  go_enter Try.func23, Try.ntmps23
  go_wp2_with fail
  (with_reducible refine (hopCheck_ev A n c l 0 f2 _ (HS.out.ext (by repeat (first | with_reducible exact Ext.refl _ | with_reducible refine Ext.drew ?_ | with_reducible refine Ext.drewN ?_ _ | with_reducible refine Ext.alloc ?_ _ | with_reducible refine Ext.setCell ?_ (by first | omega | (simp; done) | (simp; omega)) _))) (fits_t HW.out) HF.out).mono ?_)
  rintro e w1 ⟨rfl, hx1⟩
  have c0_0 : w1.cell? ⟨w.heap.size, 0, none⟩ = some (.int .i64 x0) := hx1.has (by first | fail | (simp [go_sem, World.cell?_alloc_past]; done))
  have c0_1 : w1.cell? ⟨w.heap.size, 1, none⟩ = some (.int .i64 x1) := hx1.has (by first | fail | (simp [go_sem, World.cell?_alloc_past]; done))
  have c0_2 : w1.cell? ⟨w.heap.size, 2, none⟩ = some (.int .i64 x2) := hx1.has (by first | fail | (simp [go_sem, World.cell?_alloc_past]; done))
  have c0_3 : w1.cell? ⟨w.heap.size, 3, none⟩ = some (.int .i64 x3) := hx1.has (by first | fail | (simp [go_sem, World.cell?_alloc_past]; done))
  have z1 := hx1.size
  try simp at z1
  have rc0 : w.heap.size < w1.heap.size := by omega
  have rc0a : w.heap.size < w1.heap.size + 1 := by omega
  have rc0b : w.heap.size < w1.heap.size + 1 + 1 := by omega
  have rc0c : w.heap.size < w1.heap.size + 1 + 1 + 1 := by omega
  have rc0n : ¬ w.heap.size = w1.heap.size := by omega
  replace HS := Lib.hid (HS.out.ext (Ext.trans (by repeat (first | with_reducible exact Ext.refl _ | with_reducible refine Ext.drew ?_ | with_reducible refine Ext.drewN ?_ _ | with_reducible refine Ext.alloc ?_ _ | with_reducible refine Ext.setCell ?_ (by first | omega | (simp; done) | (simp; omega)) _)) hx1))
  have X1 : Hid (Ext w w1) := Lib.hid (Ext.trans (by repeat (first | with_reducible exact Ext.refl w | with_reducible refine Ext.drew ?_ | with_reducible refine Ext.drewN ?_ _ | with_reducible refine Ext.alloc ?_ _ | with_reducible refine Ext.setCell ?_ (by first | omega | (simp; done) | (simp; omega)) _)) hx1)
  clear hx1 z1
  go_wp2_with fail
  (with_reducible refine (hopMay_ev x0 x1 x2 x3 mv A c n l _ (fits_x HX.out).2.2.2 (HS.out.ext (by repeat (first | with_reducible exact Ext.refl _ | with_reducible refine Ext.drew ?_ | with_reducible refine Ext.drewN ?_ _ | with_reducible refine Ext.alloc ?_ _ | with_reducible refine Ext.setCell ?_ (by first | omega | (simp; done) | (simp; omega)) _))) HM.out).mono ?_)
  rintro e w2 ⟨rfl, hx2⟩
  have z2 := hx2.size
  try simp at z2
  replace HS := Lib.hid (HS.out.ext (Ext.trans (by repeat (first | with_reducible exact Ext.refl _ | with_reducible refine Ext.drew ?_ | with_reducible refine Ext.drewN ?_ _ | with_reducible refine Ext.alloc ?_ _ | with_reducible refine Ext.setCell ?_ (by first | omega | (simp; done) | (simp; omega)) _)) hx2))
  have X2 : Hid (Ext w w2) := Lib.hid (Ext.trans (by repeat (first | with_reducible exact X1.out | with_reducible refine Ext.drew ?_ | with_reducible refine Ext.drewN ?_ _ | with_reducible refine Ext.alloc ?_ _ | with_reducible refine Ext.setCell ?_ (by first | omega | (simp; done) | (simp; omega)) _)) hx2)
  clear c0_0 c0_1 c0_3 c0_2 rc0 rc0a rc0b rc0c rc0n X1 hx2 z2
  go_wp2_with fail
  refine bodyPost_ret (v := .tuple #[.slice none 0 0, .int .i64 3]) (by simp [results, Try.results23, go_sem, World.cell?_alloc_past]; try rfl) rfl (RetHopV.nil (xs := [.int .i64 3]) ?_)
  exact (by repeat (first | with_reducible exact X2.out | with_reducible refine Ext.drew ?_ | with_reducible refine Ext.drewN ?_ _ | with_reducible refine Ext.alloc ?_ _ | with_reducible refine Ext.setCell ?_ (by first | omega | (simp; done) | (simp; omega)) _))
set_option maxRecDepth 100000 in
set_option maxHeartbeats 4000000 in
theorem hopAdd_bad (A : Option Addr) (n c : Nat) (l : List (Int × Int × Int × Int)) (x0 x1 x2 x3 mo f1 f2 mv cv : Int) (w : World) (h : Sl w 4 A n c (l.flatMap hopC)) (hn : n < 1099511627776) (hw : ∀ x ∈ l, FitsH x) (hfx : FitsH (x0, x1, x2, x3)) (hf : (f1, f2) = chkH l) (hm : mv = mayV (x0, x1, x2, x3) l) (hv : cv = cntL l x0 x1 x2) (hc : f1 = 0) (h3 : mv ≠ 3) (h4 : ¬ mo < 1) (h5 : ¬ mo > 16) (h6 : mv ≠ 0) :
    Calls Try.prog 23 #[.slice A n c, .agg #[.int .i64 x0, .int .i64 x1, .int .i64 x2, .int .i64 x3], .int .i64 mo] w (RetHopV [] [.int .i64 mv] w) := by
  have hl := h.rlen hopC_len (by decide)
  have s1 := h.small
  subst hc
  have e3 : (mv == 3) = false := by simpa using h3
  have e6 : (mv != 0) = true := by simpa using h6
  have HS := Lib.hid h
  have HW := Lib.hid hw
  have HX := Lib.hid hfx
  have HF := Lib.hid hf
  have HM := Lib.hid hm
  have HV := Lib.hid hv
  clear h hw hfx hf hm hv hl
  go_enter Try.func23, Try.ntmps23
  go_wp2_with fail
  (with_reducible refine (hopCheck_ev A n c l 0 f2 _ (HS.out.ext (by repeat (first | with_reducible exact Ext.refl _ | with_reducible refine Ext.drew ?_ | with_reducible refine Ext.drewN ?_ _ | with_reducible refine Ext.alloc ?_ _ | with_reducible refine Ext.setCell ?_ (by first | omega | (simp; done) | (simp; omega)) _))) (fits_t HW.out) HF.out).mono ?_)
  rintro e w1 ⟨rfl, hx1⟩
  have c0_0 : w1.cell? ⟨w.heap.size, 0, none⟩ = some (.int .i64 x0) := hx1.has (by first | fail | (simp [go_sem, World.cell?_alloc_past]; done))
  have c0_1 : w1.cell? ⟨w.heap.size, 1, none⟩ = some (.int .i64 x1) := hx1.has (by first | fail | (simp [go_sem, World.cell?_alloc_past]; done))
  have c0_2 : w1.cell? ⟨w.heap.size, 2, none⟩ = some (.int .i64 x2) := hx1.has (by first | fail | (simp [go_sem, World.cell?_alloc_past]; done))
  have c0_3 : w1.cell? ⟨w.heap.size, 3, none⟩ = some (.int .i64 x3) := hx1.has (by first | fail | (simp [go_sem, World.cell?_alloc_past]; done))
  have z1 := hx1.size
  try simp at z1
  have rc0 : w.heap.size < w1.heap.size := by omega
  have rc0a : w.heap.size < w1.heap.size + 1 := by omega
  have rc0b : w.heap.size < w1.heap.size + 1 + 1 := by omega
  have rc0c : w.heap.size < w1.heap.size + 1 + 1 + 1 := by omega
  have rc0n : ¬ w.heap.size = w1.heap.size := by omega
  replace HS := Lib.hid (HS.out.ext (Ext.trans (by repeat (first | with_reducible exact Ext.refl _ | with_reducible refine Ext.drew ?_ | with_reducible refine Ext.drewN ?_ _ | with_reducible refine Ext.alloc ?_ _ | with_reducible refine Ext.setCell ?_ (by first | omega | (simp; done) | (simp; omega)) _)) hx1))
  have X1 : Hid (Ext w w1) := Lib.hid (Ext.trans (by repeat (first | with_reducible exact Ext.refl w | with_reducible refine Ext.drew ?_ | with_reducible refine Ext.drewN ?_ _ | with_reducible refine Ext.alloc ?_ _ | with_reducible refine Ext.setCell ?_ (by first | omega | (simp; done) | (simp; omega)) _)) hx1)
  clear hx1 z1
  go_wp2_with fail
  (with_reducible refine (hopMay_ev x0 x1 x2 x3 mv A c n l _ (fits_x HX.out).2.2.2 (HS.out.ext (by repeat (first | with_reducible exact Ext.refl _ | with_reducible refine Ext.drew ?_ | with_reducible refine Ext.drewN ?_ _ | with_reducible refine Ext.alloc ?_ _ | with_reducible refine Ext.setCell ?_ (by first | omega | (simp; done) | (simp; omega)) _))) HM.out).mono ?_)
  rintro e w2 ⟨rfl, hx2⟩
  have z2 := hx2.size
  try simp at z2
  replace HS := Lib.hid (HS.out.ext (Ext.trans (by repeat (first | with_reducible exact Ext.refl _ | with_reducible refine Ext.drew ?_ | with_reducible refine Ext.drewN ?_ _ | with_reducible refine Ext.alloc ?_ _ | with_reducible refine Ext.setCell ?_ (by first | omega | (simp; done) | (simp; omega)) _)) hx2))
  have X2 : Hid (Ext w w2) := Lib.hid (Ext.trans (by repeat (first | with_reducible exact X1.out | with_reducible refine Ext.drew ?_ | with_reducible refine Ext.drewN ?_ _ | with_reducible refine Ext.alloc ?_ _ | with_reducible refine Ext.setCell ?_ (by first | omega | (simp; done) | (simp; omega)) _)) hx2)
  clear c0_0 c0_1 c0_3 c0_2 rc0 rc0a rc0b rc0c rc0n X1 hx2 z2
  go_wp2_with fail
  refine bodyPost_ret (v := .tuple #[.slice none 0 0, .int .i64 mv]) (by simp [results, Try.results23, go_sem, World.cell?_alloc_past]; try rfl) rfl (RetHopV.nil (xs := [.int .i64 mv]) ?_)
  exact (by repeat (first | with_reducible exact X2.out | with_reducible refine Ext.drew ?_ | with_reducible refine Ext.drewN ?_ _ | with_reducible refine Ext.alloc ?_ _ | with_reducible refine Ext.setCell ?_ (by first | omega | (simp; done) | (simp; omega)) _))
set_option maxRecDepth 100000 in
set_option maxHeartbeats 4000000 in
theorem hopAdd_cap (A : Option Addr) (n c : Nat) (l : List (Int × Int × Int × Int)) (x0 x1 x2 x3 mo f1 f2 mv cv : Int) (w : World) (h : Sl w 4 A n c (l.flatMap hopC)) (hn : n < 1099511627776) (hw : ∀ x ∈ l, FitsH x) (hfx : FitsH (x0, x1, x2, x3)) (hf : (f1, f2) = chkH l) (hm : mv = mayV (x0, x1, x2, x3) l) (hv : cv = cntL l x0 x1 x2) (hc : f1 = 0) (h3 : mv ≠ 3) (h4 : ¬ mo < 1) (h5 : ¬ mo > 16) (h6 : mv = 0) (h7 : cv ≥ mo) :
    Calls Try.prog 23 #[.slice A n c, .agg #[.int .i64 x0, .int .i64 x1, .int .i64 x2, .int .i64 x3], .int .i64 mo] w (RetHopV [] [.int .i64 22] w) := by
  have hl := h.rlen hopC_len (by decide)
  have s1 := h.small
  subst hc
  subst h6
  have HS := Lib.hid h
  have HW := Lib.hid hw
  have HX := Lib.hid hfx
  have HF := Lib.hid hf
  have HM := Lib.hid hm
  have HV := Lib.hid hv
  clear h hw hfx hf hm hv hl
  go_enter Try.func23, Try.ntmps23
  go_wp2_with fail
  (with_reducible refine (hopCheck_ev A n c l 0 f2 _ (HS.out.ext (by repeat (first | with_reducible exact Ext.refl _ | with_reducible refine Ext.drew ?_ | with_reducible refine Ext.drewN ?_ _ | with_reducible refine Ext.alloc ?_ _ | with_reducible refine Ext.setCell ?_ (by first | omega | (simp; done) | (simp; omega)) _))) (fits_t HW.out) HF.out).mono ?_)
  rintro e w1 ⟨rfl, hx1⟩
  have c0_0 : w1.cell? ⟨w.heap.size, 0, none⟩ = some (.int .i64 x0) := hx1.has (by first | fail | (simp [go_sem, World.cell?_alloc_past]; done))
  have c0_1 : w1.cell? ⟨w.heap.size, 1, none⟩ = some (.int .i64 x1) := hx1.has (by first | fail | (simp [go_sem, World.cell?_alloc_past]; done))
  have c0_2 : w1.cell? ⟨w.heap.size, 2, none⟩ = some (.int .i64 x2) := hx1.has (by first | fail | (simp [go_sem, World.cell?_alloc_past]; done))
  have c0_3 : w1.cell? ⟨w.heap.size, 3, none⟩ = some (.int .i64 x3) := hx1.has (by first | fail | (simp [go_sem, World.cell?_alloc_past]; done))
  have z1 := hx1.size
  try simp at z1
  have rc0 : w.heap.size < w1.heap.size := by omega
  have rc0a : w.heap.size < w1.heap.size + 1 := by omega
  have rc0b : w.heap.size < w1.heap.size + 1 + 1 := by omega
  have rc0c : w.heap.size < w1.heap.size + 1 + 1 + 1 := by omega
  have rc0n : ¬ w.heap.size = w1.heap.size := by omega
  replace HS := Lib.hid (HS.out.ext (Ext.trans (by repeat (first | with_reducible exact Ext.refl _ | with_reducible refine Ext.drew ?_ | with_reducible refine Ext.drewN ?_ _ | with_reducible refine Ext.alloc ?_ _ | with_reducible refine Ext.setCell ?_ (by first | omega | (simp; done) | (simp; omega)) _)) hx1))
  have X1 : Hid (Ext w w1) := Lib.hid (Ext.trans (by repeat (first | with_reducible exact Ext.refl w | with_reducible refine Ext.drew ?_ | with_reducible refine Ext.drewN ?_ _ | with_reducible refine Ext.alloc ?_ _ | with_reducible refine Ext.setCell ?_ (by first | omega | (simp; done) | (simp; omega)) _)) hx1)
  clear hx1 z1
  go_wp2_with fail
  (with_reducible refine (hopMay_ev x0 x1 x2 x3 0 A c n l _ (fits_x HX.out).2.2.2 (HS.out.ext (by repeat (first | with_reducible exact Ext.refl _ | with_reducible refine Ext.drew ?_ | with_reducible refine Ext.drewN ?_ _ | with_reducible refine Ext.alloc ?_ _ | with_reducible refine Ext.setCell ?_ (by first | omega | (simp; done) | (simp; omega)) _))) HM.out).mono ?_)
  rintro e w2 ⟨rfl, hx2⟩
  replace c0_0 : w2.cell? ⟨w.heap.size, 0, none⟩ = some (.int .i64 x0) := hx2.has (by first | exact c0_0 | (simp [go_sem, World.cell?_alloc_past, c0_0, c0_1, c0_2, c0_3, rc0, rc0a, rc0b, rc0c, rc0n]; done))
  replace c0_1 : w2.cell? ⟨w.heap.size, 1, none⟩ = some (.int .i64 x1) := hx2.has (by first | exact c0_1 | (simp [go_sem, World.cell?_alloc_past, c0_0, c0_1, c0_2, c0_3, rc0, rc0a, rc0b, rc0c, rc0n]; done))
  replace c0_2 : w2.cell? ⟨w.heap.size, 2, none⟩ = some (.int .i64 x2) := hx2.has (by first | exact c0_2 | (simp [go_sem, World.cell?_alloc_past, c0_0, c0_1, c0_2, c0_3, rc0, rc0a, rc0b, rc0c, rc0n]; done))
  replace c0_3 : w2.cell? ⟨w.heap.size, 3, none⟩ = some (.int .i64 x3) := hx2.has (by first | exact c0_3 | (simp [go_sem, World.cell?_alloc_past, c0_0, c0_1, c0_2, c0_3, rc0, rc0a, rc0b, rc0c, rc0n]; done))
  have z2 := hx2.size
  try simp at z2
  replace rc0 : w.heap.size < w2.heap.size := by omega
  replace rc0a : w.heap.size < w2.heap.size + 1 := by omega
  replace rc0b : w.heap.size < w2.heap.size + 1 + 1 := by omega
  replace rc0c : w.heap.size < w2.heap.size + 1 + 1 + 1 := by omega
  replace rc0n : ¬ w.heap.size = w2.heap.size := by omega
  replace HS := Lib.hid (HS.out.ext (Ext.trans (by repeat (first | with_reducible exact Ext.refl _ | with_reducible refine Ext.drew ?_ | with_reducible refine Ext.drewN ?_ _ | with_reducible refine Ext.alloc ?_ _ | with_reducible refine Ext.setCell ?_ (by first | omega | (simp; done) | (simp; omega)) _)) hx2))
  have X2 : Hid (Ext w w2) := Lib.hid (Ext.trans (by repeat (first | with_reducible exact X1.out | with_reducible refine Ext.drew ?_ | with_reducible refine Ext.drewN ?_ _ | with_reducible refine Ext.alloc ?_ _ | with_reducible refine Ext.setCell ?_ (by first | omega | (simp; done) | (simp; omega)) _)) hx2)
  clear X1 hx2 z2
  go_wp2_with fail
  refine wp_region_held_drew (S := fun w' => w'.cell? ⟨w.heap.size, 0, none⟩ = some (.int .i64 x0) ∧ w'.cell? ⟨w.heap.size, 1, none⟩ = some (.int .i64 x1) ∧ w'.cell? ⟨w.heap.size, 2, none⟩ = some (.int .i64 x2) ∧ w'.cell? ⟨w.heap.size, 3, none⟩ = some (.int .i64 x3)) (by kernel_rfl) (by first | exact ⟨c0_0, c0_1, c0_2, c0_3⟩ | (simp [go_sem, World.cell?_alloc_past, c0_0, c0_1, c0_2, c0_3, rc0, rc0a, rc0b, rc0c, rc0n]; done)) (fun hHeld => ?_)
  (refine' take_in 0 rfl (by kernel_rfl) (by kernel_rfl) (by kernel_rfl) (fun _ _ _ h => h) (by rfl) (by assumption) ?_ ?_; rotate_left; focus (intro w hSw; (try dsimp only at hSw); go_simp; try with_reducible rfl)); try simp only [Act.put, List.setIfInBounds_toArray, List.set_cons_zero, List.set_cons_succ]
  (refine' take_in 2 rfl (by kernel_rfl) (by kernel_rfl) (by kernel_rfl) (fun _ _ _ h => h) (by rfl) (by assumption) ?_ ?_; rotate_left; focus (intro w hSw; (try dsimp only at hSw); go_simp; try with_reducible rfl)); try simp only [Act.put, List.setIfInBounds_toArray, List.set_cons_zero, List.set_cons_succ]
  (refine' take_in 5 rfl (by kernel_rfl) (by kernel_rfl) (by kernel_rfl) (fun _ _ _ h => h) (by rfl) (by assumption) ?_ ?_; rotate_left; focus (intro w hSw; (try dsimp only at hSw); go_simp; try with_reducible rfl)); try simp only [Act.put, List.setIfInBounds_toArray, List.set_cons_zero, List.set_cons_succ]
  refine' next_in 1 rfl (by kernel_rfl) (by rfl) (fun K hK => ?_)
  go_simp
  (with_reducible refine (hopCounts_ex A n c l _ (HS.out.ext (by repeat (first | with_reducible exact Ext.refl _ | with_reducible refine Ext.drew ?_ | with_reducible refine Ext.drewN ?_ _ | with_reducible refine Ext.alloc ?_ _ | with_reducible refine Ext.setCell ?_ (by first | omega | (simp; done) | (simp; omega)) _))) hn (fits_k HW.out)).mono ?_)
  rintro e w3 ⟨bm, rfl, hC, hx3⟩
  replace c0_0 : w3.cell? ⟨w.heap.size, 0, none⟩ = some (.int .i64 x0) := hx3.has (by first | exact c0_0 | (simp [go_sem, World.cell?_alloc_past, c0_0, c0_1, c0_2, c0_3, rc0, rc0a, rc0b, rc0c, rc0n]; done))
  replace c0_1 : w3.cell? ⟨w.heap.size, 1, none⟩ = some (.int .i64 x1) := hx3.has (by first | exact c0_1 | (simp [go_sem, World.cell?_alloc_past, c0_0, c0_1, c0_2, c0_3, rc0, rc0a, rc0b, rc0c, rc0n]; done))
  replace c0_2 : w3.cell? ⟨w.heap.size, 2, none⟩ = some (.int .i64 x2) := hx3.has (by first | exact c0_2 | (simp [go_sem, World.cell?_alloc_past, c0_0, c0_1, c0_2, c0_3, rc0, rc0a, rc0b, rc0c, rc0n]; done))
  replace c0_3 : w3.cell? ⟨w.heap.size, 3, none⟩ = some (.int .i64 x3) := hx3.has (by first | exact c0_3 | (simp [go_sem, World.cell?_alloc_past, c0_0, c0_1, c0_2, c0_3, rc0, rc0a, rc0b, rc0c, rc0n]; done))
  have z3 := hx3.size
  try simp at z3
  replace rc0 : w.heap.size < w3.heap.size := by omega
  replace rc0a : w.heap.size < w3.heap.size + 1 := by omega
  replace rc0b : w.heap.size < w3.heap.size + 1 + 1 := by omega
  replace rc0c : w.heap.size < w3.heap.size + 1 + 1 + 1 := by omega
  replace rc0n : ¬ w.heap.size = w3.heap.size := by omega
  replace HS := Lib.hid (HS.out.ext (Ext.trans (by repeat (first | with_reducible exact Ext.refl _ | with_reducible refine Ext.drew ?_ | with_reducible refine Ext.drewN ?_ _ | with_reducible refine Ext.alloc ?_ _ | with_reducible refine Ext.setCell ?_ (by first | omega | (simp; done) | (simp; omega)) _)) hx3))
  have X3 : Hid (Ext w w3) := Lib.hid (Ext.trans (by repeat (first | with_reducible exact X2.out | with_reducible refine Ext.drew ?_ | with_reducible refine Ext.drewN ?_ _ | with_reducible refine Ext.alloc ?_ _ | with_reducible refine Ext.setCell ?_ (by first | omega | (simp; done) | (simp; omega)) _)) hx3)
  have HC := Lib.hid hC
  clear X2 hx3 z3 hC
  refine hK.out _ _ (by (first | exact ⟨c0_0, c0_1, c0_2, c0_3⟩ | (simp [go_sem, World.cell?_alloc_past, c0_0, c0_1, c0_2, c0_3, rc0, rc0a, rc0b, rc0c, rc0n]; done))) (fun hHeld => ?_); clear hK K; try simp only [Act.put, List.setIfInBounds_toArray, List.set_cons_zero, List.set_cons_succ]
  refine' next_in 3 rfl (by kernel_rfl) (by rfl) (fun K hK => ?_)
  go_simp
  (with_reducible refine (hopOf_any x0 x1 x2 x3 _).mono ?_)
  rintro e w4 ⟨rfl, hx4⟩
  replace c0_0 : w4.cell? ⟨w.heap.size, 0, none⟩ = some (.int .i64 x0) := hx4.has (by first | exact c0_0 | (simp [go_sem, World.cell?_alloc_past, c0_0, c0_1, c0_2, c0_3, rc0, rc0a, rc0b, rc0c, rc0n]; done))
  replace c0_1 : w4.cell? ⟨w.heap.size, 1, none⟩ = some (.int .i64 x1) := hx4.has (by first | exact c0_1 | (simp [go_sem, World.cell?_alloc_past, c0_0, c0_1, c0_2, c0_3, rc0, rc0a, rc0b, rc0c, rc0n]; done))
  replace c0_2 : w4.cell? ⟨w.heap.size, 2, none⟩ = some (.int .i64 x2) := hx4.has (by first | exact c0_2 | (simp [go_sem, World.cell?_alloc_past, c0_0, c0_1, c0_2, c0_3, rc0, rc0a, rc0b, rc0c, rc0n]; done))
  replace c0_3 : w4.cell? ⟨w.heap.size, 3, none⟩ = some (.int .i64 x3) := hx4.has (by first | exact c0_3 | (simp [go_sem, World.cell?_alloc_past, c0_0, c0_1, c0_2, c0_3, rc0, rc0a, rc0b, rc0c, rc0n]; done))
  have z4 := hx4.size
  try simp at z4
  replace rc0 : w.heap.size < w4.heap.size := by omega
  replace rc0a : w.heap.size < w4.heap.size + 1 := by omega
  replace rc0b : w.heap.size < w4.heap.size + 1 + 1 := by omega
  replace rc0c : w.heap.size < w4.heap.size + 1 + 1 + 1 := by omega
  replace rc0n : ¬ w.heap.size = w4.heap.size := by omega
  replace HS := Lib.hid (HS.out.ext (Ext.trans (by repeat (first | with_reducible exact Ext.refl _ | with_reducible refine Ext.drew ?_ | with_reducible refine Ext.drewN ?_ _ | with_reducible refine Ext.alloc ?_ _ | with_reducible refine Ext.setCell ?_ (by first | omega | (simp; done) | (simp; omega)) _)) hx4))
  replace HC := Lib.hid (HC.out.ext (Ext.trans (by repeat (first | with_reducible exact Ext.refl _ | with_reducible refine Ext.drew ?_ | with_reducible refine Ext.drewN ?_ _ | with_reducible refine Ext.alloc ?_ _ | with_reducible refine Ext.setCell ?_ (by first | omega | (simp; done) | (simp; omega)) _)) hx4))
  have X4 : Hid (Ext w w4) := Lib.hid (Ext.trans (by repeat (first | with_reducible exact X3.out | with_reducible refine Ext.drew ?_ | with_reducible refine Ext.drewN ?_ _ | with_reducible refine Ext.alloc ?_ _ | with_reducible refine Ext.setCell ?_ (by first | omega | (simp; done) | (simp; omega)) _)) hx4)
  clear X3 hx4 z4
  have hrun4 := CntW.look HC.out (keyW_wf (fits_x HX.out).1) (keyW_wf (fits_x HX.out).2.1) (keyW_wf (fits_x HX.out).2.2.1)
  rw [← HV.out] at hrun4
  refine hK.out _ _ (by (first | exact ⟨c0_0, c0_1, c0_2, c0_3⟩ | (simp [go_sem, World.cell?_alloc_past, c0_0, c0_1, c0_2, c0_3, rc0, rc0a, rc0b, rc0c, rc0n]; done))) (fun hHeld => ?_); clear hK K; try simp only [Act.put, List.setIfInBounds_toArray, List.set_cons_zero, List.set_cons_succ]
  refine' next_in 4 rfl (by kernel_rfl) (by rfl) (fun K hK => ?_)
  go_simp
  refine hK.out _ _ (by (first | exact ⟨c0_0, c0_1, c0_2, c0_3⟩ | (simp [go_sem, World.cell?_alloc_past, c0_0, c0_1, c0_2, c0_3, rc0, rc0a, rc0b, rc0c, rc0n]; done))) (fun hHeld => ?_); clear hK K; try simp only [Act.put, List.setIfInBounds_toArray, List.set_cons_zero, List.set_cons_succ]
  (refine' take_in 6 rfl (by kernel_rfl) (by kernel_rfl) (by kernel_rfl) (fun _ _ _ h => h) (by rfl) (by assumption) ?_ ?_; rotate_left; focus (intro w hSw; (try dsimp only at hSw); go_simp; try with_reducible rfl)); try simp only [Act.put, List.setIfInBounds_toArray, List.set_cons_zero, List.set_cons_succ]
  (refine' take_in 7 rfl (by kernel_rfl) (by kernel_rfl) (by kernel_rfl) (fun _ _ _ h => h) (by rfl) (by assumption) ?_ ?_; rotate_left; focus (intro w hSw; (try dsimp only at hSw); go_simp; try with_reducible rfl)); try simp only [Act.put, List.setIfInBounds_toArray, List.set_cons_zero, List.set_cons_succ]
  refine wpAnyH_done (by kernel_rfl) ?_ _
  go_wp2_with fail
  refine bodyPost_ret (v := .tuple #[.slice none 0 0, .int .i64 22]) (by simp [results, Try.results23, go_sem, World.cell?_alloc_past, c0_0, c0_1, c0_2, c0_3, rc0, rc0a, rc0b, rc0c, rc0n]; try rfl) rfl (RetHopV.nil (xs := [.int .i64 22]) ?_)
  exact (by repeat (first | with_reducible exact X4.out | with_reducible refine Ext.drew ?_ | with_reducible refine Ext.drewN ?_ _ | with_reducible refine Ext.alloc ?_ _ | with_reducible refine Ext.setCell ?_ (by first | omega | (simp; done) | (simp; omega)) _))
set_option maxRecDepth 100000 in
set_option maxHeartbeats 4000000 in
theorem hopAdd_long (A : Option Addr) (n c : Nat) (l : List (Int × Int × Int × Int)) (x0 x1 x2 x3 mo f1 f2 mv cv : Int) (w : World) (h : Sl w 4 A n c (l.flatMap hopC)) (hn : n < 1099511627776) (hw : ∀ x ∈ l, FitsH x) (hfx : FitsH (x0, x1, x2, x3)) (hf : (f1, f2) = chkH l) (hm : mv = mayV (x0, x1, x2, x3) l) (hv : cv = cntL l x0 x1 x2) (hc : f1 = 0) (h3 : mv ≠ 3) (h4 : ¬ mo < 1) (h5 : ¬ mo > 16) (h6 : mv = 0) (h7 : ¬ cv ≥ mo) (h8 : 4096 ≤ n) :
    Calls Try.prog 23 #[.slice A n c, .agg #[.int .i64 x0, .int .i64 x1, .int .i64 x2, .int .i64 x3], .int .i64 mo] w (RetHopV [] [.int .i64 4] w) := by
  have hl := h.rlen hopC_len (by decide)
  have s1 := h.small
  subst hc
  subst h6
  have h9 : (n : Int) ≥ 4096 := by omega
  have HS := Lib.hid h
  have HW := Lib.hid hw
  have HX := Lib.hid hfx
  have HF := Lib.hid hf
  have HM := Lib.hid hm
  have HV := Lib.hid hv
  clear h hw hfx hf hm hv hl
  go_enter Try.func23, Try.ntmps23
  go_wp2_with fail
  (with_reducible refine (hopCheck_ev A n c l 0 f2 _ (HS.out.ext (by repeat (first | with_reducible exact Ext.refl _ | with_reducible refine Ext.drew ?_ | with_reducible refine Ext.drewN ?_ _ | with_reducible refine Ext.alloc ?_ _ | with_reducible refine Ext.setCell ?_ (by first | omega | (simp; done) | (simp; omega)) _))) (fits_t HW.out) HF.out).mono ?_)
  rintro e w1 ⟨rfl, hx1⟩
  have c0_0 : w1.cell? ⟨w.heap.size, 0, none⟩ = some (.int .i64 x0) := hx1.has (by first | fail | (simp [go_sem, World.cell?_alloc_past]; done))
  have c0_1 : w1.cell? ⟨w.heap.size, 1, none⟩ = some (.int .i64 x1) := hx1.has (by first | fail | (simp [go_sem, World.cell?_alloc_past]; done))
  have c0_2 : w1.cell? ⟨w.heap.size, 2, none⟩ = some (.int .i64 x2) := hx1.has (by first | fail | (simp [go_sem, World.cell?_alloc_past]; done))
  have c0_3 : w1.cell? ⟨w.heap.size, 3, none⟩ = some (.int .i64 x3) := hx1.has (by first | fail | (simp [go_sem, World.cell?_alloc_past]; done))
  have z1 := hx1.size
  try simp at z1
  have rc0 : w.heap.size < w1.heap.size := by omega
  have rc0a : w.heap.size < w1.heap.size + 1 := by omega
  have rc0b : w.heap.size < w1.heap.size + 1 + 1 := by omega
  have rc0c : w.heap.size < w1.heap.size + 1 + 1 + 1 := by omega
  have rc0n : ¬ w.heap.size = w1.heap.size := by omega
  replace HS := Lib.hid (HS.out.ext (Ext.trans (by repeat (first | with_reducible exact Ext.refl _ | with_reducible refine Ext.drew ?_ | with_reducible refine Ext.drewN ?_ _ | with_reducible refine Ext.alloc ?_ _ | with_reducible refine Ext.setCell ?_ (by first | omega | (simp; done) | (simp; omega)) _)) hx1))
  have X1 : Hid (Ext w w1) := Lib.hid (Ext.trans (by repeat (first | with_reducible exact Ext.refl w | with_reducible refine Ext.drew ?_ | with_reducible refine Ext.drewN ?_ _ | with_reducible refine Ext.alloc ?_ _ | with_reducible refine Ext.setCell ?_ (by first | omega | (simp; done) | (simp; omega)) _)) hx1)
  clear hx1 z1
  go_wp2_with fail
  (with_reducible refine (hopMay_ev x0 x1 x2 x3 0 A c n l _ (fits_x HX.out).2.2.2 (HS.out.ext (by repeat (first | with_reducible exact Ext.refl _ | with_reducible refine Ext.drew ?_ | with_reducible refine Ext.drewN ?_ _ | with_reducible refine Ext.alloc ?_ _ | with_reducible refine Ext.setCell ?_ (by first | omega | (simp; done) | (simp; omega)) _))) HM.out).mono ?_)
  rintro e w2 ⟨rfl, hx2⟩
  replace c0_0 : w2.cell? ⟨w.heap.size, 0, none⟩ = some (.int .i64 x0) := hx2.has (by first | exact c0_0 | (simp [go_sem, World.cell?_alloc_past, c0_0, c0_1, c0_2, c0_3, rc0, rc0a, rc0b, rc0c, rc0n]; done))
  replace c0_1 : w2.cell? ⟨w.heap.size, 1, none⟩ = some (.int .i64 x1) := hx2.has (by first | exact c0_1 | (simp [go_sem, World.cell?_alloc_past, c0_0, c0_1, c0_2, c0_3, rc0, rc0a, rc0b, rc0c, rc0n]; done))
  replace c0_2 : w2.cell? ⟨w.heap.size, 2, none⟩ = some (.int .i64 x2) := hx2.has (by first | exact c0_2 | (simp [go_sem, World.cell?_alloc_past, c0_0, c0_1, c0_2, c0_3, rc0, rc0a, rc0b, rc0c, rc0n]; done))
  replace c0_3 : w2.cell? ⟨w.heap.size, 3, none⟩ = some (.int .i64 x3) := hx2.has (by first | exact c0_3 | (simp [go_sem, World.cell?_alloc_past, c0_0, c0_1, c0_2, c0_3, rc0, rc0a, rc0b, rc0c, rc0n]; done))
  have z2 := hx2.size
  try simp at z2
  replace rc0 : w.heap.size < w2.heap.size := by omega
  replace rc0a : w.heap.size < w2.heap.size + 1 := by omega
  replace rc0b : w.heap.size < w2.heap.size + 1 + 1 := by omega
  replace rc0c : w.heap.size < w2.heap.size + 1 + 1 + 1 := by omega
  replace rc0n : ¬ w.heap.size = w2.heap.size := by omega
  replace HS := Lib.hid (HS.out.ext (Ext.trans (by repeat (first | with_reducible exact Ext.refl _ | with_reducible refine Ext.drew ?_ | with_reducible refine Ext.drewN ?_ _ | with_reducible refine Ext.alloc ?_ _ | with_reducible refine Ext.setCell ?_ (by first | omega | (simp; done) | (simp; omega)) _)) hx2))
  have X2 : Hid (Ext w w2) := Lib.hid (Ext.trans (by repeat (first | with_reducible exact X1.out | with_reducible refine Ext.drew ?_ | with_reducible refine Ext.drewN ?_ _ | with_reducible refine Ext.alloc ?_ _ | with_reducible refine Ext.setCell ?_ (by first | omega | (simp; done) | (simp; omega)) _)) hx2)
  clear X1 hx2 z2
  go_wp2_with fail
  refine wp_region_held_drew (S := fun w' => w'.cell? ⟨w.heap.size, 0, none⟩ = some (.int .i64 x0) ∧ w'.cell? ⟨w.heap.size, 1, none⟩ = some (.int .i64 x1) ∧ w'.cell? ⟨w.heap.size, 2, none⟩ = some (.int .i64 x2) ∧ w'.cell? ⟨w.heap.size, 3, none⟩ = some (.int .i64 x3)) (by kernel_rfl) (by first | exact ⟨c0_0, c0_1, c0_2, c0_3⟩ | (simp [go_sem, World.cell?_alloc_past, c0_0, c0_1, c0_2, c0_3, rc0, rc0a, rc0b, rc0c, rc0n]; done)) (fun hHeld => ?_)
  (refine' take_in 0 rfl (by kernel_rfl) (by kernel_rfl) (by kernel_rfl) (fun _ _ _ h => h) (by rfl) (by assumption) ?_ ?_; rotate_left; focus (intro w hSw; (try dsimp only at hSw); go_simp; try with_reducible rfl)); try simp only [Act.put, List.setIfInBounds_toArray, List.set_cons_zero, List.set_cons_succ]
  (refine' take_in 2 rfl (by kernel_rfl) (by kernel_rfl) (by kernel_rfl) (fun _ _ _ h => h) (by rfl) (by assumption) ?_ ?_; rotate_left; focus (intro w hSw; (try dsimp only at hSw); go_simp; try with_reducible rfl)); try simp only [Act.put, List.setIfInBounds_toArray, List.set_cons_zero, List.set_cons_succ]
  (refine' take_in 5 rfl (by kernel_rfl) (by kernel_rfl) (by kernel_rfl) (fun _ _ _ h => h) (by rfl) (by assumption) ?_ ?_; rotate_left; focus (intro w hSw; (try dsimp only at hSw); go_simp; try with_reducible rfl)); try simp only [Act.put, List.setIfInBounds_toArray, List.set_cons_zero, List.set_cons_succ]
  refine' next_in 1 rfl (by kernel_rfl) (by rfl) (fun K hK => ?_)
  go_simp
  (with_reducible refine (hopCounts_ex A n c l _ (HS.out.ext (by repeat (first | with_reducible exact Ext.refl _ | with_reducible refine Ext.drew ?_ | with_reducible refine Ext.drewN ?_ _ | with_reducible refine Ext.alloc ?_ _ | with_reducible refine Ext.setCell ?_ (by first | omega | (simp; done) | (simp; omega)) _))) hn (fits_k HW.out)).mono ?_)
  rintro e w3 ⟨bm, rfl, hC, hx3⟩
  replace c0_0 : w3.cell? ⟨w.heap.size, 0, none⟩ = some (.int .i64 x0) := hx3.has (by first | exact c0_0 | (simp [go_sem, World.cell?_alloc_past, c0_0, c0_1, c0_2, c0_3, rc0, rc0a, rc0b, rc0c, rc0n]; done))
  replace c0_1 : w3.cell? ⟨w.heap.size, 1, none⟩ = some (.int .i64 x1) := hx3.has (by first | exact c0_1 | (simp [go_sem, World.cell?_alloc_past, c0_0, c0_1, c0_2, c0_3, rc0, rc0a, rc0b, rc0c, rc0n]; done))
  replace c0_2 : w3.cell? ⟨w.heap.size, 2, none⟩ = some (.int .i64 x2) := hx3.has (by first | exact c0_2 | (simp [go_sem, World.cell?_alloc_past, c0_0, c0_1, c0_2, c0_3, rc0, rc0a, rc0b, rc0c, rc0n]; done))
  replace c0_3 : w3.cell? ⟨w.heap.size, 3, none⟩ = some (.int .i64 x3) := hx3.has (by first | exact c0_3 | (simp [go_sem, World.cell?_alloc_past, c0_0, c0_1, c0_2, c0_3, rc0, rc0a, rc0b, rc0c, rc0n]; done))
  have z3 := hx3.size
  try simp at z3
  replace rc0 : w.heap.size < w3.heap.size := by omega
  replace rc0a : w.heap.size < w3.heap.size + 1 := by omega
  replace rc0b : w.heap.size < w3.heap.size + 1 + 1 := by omega
  replace rc0c : w.heap.size < w3.heap.size + 1 + 1 + 1 := by omega
  replace rc0n : ¬ w.heap.size = w3.heap.size := by omega
  replace HS := Lib.hid (HS.out.ext (Ext.trans (by repeat (first | with_reducible exact Ext.refl _ | with_reducible refine Ext.drew ?_ | with_reducible refine Ext.drewN ?_ _ | with_reducible refine Ext.alloc ?_ _ | with_reducible refine Ext.setCell ?_ (by first | omega | (simp; done) | (simp; omega)) _)) hx3))
  have X3 : Hid (Ext w w3) := Lib.hid (Ext.trans (by repeat (first | with_reducible exact X2.out | with_reducible refine Ext.drew ?_ | with_reducible refine Ext.drewN ?_ _ | with_reducible refine Ext.alloc ?_ _ | with_reducible refine Ext.setCell ?_ (by first | omega | (simp; done) | (simp; omega)) _)) hx3)
  have HC := Lib.hid hC
  clear X2 hx3 z3 hC
  refine hK.out _ _ (by (first | exact ⟨c0_0, c0_1, c0_2, c0_3⟩ | (simp [go_sem, World.cell?_alloc_past, c0_0, c0_1, c0_2, c0_3, rc0, rc0a, rc0b, rc0c, rc0n]; done))) (fun hHeld => ?_); clear hK K; try simp only [Act.put, List.setIfInBounds_toArray, List.set_cons_zero, List.set_cons_succ]
  refine' next_in 3 rfl (by kernel_rfl) (by rfl) (fun K hK => ?_)
  go_simp
  (with_reducible refine (hopOf_any x0 x1 x2 x3 _).mono ?_)
  rintro e w4 ⟨rfl, hx4⟩
  replace c0_0 : w4.cell? ⟨w.heap.size, 0, none⟩ = some (.int .i64 x0) := hx4.has (by first | exact c0_0 | (simp [go_sem, World.cell?_alloc_past, c0_0, c0_1, c0_2, c0_3, rc0, rc0a, rc0b, rc0c, rc0n]; done))
  replace c0_1 : w4.cell? ⟨w.heap.size, 1, none⟩ = some (.int .i64 x1) := hx4.has (by first | exact c0_1 | (simp [go_sem, World.cell?_alloc_past, c0_0, c0_1, c0_2, c0_3, rc0, rc0a, rc0b, rc0c, rc0n]; done))
  replace c0_2 : w4.cell? ⟨w.heap.size, 2, none⟩ = some (.int .i64 x2) := hx4.has (by first | exact c0_2 | (simp [go_sem, World.cell?_alloc_past, c0_0, c0_1, c0_2, c0_3, rc0, rc0a, rc0b, rc0c, rc0n]; done))
  replace c0_3 : w4.cell? ⟨w.heap.size, 3, none⟩ = some (.int .i64 x3) := hx4.has (by first | exact c0_3 | (simp [go_sem, World.cell?_alloc_past, c0_0, c0_1, c0_2, c0_3, rc0, rc0a, rc0b, rc0c, rc0n]; done))
  have z4 := hx4.size
  try simp at z4
  replace rc0 : w.heap.size < w4.heap.size := by omega
  replace rc0a : w.heap.size < w4.heap.size + 1 := by omega
  replace rc0b : w.heap.size < w4.heap.size + 1 + 1 := by omega
  replace rc0c : w.heap.size < w4.heap.size + 1 + 1 + 1 := by omega
  replace rc0n : ¬ w.heap.size = w4.heap.size := by omega
  replace HS := Lib.hid (HS.out.ext (Ext.trans (by repeat (first | with_reducible exact Ext.refl _ | with_reducible refine Ext.drew ?_ | with_reducible refine Ext.drewN ?_ _ | with_reducible refine Ext.alloc ?_ _ | with_reducible refine Ext.setCell ?_ (by first | omega | (simp; done) | (simp; omega)) _)) hx4))
  replace HC := Lib.hid (HC.out.ext (Ext.trans (by repeat (first | with_reducible exact Ext.refl _ | with_reducible refine Ext.drew ?_ | with_reducible refine Ext.drewN ?_ _ | with_reducible refine Ext.alloc ?_ _ | with_reducible refine Ext.setCell ?_ (by first | omega | (simp; done) | (simp; omega)) _)) hx4))
  have X4 : Hid (Ext w w4) := Lib.hid (Ext.trans (by repeat (first | with_reducible exact X3.out | with_reducible refine Ext.drew ?_ | with_reducible refine Ext.drewN ?_ _ | with_reducible refine Ext.alloc ?_ _ | with_reducible refine Ext.setCell ?_ (by first | omega | (simp; done) | (simp; omega)) _)) hx4)
  clear X3 hx4 z4
  have hrun4 := CntW.look HC.out (keyW_wf (fits_x HX.out).1) (keyW_wf (fits_x HX.out).2.1) (keyW_wf (fits_x HX.out).2.2.1)
  rw [← HV.out] at hrun4
  refine hK.out _ _ (by (first | exact ⟨c0_0, c0_1, c0_2, c0_3⟩ | (simp [go_sem, World.cell?_alloc_past, c0_0, c0_1, c0_2, c0_3, rc0, rc0a, rc0b, rc0c, rc0n]; done))) (fun hHeld => ?_); clear hK K; try simp only [Act.put, List.setIfInBounds_toArray, List.set_cons_zero, List.set_cons_succ]
  refine' next_in 4 rfl (by kernel_rfl) (by rfl) (fun K hK => ?_)
  go_simp
  refine hK.out _ _ (by (first | exact ⟨c0_0, c0_1, c0_2, c0_3⟩ | (simp [go_sem, World.cell?_alloc_past, c0_0, c0_1, c0_2, c0_3, rc0, rc0a, rc0b, rc0c, rc0n]; done))) (fun hHeld => ?_); clear hK K; try simp only [Act.put, List.setIfInBounds_toArray, List.set_cons_zero, List.set_cons_succ]
  (refine' take_in 6 rfl (by kernel_rfl) (by kernel_rfl) (by kernel_rfl) (fun _ _ _ h => h) (by rfl) (by assumption) ?_ ?_; rotate_left; focus (intro w hSw; (try dsimp only at hSw); go_simp; try with_reducible rfl)); try simp only [Act.put, List.setIfInBounds_toArray, List.set_cons_zero, List.set_cons_succ]
  (refine' take_in 7 rfl (by kernel_rfl) (by kernel_rfl) (by kernel_rfl) (fun _ _ _ h => h) (by rfl) (by assumption) ?_ ?_; rotate_left; focus (intro w hSw; (try dsimp only at hSw); go_simp; try with_reducible rfl)); try simp only [Act.put, List.setIfInBounds_toArray, List.set_cons_zero, List.set_cons_succ]
  refine wpAnyH_done (by kernel_rfl) ?_ _
  go_wp2_with fail
  refine bodyPost_ret (v := .tuple #[.slice none 0 0, .int .i64 4]) (by simp [results, Try.results23, go_sem, World.cell?_alloc_past, c0_0, c0_1, c0_2, c0_3, rc0, rc0a, rc0b, rc0c, rc0n]; try rfl) rfl (RetHopV.nil (xs := [.int .i64 4]) ?_)
  exact (by repeat (first | with_reducible exact X4.out | with_reducible refine Ext.drew ?_ | with_reducible refine Ext.drewN ?_ _ | with_reducible refine Ext.alloc ?_ _ | with_reducible refine Ext.setCell ?_ (by first | omega | (simp; done) | (simp; omega)) _))
theorem hop_app {w : World} {base n b c : Nat} {v : Value} {l : List (Int × Int × Int × Int)} {x0 x1 x2 x3 : Int} (hown : OwnHop w base v n l) (hn : n < 1099511627776) (hb : base ≤ w.heap.size) (h0 : w.cell? ⟨b, 0, none⟩ = some (.int .i64 x0)) (h1 : w.cell? ⟨b, 1, none⟩ = some (.int .i64 x1)) (h2 : w.cell? ⟨b, 2, none⟩ = some (.int .i64 x2)) (h3 : w.cell? ⟨b, 3, none⟩ = some (.int .i64 x3)) (ty : TypeId) :
    ∃ A' c' w', (Builtin.append_ #[22, 22] ty #[v, .slice (some ⟨b, 0, none⟩) 1 c]).run Try.prog w = .ok (.slice A' (n + 1) c') w' ∧ OwnHop w' base (.slice A' (n + 1) c') (n + 1) (l ++ [(x0, x1, x2, x3)]) ∧ Below base w w' := by
  obtain ⟨i0, hi0, hz0, hz1, hz2⟩ := info_parts hop_info
  obtain ⟨v', w', hr, g2, g3, g4, g5⟩ := run_append_own_at (P := Try.prog) w base 22 ty 24 i0 (.agg #[.int .i64 0, .int .i64 0, .int .i64 0, .int .i64 0]) 4 32 Try.underlying22 hi0 hz0 hz1 hz2 rfl (by decide) v n _ hown ⟨b, 0, none⟩ 1 c [.int .i64 x0, .int .i64 x1, .int .i64 x2, .int .i64 x3] rfl
    (by intro j u hj
        match j, hj with
        | 0, hj => simp at hj; subst hj; simpa [Addr.add] using h0
        | 1, hj => simp at hj; subst hj; simpa [Addr.add] using h1
        | 2, hj => simp at hj; subst hj; simpa [Addr.add] using h2
        | 3, hj => simp at hj; subst hj; simpa [Addr.add] using h3
        | j + 4, hj => simp at hj)
    (by intro u hu; simp at hu; rcases hu with rfl | rfl | rfl | rfl <;> rfl) (by simp [maxLen]; omega) (by omega) hb
  have hO : OwnHop w' base v' (n + 1) (l ++ [(x0, x1, x2, x3)]) := by
    unfold OwnHop
    rw [List.flatMap_append]
    exact g2
  obtain ⟨A', c', rfl, _, _⟩ := own_parts2 hO
  exact ⟨A', c', w', hr, hO, (Below.refl base w).grown g3 hb (fun k hk => (World.ownsRow.lt hown k hk).1)⟩
/-- an append at an operation of a drawn region, by its run -/
theorem oper_append {P : Program} {o : Oper} {a : Act} {w w' : World} {K : Act → World → Prop} {Q : Exit → Act → World → Prop} (s x : Operand) (t : TypeId) (ho : o.op = .call { callee := .builtin .append, args := #[s, x], argTypes := #[t, t] }) {vs vx v' : Value} (hs : a.eval s = vs) (hx : a.eval x = vx)
    (hr : (Builtin.append_ #[t, t] o.type #[vs, vx]).run P w = .ok v' w') (hK : K (a.put o.dst v') w') : Oper.wp P o a w K Q := by
  unfold Oper.wp execOp
  simp only [ho, resolve, invoke, builtin, Sem.run_bind, Sem.run_pure, Result.andThen_ok, List.map_toArray, List.map_cons, List.map_nil, hs, hx, hr]
  exact hK
set_option maxRecDepth 100000 in
set_option maxHeartbeats 4000000 in
theorem hopAdd_ok (A : Option Addr) (n c : Nat) (l : List (Int × Int × Int × Int)) (x0 x1 x2 x3 mo f1 f2 mv cv : Int) (w : World) (h : Sl w 4 A n c (l.flatMap hopC)) (hn : n < 1099511627776) (hw : ∀ x ∈ l, FitsH x) (hfx : FitsH (x0, x1, x2, x3)) (hf : (f1, f2) = chkH l) (hm : mv = mayV (x0, x1, x2, x3) l) (hv : cv = cntL l x0 x1 x2) (hc : f1 = 0) (h3 : mv ≠ 3) (h4 : ¬ mo < 1) (h5 : ¬ mo > 16) (h6 : mv = 0) (h7 : ¬ cv ≥ mo) (h8 : ¬ 4096 ≤ n) (hnil : A = none → c = 0) :
    Calls Try.prog 23 #[.slice A n c, .agg #[.int .i64 x0, .int .i64 x1, .int .i64 x2, .int .i64 x3], .int .i64 mo] w (RetHopV (l ++ [(x0, x1, x2, x3)]) [.int .i64 0] w) := by
  have hl := h.rlen hopC_len (by decide)
  have s1 := h.small
  subst hc
  subst h6
  have h9 : ¬ (n : Int) ≥ 4096 := by omega
  subst hl
  have HS := Lib.hid h
  have HW := Lib.hid hw
  have HX := Lib.hid hfx
  have HF := Lib.hid hf
  have HM := Lib.hid hm
  have HV := Lib.hid hv
  clear h hw hfx hf hm hv
  go_enter Try.func23, Try.ntmps23
  go_wp2_with fail
  (with_reducible refine (hopCheck_ev A l.length c l 0 f2 _ (HS.out.ext (by repeat (first | with_reducible exact Ext.refl _ | with_reducible refine Ext.drew ?_ | with_reducible refine Ext.drewN ?_ _ | with_reducible refine Ext.alloc ?_ _ | with_reducible refine Ext.setCell ?_ (by first | omega | (simp; done) | (simp; omega)) _))) (fits_t HW.out) HF.out).mono ?_)
  rintro e w1 ⟨rfl, hx1⟩
  have c0_0 : w1.cell? ⟨w.heap.size, 0, none⟩ = some (.int .i64 x0) := hx1.has (by first | fail | (simp [go_sem, World.cell?_alloc_past]; done))
  have c0_1 : w1.cell? ⟨w.heap.size, 1, none⟩ = some (.int .i64 x1) := hx1.has (by first | fail | (simp [go_sem, World.cell?_alloc_past]; done))
  have c0_2 : w1.cell? ⟨w.heap.size, 2, none⟩ = some (.int .i64 x2) := hx1.has (by first | fail | (simp [go_sem, World.cell?_alloc_past]; done))
  have c0_3 : w1.cell? ⟨w.heap.size, 3, none⟩ = some (.int .i64 x3) := hx1.has (by first | fail | (simp [go_sem, World.cell?_alloc_past]; done))
  have z1 := hx1.size
  try simp at z1
  have rc0 : w.heap.size < w1.heap.size := by omega
  have rc0a : w.heap.size < w1.heap.size + 1 := by omega
  have rc0b : w.heap.size < w1.heap.size + 1 + 1 := by omega
  have rc0c : w.heap.size < w1.heap.size + 1 + 1 + 1 := by omega
  have rc0n : ¬ w.heap.size = w1.heap.size := by omega
  replace HS := Lib.hid (HS.out.ext (Ext.trans (by repeat (first | with_reducible exact Ext.refl _ | with_reducible refine Ext.drew ?_ | with_reducible refine Ext.drewN ?_ _ | with_reducible refine Ext.alloc ?_ _ | with_reducible refine Ext.setCell ?_ (by first | omega | (simp; done) | (simp; omega)) _)) hx1))
  have X1 : Hid (Ext w w1) := Lib.hid (Ext.trans (by repeat (first | with_reducible exact Ext.refl w | with_reducible refine Ext.drew ?_ | with_reducible refine Ext.drewN ?_ _ | with_reducible refine Ext.alloc ?_ _ | with_reducible refine Ext.setCell ?_ (by first | omega | (simp; done) | (simp; omega)) _)) hx1)
  clear hx1 z1
  go_wp2_with fail
  (with_reducible refine (hopMay_ev x0 x1 x2 x3 0 A c l.length l _ (fits_x HX.out).2.2.2 (HS.out.ext (by repeat (first | with_reducible exact Ext.refl _ | with_reducible refine Ext.drew ?_ | with_reducible refine Ext.drewN ?_ _ | with_reducible refine Ext.alloc ?_ _ | with_reducible refine Ext.setCell ?_ (by first | omega | (simp; done) | (simp; omega)) _))) HM.out).mono ?_)
  rintro e w2 ⟨rfl, hx2⟩
  replace c0_0 : w2.cell? ⟨w.heap.size, 0, none⟩ = some (.int .i64 x0) := hx2.has (by first | exact c0_0 | (simp [go_sem, World.cell?_alloc_past, c0_0, c0_1, c0_2, c0_3, rc0, rc0a, rc0b, rc0c, rc0n]; done))
  replace c0_1 : w2.cell? ⟨w.heap.size, 1, none⟩ = some (.int .i64 x1) := hx2.has (by first | exact c0_1 | (simp [go_sem, World.cell?_alloc_past, c0_0, c0_1, c0_2, c0_3, rc0, rc0a, rc0b, rc0c, rc0n]; done))
  replace c0_2 : w2.cell? ⟨w.heap.size, 2, none⟩ = some (.int .i64 x2) := hx2.has (by first | exact c0_2 | (simp [go_sem, World.cell?_alloc_past, c0_0, c0_1, c0_2, c0_3, rc0, rc0a, rc0b, rc0c, rc0n]; done))
  replace c0_3 : w2.cell? ⟨w.heap.size, 3, none⟩ = some (.int .i64 x3) := hx2.has (by first | exact c0_3 | (simp [go_sem, World.cell?_alloc_past, c0_0, c0_1, c0_2, c0_3, rc0, rc0a, rc0b, rc0c, rc0n]; done))
  have z2 := hx2.size
  try simp at z2
  replace rc0 : w.heap.size < w2.heap.size := by omega
  replace rc0a : w.heap.size < w2.heap.size + 1 := by omega
  replace rc0b : w.heap.size < w2.heap.size + 1 + 1 := by omega
  replace rc0c : w.heap.size < w2.heap.size + 1 + 1 + 1 := by omega
  replace rc0n : ¬ w.heap.size = w2.heap.size := by omega
  replace HS := Lib.hid (HS.out.ext (Ext.trans (by repeat (first | with_reducible exact Ext.refl _ | with_reducible refine Ext.drew ?_ | with_reducible refine Ext.drewN ?_ _ | with_reducible refine Ext.alloc ?_ _ | with_reducible refine Ext.setCell ?_ (by first | omega | (simp; done) | (simp; omega)) _)) hx2))
  have X2 : Hid (Ext w w2) := Lib.hid (Ext.trans (by repeat (first | with_reducible exact X1.out | with_reducible refine Ext.drew ?_ | with_reducible refine Ext.drewN ?_ _ | with_reducible refine Ext.alloc ?_ _ | with_reducible refine Ext.setCell ?_ (by first | omega | (simp; done) | (simp; omega)) _)) hx2)
  clear X1 hx2 z2
  go_wp2_with fail
  refine wp_region_held_drew (S := fun w' => w'.cell? ⟨w.heap.size, 0, none⟩ = some (.int .i64 x0) ∧ w'.cell? ⟨w.heap.size, 1, none⟩ = some (.int .i64 x1) ∧ w'.cell? ⟨w.heap.size, 2, none⟩ = some (.int .i64 x2) ∧ w'.cell? ⟨w.heap.size, 3, none⟩ = some (.int .i64 x3)) (by kernel_rfl) (by first | exact ⟨c0_0, c0_1, c0_2, c0_3⟩ | (simp [go_sem, World.cell?_alloc_past, c0_0, c0_1, c0_2, c0_3, rc0, rc0a, rc0b, rc0c, rc0n]; done)) (fun hHeld => ?_)
  (refine' take_in 0 rfl (by kernel_rfl) (by kernel_rfl) (by kernel_rfl) (fun _ _ _ h => h) (by rfl) (by assumption) ?_ ?_; rotate_left; focus (intro w hSw; (try dsimp only at hSw); go_simp; try with_reducible rfl)); try simp only [Act.put, List.setIfInBounds_toArray, List.set_cons_zero, List.set_cons_succ]
  (refine' take_in 2 rfl (by kernel_rfl) (by kernel_rfl) (by kernel_rfl) (fun _ _ _ h => h) (by rfl) (by assumption) ?_ ?_; rotate_left; focus (intro w hSw; (try dsimp only at hSw); go_simp; try with_reducible rfl)); try simp only [Act.put, List.setIfInBounds_toArray, List.set_cons_zero, List.set_cons_succ]
  (refine' take_in 5 rfl (by kernel_rfl) (by kernel_rfl) (by kernel_rfl) (fun _ _ _ h => h) (by rfl) (by assumption) ?_ ?_; rotate_left; focus (intro w hSw; (try dsimp only at hSw); go_simp; try with_reducible rfl)); try simp only [Act.put, List.setIfInBounds_toArray, List.set_cons_zero, List.set_cons_succ]
  refine' next_in 1 rfl (by kernel_rfl) (by rfl) (fun K hK => ?_)
  go_simp
  (with_reducible refine (hopCounts_ex A l.length c l _ (HS.out.ext (by repeat (first | with_reducible exact Ext.refl _ | with_reducible refine Ext.drew ?_ | with_reducible refine Ext.drewN ?_ _ | with_reducible refine Ext.alloc ?_ _ | with_reducible refine Ext.setCell ?_ (by first | omega | (simp; done) | (simp; omega)) _))) hn (fits_k HW.out)).mono ?_)
  rintro e w3 ⟨bm, rfl, hC, hx3⟩
  replace c0_0 : w3.cell? ⟨w.heap.size, 0, none⟩ = some (.int .i64 x0) := hx3.has (by first | exact c0_0 | (simp [go_sem, World.cell?_alloc_past, c0_0, c0_1, c0_2, c0_3, rc0, rc0a, rc0b, rc0c, rc0n]; done))
  replace c0_1 : w3.cell? ⟨w.heap.size, 1, none⟩ = some (.int .i64 x1) := hx3.has (by first | exact c0_1 | (simp [go_sem, World.cell?_alloc_past, c0_0, c0_1, c0_2, c0_3, rc0, rc0a, rc0b, rc0c, rc0n]; done))
  replace c0_2 : w3.cell? ⟨w.heap.size, 2, none⟩ = some (.int .i64 x2) := hx3.has (by first | exact c0_2 | (simp [go_sem, World.cell?_alloc_past, c0_0, c0_1, c0_2, c0_3, rc0, rc0a, rc0b, rc0c, rc0n]; done))
  replace c0_3 : w3.cell? ⟨w.heap.size, 3, none⟩ = some (.int .i64 x3) := hx3.has (by first | exact c0_3 | (simp [go_sem, World.cell?_alloc_past, c0_0, c0_1, c0_2, c0_3, rc0, rc0a, rc0b, rc0c, rc0n]; done))
  have z3 := hx3.size
  try simp at z3
  replace rc0 : w.heap.size < w3.heap.size := by omega
  replace rc0a : w.heap.size < w3.heap.size + 1 := by omega
  replace rc0b : w.heap.size < w3.heap.size + 1 + 1 := by omega
  replace rc0c : w.heap.size < w3.heap.size + 1 + 1 + 1 := by omega
  replace rc0n : ¬ w.heap.size = w3.heap.size := by omega
  replace HS := Lib.hid (HS.out.ext (Ext.trans (by repeat (first | with_reducible exact Ext.refl _ | with_reducible refine Ext.drew ?_ | with_reducible refine Ext.drewN ?_ _ | with_reducible refine Ext.alloc ?_ _ | with_reducible refine Ext.setCell ?_ (by first | omega | (simp; done) | (simp; omega)) _)) hx3))
  have X3 : Hid (Ext w w3) := Lib.hid (Ext.trans (by repeat (first | with_reducible exact X2.out | with_reducible refine Ext.drew ?_ | with_reducible refine Ext.drewN ?_ _ | with_reducible refine Ext.alloc ?_ _ | with_reducible refine Ext.setCell ?_ (by first | omega | (simp; done) | (simp; omega)) _)) hx3)
  have HC := Lib.hid hC
  clear X2 hx3 z3 hC
  refine hK.out _ _ (by (first | exact ⟨c0_0, c0_1, c0_2, c0_3⟩ | (simp [go_sem, World.cell?_alloc_past, c0_0, c0_1, c0_2, c0_3, rc0, rc0a, rc0b, rc0c, rc0n]; done))) (fun hHeld => ?_); clear hK K; try simp only [Act.put, List.setIfInBounds_toArray, List.set_cons_zero, List.set_cons_succ]
  refine' next_in 3 rfl (by kernel_rfl) (by rfl) (fun K hK => ?_)
  go_simp
  (with_reducible refine (hopOf_any x0 x1 x2 x3 _).mono ?_)
  rintro e w4 ⟨rfl, hx4⟩
  replace c0_0 : w4.cell? ⟨w.heap.size, 0, none⟩ = some (.int .i64 x0) := hx4.has (by first | exact c0_0 | (simp [go_sem, World.cell?_alloc_past, c0_0, c0_1, c0_2, c0_3, rc0, rc0a, rc0b, rc0c, rc0n]; done))
  replace c0_1 : w4.cell? ⟨w.heap.size, 1, none⟩ = some (.int .i64 x1) := hx4.has (by first | exact c0_1 | (simp [go_sem, World.cell?_alloc_past, c0_0, c0_1, c0_2, c0_3, rc0, rc0a, rc0b, rc0c, rc0n]; done))
  replace c0_2 : w4.cell? ⟨w.heap.size, 2, none⟩ = some (.int .i64 x2) := hx4.has (by first | exact c0_2 | (simp [go_sem, World.cell?_alloc_past, c0_0, c0_1, c0_2, c0_3, rc0, rc0a, rc0b, rc0c, rc0n]; done))
  replace c0_3 : w4.cell? ⟨w.heap.size, 3, none⟩ = some (.int .i64 x3) := hx4.has (by first | exact c0_3 | (simp [go_sem, World.cell?_alloc_past, c0_0, c0_1, c0_2, c0_3, rc0, rc0a, rc0b, rc0c, rc0n]; done))
  have z4 := hx4.size
  try simp at z4
  replace rc0 : w.heap.size < w4.heap.size := by omega
  replace rc0a : w.heap.size < w4.heap.size + 1 := by omega
  replace rc0b : w.heap.size < w4.heap.size + 1 + 1 := by omega
  replace rc0c : w.heap.size < w4.heap.size + 1 + 1 + 1 := by omega
  replace rc0n : ¬ w.heap.size = w4.heap.size := by omega
  replace HS := Lib.hid (HS.out.ext (Ext.trans (by repeat (first | with_reducible exact Ext.refl _ | with_reducible refine Ext.drew ?_ | with_reducible refine Ext.drewN ?_ _ | with_reducible refine Ext.alloc ?_ _ | with_reducible refine Ext.setCell ?_ (by first | omega | (simp; done) | (simp; omega)) _)) hx4))
  replace HC := Lib.hid (HC.out.ext (Ext.trans (by repeat (first | with_reducible exact Ext.refl _ | with_reducible refine Ext.drew ?_ | with_reducible refine Ext.drewN ?_ _ | with_reducible refine Ext.alloc ?_ _ | with_reducible refine Ext.setCell ?_ (by first | omega | (simp; done) | (simp; omega)) _)) hx4))
  have X4 : Hid (Ext w w4) := Lib.hid (Ext.trans (by repeat (first | with_reducible exact X3.out | with_reducible refine Ext.drew ?_ | with_reducible refine Ext.drewN ?_ _ | with_reducible refine Ext.alloc ?_ _ | with_reducible refine Ext.setCell ?_ (by first | omega | (simp; done) | (simp; omega)) _)) hx4)
  clear X3 hx4 z4
  have hrun4 := CntW.look HC.out (keyW_wf (fits_x HX.out).1) (keyW_wf (fits_x HX.out).2.1) (keyW_wf (fits_x HX.out).2.2.1)
  rw [← HV.out] at hrun4
  refine hK.out _ _ (by (first | exact ⟨c0_0, c0_1, c0_2, c0_3⟩ | (simp [go_sem, World.cell?_alloc_past, c0_0, c0_1, c0_2, c0_3, rc0, rc0a, rc0b, rc0c, rc0n]; done))) (fun hHeld => ?_); clear hK K; try simp only [Act.put, List.setIfInBounds_toArray, List.set_cons_zero, List.set_cons_succ]
  refine' next_in 4 rfl (by kernel_rfl) (by rfl) (fun K hK => ?_)
  go_simp
  refine hK.out _ _ (by (first | exact ⟨c0_0, c0_1, c0_2, c0_3⟩ | (simp [go_sem, World.cell?_alloc_past, c0_0, c0_1, c0_2, c0_3, rc0, rc0a, rc0b, rc0c, rc0n]; done))) (fun hHeld => ?_); clear hK K; try simp only [Act.put, List.setIfInBounds_toArray, List.set_cons_zero, List.set_cons_succ]
  (refine' take_in 6 rfl (by kernel_rfl) (by kernel_rfl) (by kernel_rfl) (fun _ _ _ h => h) (by rfl) (by assumption) ?_ ?_; rotate_left; focus (intro w hSw; (try dsimp only at hSw); go_simp; try with_reducible rfl)); try simp only [Act.put, List.setIfInBounds_toArray, List.set_cons_zero, List.set_cons_succ]
  (refine' take_in 7 rfl (by kernel_rfl) (by kernel_rfl) (by kernel_rfl) (fun _ _ _ h => h) (by rfl) (by assumption) ?_ ?_; rotate_left; focus (intro w hSw; (try dsimp only at hSw); go_simp; try with_reducible rfl)); try simp only [Act.put, List.setIfInBounds_toArray, List.set_cons_zero, List.set_cons_succ]
  refine wpAnyH_done (by kernel_rfl) ?_ _
  go_wp2_with fail
  refine wp_region_held_drew (S := fun _ => True) (by kernel_rfl) trivial (fun hHeld => ?_)
  (refine' take_in 0 rfl (by kernel_rfl) (by kernel_rfl) (by kernel_rfl) (fun _ _ _ h => h) (by rfl) (by assumption) ?_ ?_; rotate_left; focus (intro w hSw; (try dsimp only at hSw); go_simp; try with_reducible rfl)); try simp only [Act.put, List.setIfInBounds_toArray, List.set_cons_zero, List.set_cons_succ]
  refine' next2_in 1 2 rfl rfl (by kernel_rfl) (by rfl) (by rfl) (fun K hK => ?_) (fun K hK => ?_)
  · go_simp
    (with_reducible refine (hClone_any A c l _ (HS.out.ext (by repeat (first | with_reducible exact Ext.refl _ | with_reducible refine Ext.drew ?_ | with_reducible refine Ext.drewN ?_ _ | with_reducible refine Ext.alloc ?_ _))) (by omega) hnil).mono ?_)
    rintro e w5 ⟨A3, c3, rfl, hA3, hO3, hx5⟩
    have hz5 := hx5.size
    try simp at hz5
    have X5 : Hid (Ext w w5) := Lib.hid (Ext.trans (by repeat (first | with_reducible exact X4.out | with_reducible refine Ext.drew ?_ | with_reducible refine Ext.drewN ?_ _ | with_reducible refine Ext.alloc ?_ _)) hx5)
    have HO : Hid (OwnHop w5 w.heap.size (.slice A3 l.length c3) l.length l) := Lib.hid (OwnHop.lower hO3 (by first | omega | (simp; omega)))
    clear hO3
    have d_0 : w5.cell? ⟨w.heap.size, 0, none⟩ = some (.int .i64 x0) := hx5.has (by first | exact c0_0 | (simp [go_sem, c0_0, rc0, rc0n]; done))
    have d_1 : w5.cell? ⟨w.heap.size, 1, none⟩ = some (.int .i64 x1) := hx5.has (by first | exact c0_1 | (simp [go_sem, c0_1, rc0, rc0n]; done))
    have d_2 : w5.cell? ⟨w.heap.size, 2, none⟩ = some (.int .i64 x2) := hx5.has (by first | exact c0_2 | (simp [go_sem, c0_2, rc0, rc0n]; done))
    have d_3 : w5.cell? ⟨w.heap.size, 3, none⟩ = some (.int .i64 x3) := hx5.has (by first | exact c0_3 | (simp [go_sem, c0_3, rc0, rc0n]; done))
    refine hK.out _ _ (trivial) (fun hHeld => ?_); clear hK K; try simp only [Act.put, List.setIfInBounds_toArray, List.set_cons_zero, List.set_cons_succ]
    refine' next_in 2 rfl (by kernel_rfl) (by rfl) (fun K hK => ?_)
    go_simp
    refine hK.out _ _ (trivial) (fun hHeld => ?_); clear hK K; try simp only [Act.put, List.setIfInBounds_toArray, List.set_cons_zero, List.set_cons_succ]
    refine' next_in 3 rfl (by kernel_rfl) (by rfl) (fun K hK => ?_)
    go_simp
    refine hK.out _ _ (trivial) (fun hHeld => ?_); clear hK K; try simp only [Act.put, List.setIfInBounds_toArray, List.set_cons_zero, List.set_cons_succ]
    obtain ⟨A7, c7, w7, hrun7, hO7, hB7⟩ := hop_app (w := (w5.alloc (.cells #[.int .i64 x0, .int .i64 x1, .int .i64 x2, .int .i64 x3] 24))) (b := w5.heap.size) (c := 1) (x0 := x0) (x1 := x1) (x2 := x2) (x3 := x3) (HO.out.ext (Ext.alloc (Ext.refl _) _)) (by omega) (by have := Ext.size X5.out; simp; omega) (by simp) (by simp) (by simp) (by simp) 22
    have X7 : Hid (Ext w w7) := Lib.hid (Ext.below (Ext.alloc X5.out _) hB7)
    clear hB7
    refine' next_in 4 rfl (by kernel_rfl) (by rfl) (fun K hK => ?_)
    refine oper_append (.tmp 46) (.tmp 48) 22 rfl rfl rfl hrun7 ?_
    refine hK.out _ _ (trivial) (fun hHeld => ?_); clear hK K; try simp only [Act.put, List.setIfInBounds_toArray, List.set_cons_zero, List.set_cons_succ]
    (refine' take_in 5 rfl (by kernel_rfl) (by kernel_rfl) (by kernel_rfl) (fun _ _ _ h => h) (by rfl) (by assumption) ?_ ?_; rotate_left; focus (intro w hSw; (try dsimp only at hSw); go_simp; try with_reducible rfl)); try simp only [Act.put, List.setIfInBounds_toArray, List.set_cons_zero, List.set_cons_succ]
    (refine' take_in 6 rfl (by kernel_rfl) (by kernel_rfl) (by kernel_rfl) (fun _ _ _ h => h) (by rfl) (by assumption) ?_ ?_; rotate_left; focus (intro w hSw; (try dsimp only at hSw); go_simp; try with_reducible rfl)); try simp only [Act.put, List.setIfInBounds_toArray, List.set_cons_zero, List.set_cons_succ]
    refine wpAnyH_done (by kernel_rfl) ?_ _
    go_wp2_with fail
    refine bodyPost_ret (v := .tuple #[.slice A7 (l.length + 1) c7, .int .i64 0]) (by simp [results, Try.results23]; try rfl) rfl (RetHopV.mk (xs := [.int .i64 0]) hO7 X7.out (by simp))
  · go_simp
    refine hK.out _ _ (trivial) (fun hHeld => ?_); clear hK K; try simp only [Act.put, List.setIfInBounds_toArray, List.set_cons_zero, List.set_cons_succ]
    refine' next2_in 1 3 rfl rfl (by kernel_rfl) (by rfl) (by rfl) (fun K hK => ?_) (fun K hK => ?_)
    · go_simp
      (with_reducible refine (hClone_any A c l _ (HS.out.ext (by repeat (first | with_reducible exact Ext.refl _ | with_reducible refine Ext.drew ?_ | with_reducible refine Ext.drewN ?_ _ | with_reducible refine Ext.alloc ?_ _))) (by omega) hnil).mono ?_)
      rintro e w5 ⟨A3, c3, rfl, hA3, hO3, hx5⟩
      have hz5 := hx5.size
      try simp at hz5
      have X5 : Hid (Ext w w5) := Lib.hid (Ext.trans (by repeat (first | with_reducible exact X4.out | with_reducible refine Ext.drew ?_ | with_reducible refine Ext.drewN ?_ _ | with_reducible refine Ext.alloc ?_ _)) hx5)
      have HO : Hid (OwnHop w5 w.heap.size (.slice A3 l.length c3) l.length l) := Lib.hid (OwnHop.lower hO3 (by first | omega | (simp; omega)))
      clear hO3
      refine hK.out _ _ (trivial) (fun hHeld => ?_); clear hK K; try simp only [Act.put, List.setIfInBounds_toArray, List.set_cons_zero, List.set_cons_succ]
      refine' next_in 3 rfl (by kernel_rfl) (by rfl) (fun K hK => ?_)
      go_simp
      refine hK.out _ _ (trivial) (fun hHeld => ?_); clear hK K; try simp only [Act.put, List.setIfInBounds_toArray, List.set_cons_zero, List.set_cons_succ]
      obtain ⟨A7, c7, w7, hrun7, hO7, hB7⟩ := hop_app (w := (w5.alloc (.cells #[.int .i64 x0, .int .i64 x1, .int .i64 x2, .int .i64 x3] 24))) (b := w5.heap.size) (c := 1) (x0 := x0) (x1 := x1) (x2 := x2) (x3 := x3) (HO.out.ext (Ext.alloc (Ext.refl _) _)) (by omega) (by have := Ext.size X5.out; simp; omega) (by simp) (by simp) (by simp) (by simp) 22
      have X7 : Hid (Ext w w7) := Lib.hid (Ext.below (Ext.alloc X5.out _) hB7)
      clear hB7
      refine' next_in 4 rfl (by kernel_rfl) (by rfl) (fun K hK => ?_)
      refine oper_append (.tmp 46) (.tmp 48) 22 rfl rfl rfl hrun7 ?_
      refine hK.out _ _ (trivial) (fun hHeld => ?_); clear hK K; try simp only [Act.put, List.setIfInBounds_toArray, List.set_cons_zero, List.set_cons_succ]
      (refine' take_in 5 rfl (by kernel_rfl) (by kernel_rfl) (by kernel_rfl) (fun _ _ _ h => h) (by rfl) (by assumption) ?_ ?_; rotate_left; focus (intro w hSw; (try dsimp only at hSw); go_simp; try with_reducible rfl)); try simp only [Act.put, List.setIfInBounds_toArray, List.set_cons_zero, List.set_cons_succ]
      (refine' take_in 6 rfl (by kernel_rfl) (by kernel_rfl) (by kernel_rfl) (fun _ _ _ h => h) (by rfl) (by assumption) ?_ ?_; rotate_left; focus (intro w hSw; (try dsimp only at hSw); go_simp; try with_reducible rfl)); try simp only [Act.put, List.setIfInBounds_toArray, List.set_cons_zero, List.set_cons_succ]
      refine wpAnyH_done (by kernel_rfl) ?_ _
      go_wp2_with fail
      refine bodyPost_ret (v := .tuple #[.slice A7 (l.length + 1) c7, .int .i64 0]) (by simp [results, Try.results23]; try rfl) rfl (RetHopV.mk (xs := [.int .i64 0]) hO7 X7.out (by simp))
    · go_simp
      refine hK.out _ _ (trivial) (fun hHeld => ?_); clear hK K; try simp only [Act.put, List.setIfInBounds_toArray, List.set_cons_zero, List.set_cons_succ]
      refine' next_in 1 rfl (by kernel_rfl) (by rfl) (fun K hK => ?_)
      go_simp
      (with_reducible refine (hClone_any A c l _ (HS.out.ext (by repeat (first | with_reducible exact Ext.refl _ | with_reducible refine Ext.drew ?_ | with_reducible refine Ext.drewN ?_ _ | with_reducible refine Ext.alloc ?_ _))) (by omega) hnil).mono ?_)
      rintro e w5 ⟨A3, c3, rfl, hA3, hO3, hx5⟩
      have hz5 := hx5.size
      try simp at hz5
      have X5 : Hid (Ext w w5) := Lib.hid (Ext.trans (by repeat (first | with_reducible exact X4.out | with_reducible refine Ext.drew ?_ | with_reducible refine Ext.drewN ?_ _ | with_reducible refine Ext.alloc ?_ _)) hx5)
      have HO : Hid (OwnHop w5 w.heap.size (.slice A3 l.length c3) l.length l) := Lib.hid (OwnHop.lower hO3 (by first | omega | (simp; omega)))
      clear hO3
      have n_0 : w5.cell? ⟨w4.heap.size, 0, none⟩ = some (.int .i64 x0) := hx5.has (by simp [go_sem])
      have n_1 : w5.cell? ⟨w4.heap.size, 1, none⟩ = some (.int .i64 x1) := hx5.has (by simp [go_sem])
      have n_2 : w5.cell? ⟨w4.heap.size, 2, none⟩ = some (.int .i64 x2) := hx5.has (by simp [go_sem])
      have n_3 : w5.cell? ⟨w4.heap.size, 3, none⟩ = some (.int .i64 x3) := hx5.has (by simp [go_sem])
      refine hK.out _ _ (trivial) (fun hHeld => ?_); clear hK K; try simp only [Act.put, List.setIfInBounds_toArray, List.set_cons_zero, List.set_cons_succ]
      obtain ⟨A7, c7, w7, hrun7, hO7, hB7⟩ := hop_app (w := w5) (b := w4.heap.size) (c := 1) (x0 := x0) (x1 := x1) (x2 := x2) (x3 := x3) HO.out (by omega) (Ext.size X5.out) n_0 n_1 n_2 n_3 22
      have X7 : Hid (Ext w w7) := Lib.hid (Ext.below X5.out hB7)
      clear hB7
      refine' next_in 4 rfl (by kernel_rfl) (by rfl) (fun K hK => ?_)
      refine oper_append (.tmp 46) (.tmp 48) 22 rfl rfl rfl hrun7 ?_
      refine hK.out _ _ (trivial) (fun hHeld => ?_); clear hK K; try simp only [Act.put, List.setIfInBounds_toArray, List.set_cons_zero, List.set_cons_succ]
      (refine' take_in 5 rfl (by kernel_rfl) (by kernel_rfl) (by kernel_rfl) (fun _ _ _ h => h) (by rfl) (by assumption) ?_ ?_; rotate_left; focus (intro w hSw; (try dsimp only at hSw); go_simp; try with_reducible rfl)); try simp only [Act.put, List.setIfInBounds_toArray, List.set_cons_zero, List.set_cons_succ]
      (refine' take_in 6 rfl (by kernel_rfl) (by kernel_rfl) (by kernel_rfl) (fun _ _ _ h => h) (by rfl) (by assumption) ?_ ?_; rotate_left; focus (intro w hSw; (try dsimp only at hSw); go_simp; try with_reducible rfl)); try simp only [Act.put, List.setIfInBounds_toArray, List.set_cons_zero, List.set_cons_succ]
      refine wpAnyH_done (by kernel_rfl) ?_ _
      go_wp2_with fail
      refine bodyPost_ret (v := .tuple #[.slice A7 (l.length + 1) c7, .int .i64 0]) (by simp [results, Try.results23]; try rfl) rfl (RetHopV.mk (xs := [.int .i64 0]) hO7 X7.out (by simp))
theorem addV_no {l : List (Int × Int × Int × Int)} {x : (Int × Int × Int × Int)} {mo e : Int} (h : addE l x mo = e) (hne : e ≠ 0) : addV l x mo = ([], e) := by
  unfold addV
  rw [if_neg (by rw [h]; exact hne), h]
theorem addV_ok {l : List (Int × Int × Int × Int)} {x : (Int × Int × Int × Int)} {mo : Int} (h : addE l x mo = 0) : addV l x mo = (l ++ [x], 0) := if_pos h
set_option maxRecDepth 100000 in
set_option maxHeartbeats 4000000 in
theorem hopAdd_any (A : Option Addr) (n c : Nat) (l : List (Int × Int × Int × Int)) (x0 x1 x2 x3 mo : Int) (w : World) (h : Sl w 4 A n c (l.flatMap hopC)) (hn : n < 1099511627776) (hw : ∀ x ∈ l, FitsH x) (hfx : FitsH (x0, x1, x2, x3)) (hnil : A = none → c = 0) :
    Calls Try.prog 23 #[.slice A n c, .agg #[.int .i64 x0, .int .i64 x1, .int .i64 x2, .int .i64 x3], .int .i64 mo] w (RetHopV (addV l (x0, x1, x2, x3) mo).1 [.int .i64 (addV l (x0, x1, x2, x3) mo).2] w) := by
  have hl := h.rlen hopC_len (by decide)
  obtain ⟨⟨f1, f2⟩, hf⟩ : ∃ F, F = chkH l := ⟨_, rfl⟩
  obtain ⟨mv, hm⟩ : ∃ m, m = mayV (x0, x1, x2, x3) l := ⟨_, rfl⟩
  obtain ⟨cv, hv⟩ : ∃ c, c = cntL l x0 x1 x2 := ⟨_, rfl⟩
  have hE : addE l (x0, x1, x2, x3) mo = if f1 ≠ 0 then f1 else if mv = 3 ∨ mo < 1 ∨ mo > 16 then 3 else if mv ≠ 0 then mv else if mo ≤ cv then 22 else if 4096 ≤ l.length then 4 else 0 := by
    unfold addE
    rw [← hf, ← hm, ← hv]
  by_cases hc : f1 = 0
  · by_cases h3 : mv = 3
    · rw [addV_no (e := 3) (by rw [hE]; repeat' split <;> omega) (by omega)]
      exact hopAdd_rng A n c l x0 x1 x2 x3 mo f1 f2 mv cv w h hn hw hfx hf hm hv hc h3
    by_cases h4 : mo < 1
    · rw [addV_no (e := 3) (by rw [hE]; repeat' split <;> omega) (by omega)]
      exact hopAdd_lo A n c l x0 x1 x2 x3 mo f1 f2 mv cv w h hn hw hfx hf hm hv hc h3 h4
    by_cases h5 : mo > 16
    · rw [addV_no (e := 3) (by rw [hE]; repeat' split <;> omega) (by omega)]
      exact hopAdd_hi A n c l x0 x1 x2 x3 mo f1 f2 mv cv w h hn hw hfx hf hm hv hc h3 h4 h5
    by_cases h6 : mv = 0
    · by_cases h7 : cv ≥ mo
      · rw [addV_no (e := 22) (by rw [hE]; repeat' split <;> omega) (by omega)]
        exact hopAdd_cap A n c l x0 x1 x2 x3 mo f1 f2 mv cv w h hn hw hfx hf hm hv hc h3 h4 h5 h6 h7
      by_cases h8 : 4096 ≤ n
      · rw [addV_no (e := 4) (by rw [hE]; repeat' split <;> omega) (by omega)]
        exact hopAdd_long A n c l x0 x1 x2 x3 mo f1 f2 mv cv w h hn hw hfx hf hm hv hc h3 h4 h5 h6 h7 h8
      rw [addV_ok (by rw [hE]; repeat' split <;> omega)]
      exact hopAdd_ok A n c l x0 x1 x2 x3 mo f1 f2 mv cv w h hn hw hfx hf hm hv hc h3 h4 h5 h6 h7 h8 hnil
    · rw [addV_no (e := mv) (by rw [hE]; repeat' split <;> omega) (by omega)]
      exact hopAdd_bad A n c l x0 x1 x2 x3 mo f1 f2 mv cv w h hn hw hfx hf hm hv hc h3 h4 h5 h6
  · rw [addV_no (e := f1) (by rw [hE]; repeat' split <;> omega) (by omega)]
    exact hopAdd_chk A n c l x0 x1 x2 x3 mo f1 f2 mv cv w h hn hw hfx hf hm hv hc
end
section
open Go.RowKit Go.ChangeShapes Go.WideShapes Go.Deep Go.Joins
theorem getLast_at {l : List (Int × Int × Int × Int)} {m : Nat} {y : (Int × Int × Int × Int)} (h : l[m]? = some y) (hl : l.length = m + 1) : l.getLast? = some y := by
  rw [List.getLast?_eq_getElem?, hl]
  exact h
end
section
open Go.RowKit Go.ChangeShapes Go.WideShapes Go.Deep Go.Joins
/-- why it is not told which are ripe -/
def ripE (l : List (Int × Int × Int × Int)) (hh u : Int) : Int := if (chkH l).1 ≠ 0 then (chkH l).1 else if hh < 1 ∨ hh > 4294967296 ∨ ¬ (1 ≤ u ∧ u ≤ 1048576) then 3 else 0
/-- which are ripe, and which are left -/
def ripV (l : List (Int × Int × Int × Int)) (hh u : Int) : List (Int × Int × Int × Int) × List (Int × Int × Int × Int) × Int := if ripE l hh u = 0 then (l.filter (fun x => decide (x.2.2.2 + u ≤ hh)), l.filter (fun x => !decide (x.2.2.2 + u ≤ hh)), 0) else ([], [], ripE l hh u)
/-- two lists handed back, apart from each other, and an error -/
def RetHop2 (r1 r2 : List (Int × Int × Int × Int)) (er : Int) (w : World) (e : Ending) (w' : World) : Prop := ∃ A1 c1 A2 c2, e = .returned (.tuple #[.slice A1 r1.length c1, .slice A2 r2.length c2, .int .i64 er]) ∧ (A1 = none → c1 = 0) ∧ (A2 = none → c2 = 0) ∧
  OwnHop w' w.heap.size (.slice A1 r1.length c1) r1.length r1 ∧ OwnHop w' w.heap.size (.slice A2 r2.length c2) r2.length r2 ∧ (∀ b o s b' o' s', A1 = some ⟨b, o, s⟩ → A2 = some ⟨b', o', s'⟩ → b ≠ b') ∧ Ext w w'
theorem RetHop2.nil {er : Int} {w w' : World} (hx : Ext w w') : RetHop2 [] [] er w (.returned (.tuple #[.slice none 0 0, .slice none 0 0, .int .i64 er])) w' :=
  ⟨none, 0, none, 0, rfl, fun _ => rfl, fun _ => rfl, OwnHop.nil _ _, OwnHop.nil _ _, (fun b o s b' o' s' h => by cases h), hx⟩
theorem ripV_no {l : List (Int × Int × Int × Int)} {hh u e : Int} (h : ripE l hh u = e) (hne : e ≠ 0) : ripV l hh u = ([], [], e) := by
  unfold ripV
  rw [if_neg (by rw [h]; exact hne), h]
set_option maxRecDepth 100000 in
set_option maxHeartbeats 4000000 in
theorem hopRipe_chk (A : Option Addr) (n c : Nat) (l : List (Int × Int × Int × Int)) (hh u f1 f2 : Int) (w : World) (h : Sl w 4 A n c (l.flatMap hopC)) (hw : ∀ x ∈ l, FitsH x) (hf : (f1, f2) = chkH l) (hc : f1 ≠ 0) :
    Calls Try.prog 25 #[.slice A n c, .int .i64 hh, .int .i64 u] w (RetHop2 [] [] f1 w) := by
  have s1 := h.small
  have e0 : (f1 != 0) = true := by simpa using hc
  have HS := Lib.hid h
  have HW := Lib.hid hw
  have HF := Lib.hid hf
  clear h hw hf
  go_enter Try.func25, Try.ntmps25
  go_wp2_with fail
  (with_reducible refine (hopCheck_ev A n c l f1 f2 _ (HS.out.ext (by repeat (first | with_reducible exact Ext.refl _ | with_reducible refine Ext.drew ?_ | with_reducible refine Ext.drewN ?_ _ | with_reducible refine Ext.alloc ?_ _ | with_reducible refine Ext.setCell ?_ (by first | omega | (simp; done) | (simp; omega)) _))) (fits_t HW.out) HF.out).mono ?_)
  rintro e w1 ⟨rfl, hx1⟩
  have z1 := hx1.size
  try simp at z1
  replace HS := Lib.hid (HS.out.ext (Ext.trans (by repeat (first | with_reducible exact Ext.refl _ | with_reducible refine Ext.drew ?_ | with_reducible refine Ext.drewN ?_ _ | with_reducible refine Ext.alloc ?_ _ | with_reducible refine Ext.setCell ?_ (by first | omega | (simp; done) | (simp; omega)) _)) hx1))
  have X1 : Hid (Ext w w1) := Lib.hid (Ext.trans (by repeat (first | with_reducible exact Ext.refl w | with_reducible refine Ext.drew ?_ | with_reducible refine Ext.drewN ?_ _ | with_reducible refine Ext.alloc ?_ _ | with_reducible refine Ext.setCell ?_ (by first | omega | (simp; done) | (simp; omega)) _)) hx1)
  clear hx1 z1
  go_wp2_with fail
  refine bodyPost_ret (v := .tuple #[.slice none 0 0, .slice none 0 0, .int .i64 f1]) (by simp [results, Try.results25, go_sem, World.cell?_alloc_past]; try rfl) rfl (RetHop2.nil ?_)
  exact (by repeat (first | with_reducible exact X1.out | with_reducible refine Ext.drew ?_ | with_reducible refine Ext.drewN ?_ _ | with_reducible refine Ext.alloc ?_ _ | with_reducible refine Ext.setCell ?_ (by first | omega | (simp; done) | (simp; omega)) _))
set_option maxRecDepth 100000 in
set_option maxHeartbeats 4000000 in
theorem hopRipe_lo (A : Option Addr) (n c : Nat) (l : List (Int × Int × Int × Int)) (hh u f1 f2 : Int) (w : World) (h : Sl w 4 A n c (l.flatMap hopC)) (hw : ∀ x ∈ l, FitsH x) (hf : (f1, f2) = chkH l) (hc : f1 = 0) (h4 : hh < 1) :
    Calls Try.prog 25 #[.slice A n c, .int .i64 hh, .int .i64 u] w (RetHop2 [] [] 3 w) := by
  have s1 := h.small
  subst hc
  have HS := Lib.hid h
  have HW := Lib.hid hw
  have HF := Lib.hid hf
  clear h hw hf
  go_enter Try.func25, Try.ntmps25
  go_wp2_with fail
  (with_reducible refine (hopCheck_ev A n c l 0 f2 _ (HS.out.ext (by repeat (first | with_reducible exact Ext.refl _ | with_reducible refine Ext.drew ?_ | with_reducible refine Ext.drewN ?_ _ | with_reducible refine Ext.alloc ?_ _ | with_reducible refine Ext.setCell ?_ (by first | omega | (simp; done) | (simp; omega)) _))) (fits_t HW.out) HF.out).mono ?_)
  rintro e w1 ⟨rfl, hx1⟩
  have z1 := hx1.size
  try simp at z1
  replace HS := Lib.hid (HS.out.ext (Ext.trans (by repeat (first | with_reducible exact Ext.refl _ | with_reducible refine Ext.drew ?_ | with_reducible refine Ext.drewN ?_ _ | with_reducible refine Ext.alloc ?_ _ | with_reducible refine Ext.setCell ?_ (by first | omega | (simp; done) | (simp; omega)) _)) hx1))
  have X1 : Hid (Ext w w1) := Lib.hid (Ext.trans (by repeat (first | with_reducible exact Ext.refl w | with_reducible refine Ext.drew ?_ | with_reducible refine Ext.drewN ?_ _ | with_reducible refine Ext.alloc ?_ _ | with_reducible refine Ext.setCell ?_ (by first | omega | (simp; done) | (simp; omega)) _)) hx1)
  clear hx1 z1
  go_wp2_with fail
  refine bodyPost_ret (v := .tuple #[.slice none 0 0, .slice none 0 0, .int .i64 3]) (by simp [results, Try.results25, go_sem, World.cell?_alloc_past]; try rfl) rfl (RetHop2.nil ?_)
  exact (by repeat (first | with_reducible exact X1.out | with_reducible refine Ext.drew ?_ | with_reducible refine Ext.drewN ?_ _ | with_reducible refine Ext.alloc ?_ _ | with_reducible refine Ext.setCell ?_ (by first | omega | (simp; done) | (simp; omega)) _))
set_option maxRecDepth 100000 in
set_option maxHeartbeats 4000000 in
theorem hopRipe_hi (A : Option Addr) (n c : Nat) (l : List (Int × Int × Int × Int)) (hh u f1 f2 : Int) (w : World) (h : Sl w 4 A n c (l.flatMap hopC)) (hw : ∀ x ∈ l, FitsH x) (hf : (f1, f2) = chkH l) (hc : f1 = 0) (h4 : ¬ hh < 1) (h5 : hh > 4294967296) :
    Calls Try.prog 25 #[.slice A n c, .int .i64 hh, .int .i64 u] w (RetHop2 [] [] 3 w) := by
  have s1 := h.small
  subst hc
  have HS := Lib.hid h
  have HW := Lib.hid hw
  have HF := Lib.hid hf
  clear h hw hf
  go_enter Try.func25, Try.ntmps25
  go_wp2_with fail
  (with_reducible refine (hopCheck_ev A n c l 0 f2 _ (HS.out.ext (by repeat (first | with_reducible exact Ext.refl _ | with_reducible refine Ext.drew ?_ | with_reducible refine Ext.drewN ?_ _ | with_reducible refine Ext.alloc ?_ _ | with_reducible refine Ext.setCell ?_ (by first | omega | (simp; done) | (simp; omega)) _))) (fits_t HW.out) HF.out).mono ?_)
  rintro e w1 ⟨rfl, hx1⟩
  have z1 := hx1.size
  try simp at z1
  replace HS := Lib.hid (HS.out.ext (Ext.trans (by repeat (first | with_reducible exact Ext.refl _ | with_reducible refine Ext.drew ?_ | with_reducible refine Ext.drewN ?_ _ | with_reducible refine Ext.alloc ?_ _ | with_reducible refine Ext.setCell ?_ (by first | omega | (simp; done) | (simp; omega)) _)) hx1))
  have X1 : Hid (Ext w w1) := Lib.hid (Ext.trans (by repeat (first | with_reducible exact Ext.refl w | with_reducible refine Ext.drew ?_ | with_reducible refine Ext.drewN ?_ _ | with_reducible refine Ext.alloc ?_ _ | with_reducible refine Ext.setCell ?_ (by first | omega | (simp; done) | (simp; omega)) _)) hx1)
  clear hx1 z1
  go_wp2_with fail
  refine bodyPost_ret (v := .tuple #[.slice none 0 0, .slice none 0 0, .int .i64 3]) (by simp [results, Try.results25, go_sem, World.cell?_alloc_past]; try rfl) rfl (RetHop2.nil ?_)
  exact (by repeat (first | with_reducible exact X1.out | with_reducible refine Ext.drew ?_ | with_reducible refine Ext.drewN ?_ _ | with_reducible refine Ext.alloc ?_ _ | with_reducible refine Ext.setCell ?_ (by first | omega | (simp; done) | (simp; omega)) _))
set_option maxRecDepth 100000 in
set_option maxHeartbeats 4000000 in
theorem hopRipe_tm (A : Option Addr) (n c : Nat) (l : List (Int × Int × Int × Int)) (hh u f1 f2 : Int) (w : World) (h : Sl w 4 A n c (l.flatMap hopC)) (hw : ∀ x ∈ l, FitsH x) (hf : (f1, f2) = chkH l) (hc : f1 = 0) (h4 : ¬ hh < 1) (h5 : ¬ hh > 4294967296) (h6 : ¬ (1 ≤ u ∧ u ≤ 1048576)) :
    Calls Try.prog 25 #[.slice A n c, .int .i64 hh, .int .i64 u] w (RetHop2 [] [] 3 w) := by
  have s1 := h.small
  subst hc
  have HB : Hid (false = decide (1 ≤ u ∧ u ≤ 1048576)) := Lib.hid (decide_eq_false h6).symm
  have HS := Lib.hid h
  have HW := Lib.hid hw
  have HF := Lib.hid hf
  clear h hw hf
  go_enter Try.func25, Try.ntmps25
  go_wp2_with fail
  (with_reducible refine (hopCheck_ev A n c l 0 f2 _ (HS.out.ext (by repeat (first | with_reducible exact Ext.refl _ | with_reducible refine Ext.drew ?_ | with_reducible refine Ext.drewN ?_ _ | with_reducible refine Ext.alloc ?_ _ | with_reducible refine Ext.setCell ?_ (by first | omega | (simp; done) | (simp; omega)) _))) (fits_t HW.out) HF.out).mono ?_)
  rintro e w1 ⟨rfl, hx1⟩
  have z1 := hx1.size
  try simp at z1
  replace HS := Lib.hid (HS.out.ext (Ext.trans (by repeat (first | with_reducible exact Ext.refl _ | with_reducible refine Ext.drew ?_ | with_reducible refine Ext.drewN ?_ _ | with_reducible refine Ext.alloc ?_ _ | with_reducible refine Ext.setCell ?_ (by first | omega | (simp; done) | (simp; omega)) _)) hx1))
  have X1 : Hid (Ext w w1) := Lib.hid (Ext.trans (by repeat (first | with_reducible exact Ext.refl w | with_reducible refine Ext.drew ?_ | with_reducible refine Ext.drewN ?_ _ | with_reducible refine Ext.alloc ?_ _ | with_reducible refine Ext.setCell ?_ (by first | omega | (simp; done) | (simp; omega)) _)) hx1)
  clear hx1 z1
  go_wp2_with fail
  (with_reducible refine (hopTime_any u false _ HB.out).mono ?_)
  rintro e w2 ⟨rfl, hx2⟩
  have z2 := hx2.size
  try simp at z2
  replace HS := Lib.hid (HS.out.ext (Ext.trans (by repeat (first | with_reducible exact Ext.refl _ | with_reducible refine Ext.drew ?_ | with_reducible refine Ext.drewN ?_ _ | with_reducible refine Ext.alloc ?_ _ | with_reducible refine Ext.setCell ?_ (by first | omega | (simp; done) | (simp; omega)) _)) hx2))
  have X2 : Hid (Ext w w2) := Lib.hid (Ext.trans (by repeat (first | with_reducible exact X1.out | with_reducible refine Ext.drew ?_ | with_reducible refine Ext.drewN ?_ _ | with_reducible refine Ext.alloc ?_ _ | with_reducible refine Ext.setCell ?_ (by first | omega | (simp; done) | (simp; omega)) _)) hx2)
  clear X1 hx2 z2
  go_wp2_with fail
  refine bodyPost_ret (v := .tuple #[.slice none 0 0, .slice none 0 0, .int .i64 3]) (by simp [results, Try.results25, go_sem, World.cell?_alloc_past]; try rfl) rfl (RetHop2.nil ?_)
  exact (by repeat (first | with_reducible exact X2.out | with_reducible refine Ext.drew ?_ | with_reducible refine Ext.drewN ?_ _ | with_reducible refine Ext.alloc ?_ _ | with_reducible refine Ext.setCell ?_ (by first | omega | (simp; done) | (simp; omega)) _))
end
section
open Go.RowKit Go.ChangeShapes Go.WideShapes Go.Deep Go.Joins
set_option maxRecDepth 100000 in
set_option maxHeartbeats 4000000 in
theorem hopAfter_any (A : Option Addr) (n c k : Nat) (l : List (Int × Int × Int × Int)) (hh u x0 x1 x2 x3 y : Int) (b : Bool) (w : World) (h : Sl w 4 A n c (l.flatMap hopC)) (hk : l[k]? = some (x0, x1, x2, x3)) (hwr : IntKind.i64.wrap (x3 + u) = y) (hb : b = decide (y > hh)) :
    Calls Try.prog 95 #[.agg #[.slice A n c, .int .i64 hh, .int .i64 u], .int .i64 (k : Int)] w fun e w' => e = .returned (.bool b) ∧ Ext w w' := by
  have hl := h.rlen hopC_len (by decide)
  have hkl := (List.getElem?_eq_some_iff.1 hk).1
  have hkn : (k : Int) < n := by omega
  obtain ⟨b1, o1, rfl, hb1, hc1⟩ := h.rec_ hopC_len (show 0 < n from by omega)
  have x_3 := hc1 k _ hk 3 _ rfl
  rw [← Nat.add_assoc] at x_3
  have s1 := h.small
  have rx := hb1
  have rxa : b1 < w.heap.size + 1 := by omega
  have rxb : b1 < w.heap.size + 1 + 1 := by omega
  have rxc : b1 < w.heap.size + 1 + 1 + 1 := by omega
  have rxn : ¬ b1 = w.heap.size := by omega
  have HS := Lib.hid h
  have HB := Lib.hid hb
  clear h hc1 hl hkl hk hb
  go_enter Try.func95, Try.ntmps95
  go_wp2_with fail
  refine wp_region_held_drew (S := fun w' => w'.cell? ⟨w.heap.size, 0, none⟩ = some (.slice (some ⟨b1, o1, none⟩) n c) ∧ w'.cell? ⟨w.heap.size, 1, none⟩ = some (.int .i64 hh) ∧ w'.cell? ⟨w.heap.size, 2, none⟩ = some (.int .i64 u) ∧ w'.cell? ⟨b1, o1 + k * 4 + 3, none⟩ = some (.int .i64 x3)) (by kernel_rfl) (by first | exact ⟨c0_0, c0_1, c0_2, x_3⟩ | (simp [go_sem, World.cell?_alloc_past, x_3, rx, rxa, rxb, rxc, rxn]; done)) (fun hHeld => ?_)
  (refine' take_in 0 rfl (by kernel_rfl) (by kernel_rfl) (by kernel_rfl) (fun _ _ _ h => h) (by rfl) (by assumption) ?_ ?_; rotate_left; focus (intro w hSw; (try dsimp only at hSw); go_simp; try with_reducible rfl)); try simp only [Act.put, List.setIfInBounds_toArray, List.set_cons_zero, List.set_cons_succ]
  (refine' take_in 1 rfl (by kernel_rfl) (by kernel_rfl) (by kernel_rfl) (fun _ _ _ h => h) (by rfl) (by assumption) ?_ ?_; rotate_left; focus (intro w hSw; (try dsimp only at hSw); go_simp; try with_reducible rfl)); try simp only [Act.put, List.setIfInBounds_toArray, List.set_cons_zero, List.set_cons_succ]
  (refine' take_in 2 rfl (by kernel_rfl) (by kernel_rfl) (by kernel_rfl) (fun _ _ _ h => h) (by rfl) (by assumption) ?_ ?_; rotate_left; focus (intro w hSw; (try dsimp only at hSw); go_simp; try with_reducible rfl)); try simp only [Act.put, List.setIfInBounds_toArray, List.set_cons_zero, List.set_cons_succ]
  (refine' take_in 3 rfl (by kernel_rfl) (by kernel_rfl) (by kernel_rfl) (fun _ _ _ h => h) (by rfl) (by assumption) ?_ ?_; rotate_left; focus (intro w hSw; (try dsimp only at hSw); go_simp; try with_reducible rfl)); try simp only [Act.put, List.setIfInBounds_toArray, List.set_cons_zero, List.set_cons_succ]
  (refine' take_in 4 rfl (by kernel_rfl) (by kernel_rfl) (by kernel_rfl) (fun _ _ _ h => h) (by rfl) (by assumption) ?_ ?_; rotate_left; focus (intro w hSw; (try dsimp only at hSw); go_simp; try with_reducible rfl)); try simp only [Act.put, List.setIfInBounds_toArray, List.set_cons_zero, List.set_cons_succ]
  (refine' take_in 5 rfl (by kernel_rfl) (by kernel_rfl) (by kernel_rfl) (fun _ _ _ h => h) (by rfl) (by assumption) ?_ ?_; rotate_left; focus (intro w hSw; (try dsimp only at hSw); go_simp; try with_reducible rfl)); try simp only [Act.put, List.setIfInBounds_toArray, List.set_cons_zero, List.set_cons_succ]
  (refine' take_in 6 rfl (by kernel_rfl) (by kernel_rfl) (by kernel_rfl) (fun _ _ _ h => h) (by rfl) (by assumption) ?_ ?_; rotate_left; focus (intro w hSw; (try dsimp only at hSw); go_simp; try with_reducible rfl)); try simp only [Act.put, List.setIfInBounds_toArray, List.set_cons_zero, List.set_cons_succ]
  (refine' take_in 7 rfl (by kernel_rfl) (by kernel_rfl) (by kernel_rfl) (fun _ _ _ h => h) (by rfl) (by assumption) ?_ ?_; rotate_left; focus (intro w hSw; (try dsimp only at hSw); go_simp; try with_reducible rfl)); try simp only [Act.put, List.setIfInBounds_toArray, List.set_cons_zero, List.set_cons_succ]
  (refine' take_in 8 rfl (by kernel_rfl) (by kernel_rfl) (by kernel_rfl) (fun _ _ _ h => h) (by rfl) (by assumption) ?_ ?_; rotate_left; focus (intro w hSw; (try dsimp only at hSw); go_simp; try with_reducible rfl)); try simp only [Act.put, List.setIfInBounds_toArray, List.set_cons_zero, List.set_cons_succ]
  (refine' take_in 9 rfl (by kernel_rfl) (by kernel_rfl) (by kernel_rfl) (fun _ _ _ h => h) (by rfl) (by assumption) ?_ ?_; rotate_left; focus (intro w hSw; (try dsimp only at hSw); go_simp; try with_reducible rfl)); try simp only [Act.put, List.setIfInBounds_toArray, List.set_cons_zero, List.set_cons_succ]
  (refine' take_in 10 rfl (by kernel_rfl) (by kernel_rfl) (by kernel_rfl) (fun _ _ _ h => h) (by rfl) (by assumption) ?_ ?_; rotate_left; focus (intro w hSw; (try dsimp only at hSw); go_simp; try with_reducible rfl)); try simp only [Act.put, List.setIfInBounds_toArray, List.set_cons_zero, List.set_cons_succ]
  (refine' take_in 11 rfl (by kernel_rfl) (by kernel_rfl) (by kernel_rfl) (fun _ _ _ h => h) (by rfl) (by assumption) ?_ ?_; rotate_left; focus (intro w hSw; (try dsimp only at hSw); go_simp; try with_reducible rfl)); try simp only [Act.put, List.setIfInBounds_toArray, List.set_cons_zero, List.set_cons_succ]
  (refine' take_in 12 rfl (by kernel_rfl) (by kernel_rfl) (by kernel_rfl) (fun _ _ _ h => h) (by rfl) (by assumption) ?_ ?_; rotate_left; focus (intro w hSw; (try dsimp only at hSw); go_simp; try with_reducible rfl)); try simp only [Act.put, List.setIfInBounds_toArray, List.set_cons_zero, List.set_cons_succ]
  refine wpAnyH_done (by kernel_rfl) ?_ _
  go_wp2_with fail
  go_ret
  exact ⟨by rw [HB.out]; first | done | rfl | simp, (by repeat (first | with_reducible exact Ext.refl w | with_reducible refine Ext.drew ?_ | with_reducible refine Ext.drewN ?_ _ | with_reducible refine Ext.alloc ?_ _ | with_reducible refine Ext.setCell ?_ (by first | omega | (simp; done) | (simp; omega)) _))⟩
end
section
open Go.RowKit
/-- two slices share no block -/
def Apart (v v2 : Value) : Prop := ∀ k, v.ownBlock = some k → v2.ownBlock ≠ some k
theorem Apart.symm {v v2 : Value} (h : Apart v v2) : Apart v2 v := fun k h2 h1 => h k h1 h2
theorem Apart.nil (v : Value) : Apart v (.slice none 0 0) := fun k _ h => by simp [Value.ownBlock] at h
section
variable {P : Program} (w : World)
end
end
section
open Go.RowKit Go.ChangeShapes Go.WideShapes Go.Deep Go.Joins
set_option maxRecDepth 100000 in
set_option maxHeartbeats 4000000 in
theorem sortSearch_at (g : Nat) (bd cp : Array Value) (n m : Nat) (w : World) (eg : ∀ args w, (callFunc g args).run Try.prog w = .ok (.enter g args) w) (hn : n < 4611686018427387904) (hm : m ≤ n)
    (hf : ∀ (wx : World) (i : Nat), Ext w wx → i < n → Calls Try.prog g (bd ++ #[.int .i64 (i : Int)] ++ cp) wx fun e w' => e = .returned (.bool (decide (m ≤ i))) ∧ Ext wx w') :
    Calls Try.prog 94 #[.int .i64 n, .func (.func g) bd cp] w fun e w' => e = .returned (.int .i64 (m : Int)) ∧ Ext w w' := by
  have HF := Lib.hid hf
  clear hf
  go_enter Try.func94, Try.ntmps94
  go_wp2
  go_loopg [5, 6] n (fun gh s5 s6 wr => ∃ (lo hi : Nat), s5 = .int .i64 lo ∧ s6 = .int .i64 hi ∧ lo ≤ m ∧ m ≤ hi ∧ hi ≤ n ∧ hi - lo ≤ gh ∧ Hid (Ext w wr))
  case atStart => exact ⟨0, n, rfl, rfl, Nat.zero_le _, hm, Nat.le_refl _, by omega, Lib.hid (Ext.refl _)⟩
  case round =>
    obtain ⟨lo, hi, rfl, rfl, h1, h2, h3, h4, X⟩ := hrel
    by_cases hlt : lo < hi
    · have hc := HF.out wr ((lo + hi) / 2) X.out (by omega)
      rw [show (((lo + hi) / 2 : Nat) : Int) = ((lo : Int) + (hi : Int)) / 2 by omega] at hc
      by_cases hp : m ≤ (lo + hi) / 2
      · rw [decide_eq_true hp] at hc
        go_wp2_with (go_at_fn g; refine hc.mono ?_; rintro e w' ⟨rfl, hx⟩; have X2 := Lib.hid (Ext.trans X.out hx); clear hx hc)
        go_roundg ((lo + hi) / 2 - lo)
        case measure => omega
        case rel => exact ⟨lo, (lo + hi) / 2, rfl, by rw [show ((lo : Int) + (hi : Int)) / 2 = (((lo + hi) / 2 : Nat) : Int) by omega], h1, hp, by omega, by omega, X2⟩
      · rw [decide_eq_false hp] at hc
        go_wp2_with (go_at_fn g; refine hc.mono ?_; rintro e w' ⟨rfl, hx⟩; have X2 := Lib.hid (Ext.trans X.out hx); clear hx hc)
        go_roundg (hi - ((lo + hi) / 2 + 1))
        case measure => omega
        case rel => exact ⟨(lo + hi) / 2 + 1, hi, by rw [show ((lo : Int) + (hi : Int)) / 2 + 1 = (((lo + hi) / 2 + 1 : Nat) : Int) by omega], rfl, by omega, h2, h3, by omega, X2⟩
    · obtain rfl : lo = m := by omega
      obtain rfl : hi = lo := by omega
      go_wp2
      go_ret
      exact ⟨rfl, X.out⟩
end
section
open Go.RowKit Go.ChangeShapes Go.WideShapes Go.Deep Go.Joins
theorem split_false {α : Type} {l : List α} {q : α → Bool} (h : ∀ x ∈ l, q x = false) : l.filter q = [] ∧ l.filter (fun x => !q x) = l := by
  refine ⟨List.filter_eq_nil_iff.2 (fun x hx => by rw [h x hx]; simp), List.filter_eq_self.2 (fun x hx => by rw [h x hx]; rfl)⟩
/-- a list of which what holds stands ahead of what does not, split -/
theorem split_mono {α : Type} (q : α → Bool) : ∀ (l : List α), (∀ (i j : Nat) x y, i ≤ j → l[i]? = some x → l[j]? = some y → q y = true → q x = true) →
    ∃ m, m ≤ l.length ∧ l.filter q = l.take m ∧ l.filter (fun x => !q x) = l.drop m ∧ ∀ (k : Nat) x, l[k]? = some x → q x = decide (k < m)
  | [], _ => ⟨0, Nat.le_refl _, rfl, rfl, fun k x h => by simp at h⟩
  | a :: l, h => by
    cases ha : q a with
    | false =>
      have hall : ∀ x ∈ a :: l, q x = false := by
        intro x hx
        obtain ⟨j, hj⟩ := List.getElem?_of_mem hx
        cases hq : q x with
        | false => rfl
        | true => have := h 0 j a x (Nat.zero_le _) rfl hj hq; rw [ha] at this; cases this
      obtain ⟨h1, h2⟩ := split_false hall
      refine ⟨0, Nat.zero_le _, h1, h2, fun k x hk => ?_⟩
      rw [hall x (List.mem_of_getElem? hk)]
      simp
    | true =>
      obtain ⟨m, h1, h2, h3, h4⟩ := split_mono q l (fun i j x y hij hx hy => h (i + 1) (j + 1) x y (by omega) (by simpa using hx) (by simpa using hy))
      refine ⟨m + 1, by simpa using h1, by rw [List.filter_cons_of_pos ha, h2]; rfl, by rw [List.filter_cons_of_neg (by rw [ha]; simp), h3]; rfl, fun k x hk => ?_⟩
      cases k with
      | zero => simp at hk; subst hk; rw [ha]; simp
      | succ k => rw [h4 k x (by simpa using hk)]; simp
theorem chkH_sorted {l : List (Int × Int × Int × Int)} (h : (chkH l).1 = 0) : ∀ (i j : Nat) (x y : (Int × Int × Int × Int)), i ≤ j → l[i]? = some x → l[j]? = some y → x.2.2.2 ≤ y.2.2.2 := by
  obtain ⟨_, _, hz⟩ := chkH_zero h
  intro i j
  induction j with
  | zero => intro x y hij hx hy; obtain rfl : i = 0 := by omega
            rw [hx] at hy; obtain rfl := Option.some.inj hy; exact Int.le_refl _
  | succ j ih =>
    intro x y hij hx hy
    by_cases e : i = j + 1
    · subst e; rw [hx] at hy; obtain rfl := Option.some.inj hy; exact Int.le_refl _
    · have hj : j < l.length := by have := (List.getElem?_eq_some_iff.1 hy).1; omega
      have hz1 := hz (j + 1) y hy
      have hm := mayV_may hz1
      rw [mayV_next hm (List.getElem?_eq_getElem hj)] at hz1
      have h2 : ¬ y.2.2.2 < l[j].2.2.2 := by intro h2; rw [if_pos h2] at hz1; cases hz1
      have := ih x l[j] (by omega) hx (List.getElem?_eq_getElem hj)
      omega
theorem chkH_may {l : List (Int × Int × Int × Int)} (h : (chkH l).1 = 0) : ∀ x ∈ l, MayH x := by
  obtain ⟨_, _, hz⟩ := chkH_zero h
  intro x hx
  obtain ⟨j, hj⟩ := List.getElem?_of_mem hx
  exact mayV_may (hz j x hj)
theorem ripV_ok {l : List (Int × Int × Int × Int)} {hh u : Int} (h : ripE l hh u = 0) : ripV l hh u = (l.filter (fun x => decide (x.2.2.2 + u ≤ hh)), l.filter (fun x => !decide (x.2.2.2 + u ≤ hh)), 0) := if_pos h
theorem hClone_n (A : Option Addr) (n c : Nat) (l : List (Int × Int × Int × Int)) (w : World) (h : Sl w 4 A n c (l.flatMap hopC)) (hn : n < 1099511627776) (hnil : A = none → c = 0) (hl : l.length = n) :
    Calls Try.prog 93 #[.slice A n c] w fun e w' => ∃ A' c', e = .returned (.slice A' n c') ∧ (A' = none → c' = 0) ∧ OwnHop w' w.heap.size (.slice A' n c') n l ∧ Ext w w' := by
  subst hl
  exact hClone_any A c l w h hn hnil
theorem Sl.hdrop {w : World} {A : Option Addr} {n c k : Nat} {l : List (Int × Int × Int × Int)} (h : Sl w 4 A n c (l.flatMap hopC)) (hk : k ≤ n) : Sl w 4 (if c = k then A else A.map (·.add (k * 4))) (n - k) (c - k) ((l.drop k).flatMap hopC) := by
  have e : l = l.take k ++ l.drop k := (List.take_append_drop k l).symm
  have hl := h.rlen hopC_len (by decide)
  have h1 : (l.flatMap hopC).drop (k * 4) = (l.drop k).flatMap hopC := by
    conv => lhs; rw [e, List.flatMap_append]
    rw [List.drop_append_of_le_length (by rw [flat_len hopC_len, List.length_take]; omega), List.drop_eq_nil_of_le (by rw [flat_len hopC_len, List.length_take]; omega), List.nil_append]
  rw [← h1]
  exact Sl.drop h hk
set_option maxRecDepth 100000 in
set_option maxHeartbeats 4000000 in
theorem hopRipe_ok (A : Option Addr) (n c m : Nat) (l : List (Int × Int × Int × Int)) (hh u f2 : Int) (w : World) (h : Sl w 4 A n c (l.flatMap hopC)) (hn : n < 1099511627776) (hw : ∀ x ∈ l, FitsH x) (hf : (0, f2) = chkH l) (h4 : ¬ hh < 1) (h5 : ¬ hh > 4294967296) (h6 : 1 ≤ u ∧ u ≤ 1048576) (hnil : A = none → c = 0) (hm : m ≤ n) (hq : ∀ (k : Nat) x, l[k]? = some x → decide (x.2.2.2 + u ≤ hh) = decide (k < m)) :
    Calls Try.prog 25 #[.slice A n c, .int .i64 hh, .int .i64 u] w (RetHop2 (l.take m) (l.drop m) 0 w) := by
  have s1 := h.small
  have hl := h.rlen hopC_len (by decide)
  have hcap := h.2.1
  have hmy := chkH_may (l := l) (by rw [← hf])
  have hH : ∀ (w1 wx : World), Sl w1 4 A n c (l.flatMap hopC) → ∀ i : Nat, Ext w1 wx → i < n → Calls Try.prog 95 (#[.agg #[.slice A n c, .int .i64 hh, .int .i64 u]] ++ #[.int .i64 (i : Int)] ++ #[]) wx fun e w' => e = .returned (.bool (decide (m ≤ i))) ∧ Ext wx w' := by
    intro w1 wx hs i hx hi
    obtain ⟨⟨x0, x1, x2, x3⟩, hk⟩ : ∃ x, l[i]? = some x := ⟨l[i], List.getElem?_eq_getElem (by omega)⟩
    have h1 := (hmy _ (List.mem_of_getElem? hk)).2.2.2.2
    dsimp only at h1
    refine hopAfter_any A n c i l hh u x0 x1 x2 x3 (x3 + u) _ wx (hs.ext hx) hk (IntWalk.i64_in _ (by omega)) ?_
    have h2 := hq i _ hk
    dsimp only at h2
    rw [decide_eq_decide] at h2 ⊢
    omega
  have HH := Lib.hid hH
  have HB : Hid (true = decide (1 ≤ u ∧ u ≤ 1048576)) := Lib.hid (decide_eq_true h6).symm
  have HL := Lib.hid hl
  have HS := Lib.hid h
  have HW := Lib.hid hw
  have HF := Lib.hid hf
  have hmi : (m : Int) ≤ n := by omega
  have hmc : (m : Int) ≤ c := by omega
  have eg : ∀ (args : Array Value) (w : World), (callFunc 95 args).run Try.prog w = .ok (.enter 95 args) w := enters_of (P := Try.prog) Try.func95 (by kernel_rfl) rfl
  clear h hw hf hmy hq hH
  go_enter Try.func25, Try.ntmps25
  go_wp2_with fail
  (with_reducible refine (hopCheck_ev A n c l 0 f2 _ (HS.out.ext (by repeat (first | with_reducible exact Ext.refl _ | with_reducible refine Ext.drew ?_ | with_reducible refine Ext.drewN ?_ _ | with_reducible refine Ext.alloc ?_ _ | with_reducible refine Ext.setCell ?_ (by first | omega | (simp; done) | (simp; omega)) _))) (fits_t HW.out) HF.out).mono ?_)
  rintro e w1 ⟨rfl, hx1⟩
  have z1 := hx1.size
  try simp at z1
  replace HS := Lib.hid (HS.out.ext (Ext.trans (by repeat (first | with_reducible exact Ext.refl _ | with_reducible refine Ext.drew ?_ | with_reducible refine Ext.drewN ?_ _ | with_reducible refine Ext.alloc ?_ _ | with_reducible refine Ext.setCell ?_ (by first | omega | (simp; done) | (simp; omega)) _)) hx1))
  have X1 : Hid (Ext w w1) := Lib.hid (Ext.trans (by repeat (first | with_reducible exact Ext.refl w | with_reducible refine Ext.drew ?_ | with_reducible refine Ext.drewN ?_ _ | with_reducible refine Ext.alloc ?_ _ | with_reducible refine Ext.setCell ?_ (by first | omega | (simp; done) | (simp; omega)) _)) hx1)
  clear hx1 z1
  go_wp2_with fail
  (with_reducible refine (hopTime_any u true _ HB.out).mono ?_)
  rintro e w2 ⟨rfl, hx2⟩
  have z2 := hx2.size
  try simp at z2
  replace HS := Lib.hid (HS.out.ext (Ext.trans (by repeat (first | with_reducible exact Ext.refl _ | with_reducible refine Ext.drew ?_ | with_reducible refine Ext.drewN ?_ _ | with_reducible refine Ext.alloc ?_ _ | with_reducible refine Ext.setCell ?_ (by first | omega | (simp; done) | (simp; omega)) _)) hx2))
  have X2 : Hid (Ext w w2) := Lib.hid (Ext.trans (by repeat (first | with_reducible exact X1.out | with_reducible refine Ext.drew ?_ | with_reducible refine Ext.drewN ?_ _ | with_reducible refine Ext.alloc ?_ _ | with_reducible refine Ext.setCell ?_ (by first | omega | (simp; done) | (simp; omega)) _)) hx2)
  clear X1 hx2 z2
  go_wp2_with fail
  (with_reducible refine (sortSearch_at 95 #[.agg #[.slice A n c, .int .i64 hh, .int .i64 u]] #[] n m _ eg (by omega) hm (fun wx i hx hi => HH.out _ wx (HS.out.ext (by repeat (first | with_reducible exact Ext.refl _ | with_reducible refine Ext.drew ?_ | with_reducible refine Ext.drewN ?_ _ | with_reducible refine Ext.alloc ?_ _ | with_reducible refine Ext.setCell ?_ (by first | omega | (simp; done) | (simp; omega)) _))) i hx hi)).mono ?_)
  rintro e w3 ⟨rfl, hx3⟩
  have z3 := hx3.size
  try simp at z3
  replace HS := Lib.hid (HS.out.ext (Ext.trans (by repeat (first | with_reducible exact Ext.refl _ | with_reducible refine Ext.drew ?_ | with_reducible refine Ext.drewN ?_ _ | with_reducible refine Ext.alloc ?_ _ | with_reducible refine Ext.setCell ?_ (by first | omega | (simp; done) | (simp; omega)) _)) hx3))
  have X3 : Hid (Ext w w3) := Lib.hid (Ext.trans (by repeat (first | with_reducible exact X2.out | with_reducible refine Ext.drew ?_ | with_reducible refine Ext.drewN ?_ _ | with_reducible refine Ext.alloc ?_ _ | with_reducible refine Ext.setCell ?_ (by first | omega | (simp; done) | (simp; omega)) _)) hx3)
  clear X2 hx3 z3
  go_wp2_with fail
  refine wp_region_held_drew (S := fun _ => True) (by kernel_rfl) trivial (fun hHeld => ?_)
  (refine' take_in 0 rfl (by kernel_rfl) (by kernel_rfl) (by kernel_rfl) (fun _ _ _ h => h) (by rfl) (by assumption) ?_ ?_; rotate_left; focus (intro w hSw; (try dsimp only at hSw); go_simp; try with_reducible rfl)); try simp only [Act.put, List.setIfInBounds_toArray, List.set_cons_zero, List.set_cons_succ]
  (refine' take_in 1 rfl (by kernel_rfl) (by kernel_rfl) (by kernel_rfl) (fun _ _ _ h => h) (by rfl) (by assumption) ?_ ?_; rotate_left; focus (intro w hSw; (try dsimp only at hSw); go_simp; try with_reducible rfl)); try simp only [Act.put, List.setIfInBounds_toArray, List.set_cons_zero, List.set_cons_succ]
  (refine' take_in 2 rfl (by kernel_rfl) (by kernel_rfl) (by kernel_rfl) (fun _ _ _ h => h) (by rfl) (by assumption) ?_ ?_; rotate_left; focus (intro w hSw; (try dsimp only at hSw); go_simp; try with_reducible rfl)); try simp only [Act.put, List.setIfInBounds_toArray, List.set_cons_zero, List.set_cons_succ]
  (refine' take_in 4 rfl (by kernel_rfl) (by kernel_rfl) (by kernel_rfl) (fun _ _ _ h => h) (by rfl) (by assumption) ?_ ?_; rotate_left; focus (intro w hSw; (try dsimp only at hSw); go_simp; try with_reducible rfl)); try simp only [Act.put, List.setIfInBounds_toArray, List.set_cons_zero, List.set_cons_succ]
  (refine' take_in 5 rfl (by kernel_rfl) (by kernel_rfl) (by kernel_rfl) (fun _ _ _ h => h) (by rfl) (by assumption) ?_ ?_; rotate_left; focus (intro w hSw; (try dsimp only at hSw); go_simp; try with_reducible rfl)); try simp only [Act.put, List.setIfInBounds_toArray, List.set_cons_zero, List.set_cons_succ]
  (refine' take_in 6 rfl (by kernel_rfl) (by kernel_rfl) (by kernel_rfl) (fun _ _ _ h => h) (by rfl) (by assumption) ?_ ?_; rotate_left; focus (intro w hSw; (try dsimp only at hSw); go_simp; try with_reducible rfl)); try simp only [Act.put, List.setIfInBounds_toArray, List.set_cons_zero, List.set_cons_succ]
  refine' next_in 3 rfl (by kernel_rfl) (by rfl) (fun K hK => ?_)
  go_simp
  (with_reducible refine (hClone_n A m c (l.take m) _ ((HS.out.ext (by repeat (first | with_reducible exact Ext.refl _ | with_reducible refine Ext.drew ?_ | with_reducible refine Ext.drewN ?_ _ | with_reducible refine Ext.alloc ?_ _))).htake hm) (by omega) hnil (by rw [List.length_take]; have := HL.out; omega)).mono ?_)
  rintro e w5 ⟨A5, c5, rfl, hA5, hO5, hx5⟩
  have X5 : Hid (Ext w w5) := Lib.hid (Ext.trans (by repeat (first | with_reducible exact X3.out | with_reducible refine Ext.drew ?_ | with_reducible refine Ext.drewN ?_ _ | with_reducible refine Ext.alloc ?_ _)) hx5)
  have HS5 := Lib.hid (HS.out.ext (Ext.trans (by repeat (first | with_reducible exact Ext.refl _ | with_reducible refine Ext.drew ?_ | with_reducible refine Ext.drewN ?_ _ | with_reducible refine Ext.alloc ?_ _)) hx5))
  have HO5 : Hid (OwnHop w5 w.heap.size (.slice A5 m c5) m (l.take m)) := Lib.hid (OwnHop.lower hO5 (Ext.size (by repeat (first | with_reducible exact X3.out | with_reducible refine Ext.drew ?_ | with_reducible refine Ext.drewN ?_ _ | with_reducible refine Ext.alloc ?_ _))))
  clear hO5 hx5
  refine hK.out _ _ (trivial) (fun hHeld => ?_); clear hK K; try simp only [Act.put, List.setIfInBounds_toArray, List.set_cons_zero, List.set_cons_succ]
  refine' next_in 7 rfl (by kernel_rfl) (by rfl) (fun K hK => ?_)
  go_simp
  (with_reducible refine (hClone_n (if c = m then A else A.map (·.add (m * 4))) (n - m) (c - m) (l.drop m) _ ((HS5.out.ext (by repeat (first | with_reducible exact Ext.refl _ | with_reducible refine Ext.drew ?_ | with_reducible refine Ext.drewN ?_ _ | with_reducible refine Ext.alloc ?_ _))).hdrop hm) (by omega) (by intro h; split at h; (have := hnil h; omega); (have := hnil (by simpa using h); omega)) (by rw [List.length_drop]; have := HL.out; omega)).mono ?_)
  rintro e w6 ⟨A6, c6, rfl, hA6, hO6, hx6⟩
  have X6 : Hid (Ext w w6) := Lib.hid (Ext.trans X5.out (Ext.trans (by repeat (first | with_reducible exact Ext.refl _ | with_reducible refine Ext.drew ?_ | with_reducible refine Ext.drewN ?_ _ | with_reducible refine Ext.alloc ?_ _)) hx6))
  have HO6 : Hid (OwnHop w6 w.heap.size (.slice A5 m c5) m (l.take m)) := Lib.hid (HO5.out.ext (Ext.trans (by repeat (first | with_reducible exact Ext.refl _ | with_reducible refine Ext.drew ?_ | with_reducible refine Ext.drewN ?_ _ | with_reducible refine Ext.alloc ?_ _)) hx6))
  have HO7 : Hid (OwnHop w6 w.heap.size (.slice A6 (n - m) c6) (n - m) (l.drop m)) := Lib.hid (OwnHop.lower hO6 (Ext.size X5.out))
  have hap : ∀ b o s b' o' s', A5 = some ⟨b, o, s⟩ → A6 = some ⟨b', o', s'⟩ → b ≠ b' := by
    intro b o s b' o' s' e1 e2 e3
    have h1 := (HO5.out.in_ b o s e1).2
    have h2 := (OwnHop.in_ hO6 b' o' s' e2).1
    omega
  have HAP := Lib.hid hap
  clear hO6 hx6 hap
  refine hK.out _ _ (trivial) (fun hHeld => ?_); clear hK K; try simp only [Act.put, List.setIfInBounds_toArray, List.set_cons_zero, List.set_cons_succ]
  (refine' take_in 8 rfl (by kernel_rfl) (by kernel_rfl) (by kernel_rfl) (fun _ _ _ h => h) (by rfl) (by assumption) ?_ ?_; rotate_left; focus (intro w hSw; (try dsimp only at hSw); go_simp; try with_reducible rfl)); try simp only [Act.put, List.setIfInBounds_toArray, List.set_cons_zero, List.set_cons_succ]
  (refine' take_in 9 rfl (by kernel_rfl) (by kernel_rfl) (by kernel_rfl) (fun _ _ _ h => h) (by rfl) (by assumption) ?_ ?_; rotate_left; focus (intro w hSw; (try dsimp only at hSw); go_simp; try with_reducible rfl)); try simp only [Act.put, List.setIfInBounds_toArray, List.set_cons_zero, List.set_cons_succ]
  (refine' take_in 10 rfl (by kernel_rfl) (by kernel_rfl) (by kernel_rfl) (fun _ _ _ h => h) (by rfl) (by assumption) ?_ ?_; rotate_left; focus (intro w hSw; (try dsimp only at hSw); go_simp; try with_reducible rfl)); try simp only [Act.put, List.setIfInBounds_toArray, List.set_cons_zero, List.set_cons_succ]
  refine wpAnyH_done (by kernel_rfl) ?_ _
  have e1 : (l.take m).length = m := by rw [List.length_take]; have := HL.out; omega
  have e2 : (l.drop m).length = n - m := by rw [List.length_drop]; have := HL.out; omega
  go_wp2_with fail
  all_goals refine bodyPost_ret (v := .tuple #[.slice A5 m c5, .slice A6 (n - m) c6, .int .i64 0]) (by simp [results, Try.results25]; try rfl) rfl ⟨A5, c5, A6, c6, by rw [e1, e2], hA5, hA6, by rw [e1]; exact HO6.out, by rw [e2]; exact HO7.out, HAP.out, X6.out⟩
theorem hopRipe_okE (A : Option Addr) (n c : Nat) (l : List (Int × Int × Int × Int)) (hh u f2 : Int) (w : World) (h : Sl w 4 A n c (l.flatMap hopC)) (hn : n < 1099511627776) (hw : ∀ x ∈ l, FitsH x) (hf : (0, f2) = chkH l) (h4 : ¬ hh < 1) (h5 : ¬ hh > 4294967296) (h6 : 1 ≤ u ∧ u ≤ 1048576) (hnil : A = none → c = 0) :
    Calls Try.prog 25 #[.slice A n c, .int .i64 hh, .int .i64 u] w (RetHop2 (l.filter (fun x => decide (x.2.2.2 + u ≤ hh))) (l.filter (fun x => !decide (x.2.2.2 + u ≤ hh))) 0 w) := by
  have hl := h.rlen hopC_len (by decide)
  obtain ⟨m, hm, e1, e2, hq⟩ := split_mono (fun x : (Int × Int × Int × Int) => decide (x.2.2.2 + u ≤ hh)) l (fun i j x y hij hx hy h => by
    have := chkH_sorted (l := l) (by rw [← hf]) i j x y hij hx hy
    simp only [decide_eq_true_eq] at h ⊢
    omega)
  rw [e1, e2]
  exact hopRipe_ok A n c m l hh u f2 w h hn hw hf h4 h5 h6 hnil (by omega) hq
theorem hopRipe_any (A : Option Addr) (n c : Nat) (l : List (Int × Int × Int × Int)) (hh u : Int) (w : World) (h : Sl w 4 A n c (l.flatMap hopC)) (hn : n < 1099511627776) (hw : ∀ x ∈ l, FitsH x) (hnil : A = none → c = 0) :
    Calls Try.prog 25 #[.slice A n c, .int .i64 hh, .int .i64 u] w (RetHop2 (ripV l hh u).1 (ripV l hh u).2.1 (ripV l hh u).2.2 w) := by
  obtain ⟨⟨f1, f2⟩, hf⟩ : ∃ F, F = chkH l := ⟨_, rfl⟩
  have hE : ripE l hh u = if f1 ≠ 0 then f1 else if hh < 1 ∨ hh > 4294967296 ∨ ¬ (1 ≤ u ∧ u ≤ 1048576) then 3 else 0 := by
    unfold ripE
    rw [← hf]
  by_cases hc : f1 = 0
  · by_cases h4 : hh < 1
    · rw [ripV_no (e := 3) (by rw [hE, if_neg (by simpa using hc), if_pos (Or.inl h4)]) (by decide)]
      exact hopRipe_lo A n c l hh u f1 f2 w h hw hf hc h4
    by_cases h5 : hh > 4294967296
    · rw [ripV_no (e := 3) (by rw [hE, if_neg (by simpa using hc), if_pos (Or.inr (Or.inl h5))]) (by decide)]
      exact hopRipe_hi A n c l hh u f1 f2 w h hw hf hc h4 h5
    by_cases h6 : 1 ≤ u ∧ u ≤ 1048576
    · rw [ripV_ok (by rw [hE, if_neg (by simpa using hc), if_neg (by intro h7; rcases h7 with h7 | h7 | h7; exact h4 h7; exact h5 h7; exact h7 h6)])]
      subst hc
      exact hopRipe_okE A n c l hh u f2 w h hn hw hf h4 h5 h6 hnil
    · rw [ripV_no (e := 3) (by rw [hE, if_neg (by simpa using hc), if_pos (Or.inr (Or.inr h6))]) (by decide)]
      exact hopRipe_tm A n c l hh u f1 f2 w h hw hf hc h4 h5 h6
  · rw [ripV_no (e := f1) (by rw [hE, if_pos hc]) hc]
    exact hopRipe_chk A n c l hh u f1 f2 w h hw hf hc
end
section
open Go.RowKit Go.ChangeShapes Go.WideShapes Go.Deep Go.Joins
theorem hops_new (w : World) (l : List (Int × Int × Int × Int)) (n : Nat) (hl : l.length = n) (hn : n ≤ 1000000) : Sl (w.alloc (.cells (l.flatMap hopC).toArray 24)) 4 (some ⟨w.heap.size, 0, none⟩) n n (l.flatMap hopC) := by
  have := sl_new w 24 4 (l.flatMap hopC).toArray n (by rw [List.size_toArray, flat_len hopC_len, hl]) hn
  simpa using this
theorem kSameHops_eq (A B : Option Addr) (n c m d : Nat) (l : List (Int × Int × Int × Int)) (w : World) (h1 : Sl w 4 A n c (l.flatMap hopC)) (h2 : Sl w 4 B m d (l.flatMap hopC)) :
    Calls Try.prog 30 #[.slice A n c, .slice B m d] w fun e w' => e = .returned (.bool true) ∧ Ext w w' := by
  have h := kSameHops_any A B n c m d l l w h1 h2
  simpa using h
theorem hopRipe_ev (A : Option Addr) (n c : Nat) (l R1 R2 : List (Int × Int × Int × Int)) (hh u er : Int) (w : World) (h : Sl w 4 A n c (l.flatMap hopC)) (hn : n < 1099511627776) (hw : ∀ x ∈ l, FitsH x) (hnil : A = none → c = 0) (hv : (R1, R2, er) = ripV l hh u) :
    Calls Try.prog 25 #[.slice A n c, .int .i64 hh, .int .i64 u] w (RetHop2 R1 R2 er w) := by
  have h := hopRipe_any A n c l hh u w h hn hw hnil
  rw [← hv] at h
  exact h
theorem hopAdd_ev (A : Option Addr) (n c : Nat) (l R : List (Int × Int × Int × Int)) (x0 x1 x2 x3 mo er : Int) (w : World) (h : Sl w 4 A n c (l.flatMap hopC)) (hn : n < 1099511627776) (hw : ∀ x ∈ l, FitsH x) (hfx : FitsH (x0, x1, x2, x3)) (hnil : A = none → c = 0) (hv : (R, er) = addV l (x0, x1, x2, x3) mo) :
    Calls Try.prog 23 #[.slice A n c, .agg #[.int .i64 x0, .int .i64 x1, .int .i64 x2, .int .i64 x3], .int .i64 mo] w fun e w' => ∃ A c, e = .returned (.tuple #[.slice A R.length c, .int .i64 er]) ∧ (A = none → c = 0) ∧ OwnHop w' w.heap.size (.slice A R.length c) R.length R ∧ Ext w w' := by
  have h := hopAdd_any A n c l x0 x1 x2 x3 mo w h hn hw hfx hnil
  rw [← hv] at h
  exact h
theorem one15_any (a b c d : Int) (w : World) : Calls Try.prog 69 #[.int .i64 a, .int .i64 b, .int .i64 c, .int .i64 d] w fun e w' => e = .returned (.agg #[.int .i64 a, .int .i64 b, .int .i64 c, .int .i64 d]) ∧ Ext w w' := by
  go_enter Try.func69, Try.ntmps69
  go_wp2_with fail
  refine bodyPost_ret (v := .agg #[.int .i64 a, .int .i64 b, .int .i64 c, .int .i64 d]) (by simp [results, Try.results69, go_sem, World.cell?_alloc_past]; try rfl) rfl ⟨rfl, ?_⟩
  exact (by repeat (first | with_reducible exact Ext.refl w | with_reducible refine Ext.drew ?_ | with_reducible refine Ext.drewN ?_ _ | with_reducible refine Ext.alloc ?_ _ | with_reducible refine Ext.setCell ?_ (by first | omega | (simp; done) | (simp; omega)) _))
theorem list15_any (A : Option Addr) (n c : Nat) (w : World) : Calls Try.prog 68 #[.slice A n c] w fun e w' => e = .returned (.slice A n c) ∧ Ext w w' := by
  go_enter Try.func68, Try.ntmps68
  go_wp2
  go_ret
  exact ⟨rfl, Ext.refl _⟩
theorem checks15_t (A : Option Addr) (n c : Nat) (l : List (Int × Int × Int × Int)) (e a : Int) (w : World) (h : Sl w 4 A n c (l.flatMap hopC)) (hf : ∀ x ∈ l, FitsH x) (hv : (e, a) = chkH l) :
    Calls Try.prog 67 #[.slice A n c, .int .i64 e, .int .i64 a] w fun r w' => r = .returned (.bool true) ∧ Ext w w' := by
  have HS := Lib.hid h
  have HF := Lib.hid hf
  have HV := Lib.hid hv
  clear h hf hv
  go_enter Try.func67, Try.ntmps67
  go_wp2_with fail
  (with_reducible refine (hopCheck_ev A n c l e a _ (HS.out.ext (by repeat (first | with_reducible exact Ext.refl _ | with_reducible refine Ext.drew ?_ | with_reducible refine Ext.drewN ?_ _ | with_reducible refine Ext.alloc ?_ _ | with_reducible refine Ext.setCell ?_ (by first | omega | (simp; done) | (simp; omega)) _))) (fits_t HF.out) HV.out).mono ?_)
  rintro e w1 ⟨rfl, hx1⟩
  have z1 := hx1.size
  try simp at z1
  replace HS := Lib.hid (HS.out.ext (Ext.trans (by repeat (first | with_reducible exact Ext.refl _ | with_reducible refine Ext.drew ?_ | with_reducible refine Ext.drewN ?_ _ | with_reducible refine Ext.alloc ?_ _ | with_reducible refine Ext.setCell ?_ (by first | omega | (simp; done) | (simp; omega)) _)) hx1))
  have X1 : Hid (Ext w w1) := Lib.hid (Ext.trans (by repeat (first | with_reducible exact Ext.refl w | with_reducible refine Ext.drew ?_ | with_reducible refine Ext.drewN ?_ _ | with_reducible refine Ext.alloc ?_ _ | with_reducible refine Ext.setCell ?_ (by first | omega | (simp; done) | (simp; omega)) _)) hx1)
  clear hx1 z1
  go_wp2_with fail
  go_ret
  exact ⟨rfl, (by repeat (first | with_reducible exact X1.out | with_reducible refine Ext.drew ?_ | with_reducible refine Ext.drewN ?_ _ | with_reducible refine Ext.alloc ?_ _ | with_reducible refine Ext.setCell ?_ (by first | omega | (simp; done) | (simp; omega)) _))⟩
set_option maxRecDepth 100000 in
set_option maxHeartbeats 4000000 in
theorem adds15_ev (A : Option Addr) (n c : Nat) (l R : List (Int × Int × Int × Int)) (x0 x1 x2 x3 mo er : Int) (w : World) (h : Sl w 4 A n c (l.flatMap hopC)) (hn : n < 1099511627776) (hw : ∀ x ∈ l, FitsH x) (hfx : FitsH (x0, x1, x2, x3)) (hnil : A = none → c = 0) (hv : (R, er) = addV l (x0, x1, x2, x3) mo) :
    Calls Try.prog 70 #[.slice A n c, .agg #[.int .i64 x0, .int .i64 x1, .int .i64 x2, .int .i64 x3], .int .i64 mo] w fun e w' => e = .returned (.int .i64 er) ∧ Ext w w' := by
  have HS := Lib.hid h
  have HF := Lib.hid hw
  have HX := Lib.hid hfx
  have HV := Lib.hid hv
  have HN := Lib.hid hnil
  clear h hw hfx hv hnil
  go_enter Try.func70, Try.ntmps70
  go_wp2_with fail
  (with_reducible refine (hopAdd_ev A n c l R x0 x1 x2 x3 mo er _ (HS.out.ext (by repeat (first | with_reducible exact Ext.refl _ | with_reducible refine Ext.drew ?_ | with_reducible refine Ext.drewN ?_ _ | with_reducible refine Ext.alloc ?_ _ | with_reducible refine Ext.setCell ?_ (by first | omega | (simp; done) | (simp; omega)) _))) hn HF.out HX.out HN.out HV.out).mono ?_)
  rintro e w1 ⟨A2, c2, rfl, _, _, hx1⟩
  have z1 := hx1.size
  try simp at z1
  replace HS := Lib.hid (HS.out.ext (Ext.trans (by repeat (first | with_reducible exact Ext.refl _ | with_reducible refine Ext.drew ?_ | with_reducible refine Ext.drewN ?_ _ | with_reducible refine Ext.alloc ?_ _ | with_reducible refine Ext.setCell ?_ (by first | omega | (simp; done) | (simp; omega)) _)) hx1))
  have X1 : Hid (Ext w w1) := Lib.hid (Ext.trans (by repeat (first | with_reducible exact Ext.refl w | with_reducible refine Ext.drew ?_ | with_reducible refine Ext.drewN ?_ _ | with_reducible refine Ext.alloc ?_ _ | with_reducible refine Ext.setCell ?_ (by first | omega | (simp; done) | (simp; omega)) _)) hx1)
  clear hx1 z1
  go_wp2_with fail
  go_ret
  exact ⟨rfl, (by repeat (first | with_reducible exact X1.out | with_reducible refine Ext.drew ?_ | with_reducible refine Ext.drewN ?_ _ | with_reducible refine Ext.alloc ?_ _ | with_reducible refine Ext.setCell ?_ (by first | omega | (simp; done) | (simp; omega)) _))⟩
set_option maxRecDepth 100000 in
set_option maxHeartbeats 4000000 in
theorem ripes15_t (A : Option Addr) (n c : Nat) (l R1 R2 : List (Int × Int × Int × Int)) (hh u : Int) (w : World) (h : Sl w 4 A n c (l.flatMap hopC)) (hn : n < 1099511627776) (hw : ∀ x ∈ l, FitsH x) (hnil : A = none → c = 0) (hv : (R1, R2, 0) = ripV l hh u) (m : Nat) (hm : m ≤ n) (e1 : R1 = l.take m) (e2 : R2 = l.drop m) :
    Calls Try.prog 73 #[.slice A n c, .int .i64 hh, .int .i64 u, .int .i64 (m : Int)] w fun r w' => r = .returned (.bool true) ∧ Ext w w' := by
  have s1 := h.small
  have hcap := h.2.1
  have hn0 : (0 : Int) ≤ (n : Int) := by omega
  have hc0 : (0 : Int) ≤ (c : Int) := by omega
  obtain ⟨AD, hAD⟩ : ∃ a, a = if c = m then A else A.map (·.add (m * 4)) := ⟨_, rfl⟩
  have hif := hAD.symm
  have hmi : (m : Int) ≤ n := by omega
  have hmc : (m : Int) ≤ c := by omega
  have HAD := Lib.hid hAD
  clear hAD
  have HS := Lib.hid h
  have HF := Lib.hid hw
  have HV := Lib.hid hv
  have HN := Lib.hid hnil
  have HE := Lib.hid (And.intro e1 e2)
  clear h hw hv hnil e1 e2
  go_enter Try.func73, Try.ntmps73
  go_wp2_with fail
  (with_reducible refine (hopRipe_ev A n c l R1 R2 hh u 0 _ (HS.out.ext (by repeat (first | with_reducible exact Ext.refl _ | with_reducible refine Ext.drew ?_ | with_reducible refine Ext.drewN ?_ _ | with_reducible refine Ext.alloc ?_ _ | with_reducible refine Ext.setCell ?_ (by first | omega | (simp; done) | (simp; omega)) _))) hn HF.out HN.out HV.out).mono ?_)
  rintro e w1 ⟨A1, c1, A2, c2, rfl, _, _, hO1, hO2, _, hx1⟩
  have z1 := hx1.size
  try simp at z1
  replace HS := Lib.hid (HS.out.ext (Ext.trans (by repeat (first | with_reducible exact Ext.refl _ | with_reducible refine Ext.drew ?_ | with_reducible refine Ext.drewN ?_ _ | with_reducible refine Ext.alloc ?_ _ | with_reducible refine Ext.setCell ?_ (by first | omega | (simp; done) | (simp; omega)) _)) hx1))
  have X1 : Hid (Ext w w1) := Lib.hid (Ext.trans (by repeat (first | with_reducible exact Ext.refl w | with_reducible refine Ext.drew ?_ | with_reducible refine Ext.drewN ?_ _ | with_reducible refine Ext.alloc ?_ _ | with_reducible refine Ext.setCell ?_ (by first | omega | (simp; done) | (simp; omega)) _)) hx1)
  have HP := Lib.hid hO1.sl
  have HQ := Lib.hid hO2.sl
  clear hx1 z1
  clear hO1 hO2
  go_wp2_with fail
  (with_reducible refine (kSameHops_eq A1 A _ c1 m c (l.take m) _ (by rw [← HE.out.1]; exact (HP.out.ext (by repeat (first | with_reducible exact Ext.refl _ | with_reducible refine Ext.drew ?_ | with_reducible refine Ext.drewN ?_ _ | with_reducible refine Ext.alloc ?_ _ | with_reducible refine Ext.setCell ?_ (by first | omega | (simp; done) | (simp; omega)) _)))) ((HS.out.ext (by repeat (first | with_reducible exact Ext.refl _ | with_reducible refine Ext.drew ?_ | with_reducible refine Ext.drewN ?_ _ | with_reducible refine Ext.alloc ?_ _ | with_reducible refine Ext.setCell ?_ (by first | omega | (simp; done) | (simp; omega)) _))).htake hm)).mono ?_)
  rintro e w2 ⟨rfl, hx2⟩
  have z2 := hx2.size
  try simp at z2
  replace HS := Lib.hid (HS.out.ext (Ext.trans (by repeat (first | with_reducible exact Ext.refl _ | with_reducible refine Ext.drew ?_ | with_reducible refine Ext.drewN ?_ _ | with_reducible refine Ext.alloc ?_ _ | with_reducible refine Ext.setCell ?_ (by first | omega | (simp; done) | (simp; omega)) _)) hx2))
  replace HP := Lib.hid (HP.out.ext (Ext.trans (by repeat (first | with_reducible exact Ext.refl _ | with_reducible refine Ext.drew ?_ | with_reducible refine Ext.drewN ?_ _ | with_reducible refine Ext.alloc ?_ _ | with_reducible refine Ext.setCell ?_ (by first | omega | (simp; done) | (simp; omega)) _)) hx2))
  replace HQ := Lib.hid (HQ.out.ext (Ext.trans (by repeat (first | with_reducible exact Ext.refl _ | with_reducible refine Ext.drew ?_ | with_reducible refine Ext.drewN ?_ _ | with_reducible refine Ext.alloc ?_ _ | with_reducible refine Ext.setCell ?_ (by first | omega | (simp; done) | (simp; omega)) _)) hx2))
  have X2 : Hid (Ext w w2) := Lib.hid (Ext.trans (by repeat (first | with_reducible exact X1.out | with_reducible refine Ext.drew ?_ | with_reducible refine Ext.drewN ?_ _ | with_reducible refine Ext.alloc ?_ _ | with_reducible refine Ext.setCell ?_ (by first | omega | (simp; done) | (simp; omega)) _)) hx2)
  clear X1 hx2 z2
  go_wp2_with fail
  (with_reducible refine (kSameHops_eq A2 AD _ c2 (n - m) (c - m) (l.drop m) _ (by rw [← HE.out.2]; exact (HQ.out.ext (by repeat (first | with_reducible exact Ext.refl _ | with_reducible refine Ext.drew ?_ | with_reducible refine Ext.drewN ?_ _ | with_reducible refine Ext.alloc ?_ _ | with_reducible refine Ext.setCell ?_ (by first | omega | (simp; done) | (simp; omega)) _)))) (by rw [HAD.out]; exact (HS.out.ext (by repeat (first | with_reducible exact Ext.refl _ | with_reducible refine Ext.drew ?_ | with_reducible refine Ext.drewN ?_ _ | with_reducible refine Ext.alloc ?_ _ | with_reducible refine Ext.setCell ?_ (by first | omega | (simp; done) | (simp; omega)) _))).hdrop hm)).mono ?_)
  rintro e w3 ⟨rfl, hx3⟩
  have z3 := hx3.size
  try simp at z3
  replace HS := Lib.hid (HS.out.ext (Ext.trans (by repeat (first | with_reducible exact Ext.refl _ | with_reducible refine Ext.drew ?_ | with_reducible refine Ext.drewN ?_ _ | with_reducible refine Ext.alloc ?_ _ | with_reducible refine Ext.setCell ?_ (by first | omega | (simp; done) | (simp; omega)) _)) hx3))
  replace HP := Lib.hid (HP.out.ext (Ext.trans (by repeat (first | with_reducible exact Ext.refl _ | with_reducible refine Ext.drew ?_ | with_reducible refine Ext.drewN ?_ _ | with_reducible refine Ext.alloc ?_ _ | with_reducible refine Ext.setCell ?_ (by first | omega | (simp; done) | (simp; omega)) _)) hx3))
  replace HQ := Lib.hid (HQ.out.ext (Ext.trans (by repeat (first | with_reducible exact Ext.refl _ | with_reducible refine Ext.drew ?_ | with_reducible refine Ext.drewN ?_ _ | with_reducible refine Ext.alloc ?_ _ | with_reducible refine Ext.setCell ?_ (by first | omega | (simp; done) | (simp; omega)) _)) hx3))
  have X3 : Hid (Ext w w3) := Lib.hid (Ext.trans (by repeat (first | with_reducible exact X2.out | with_reducible refine Ext.drew ?_ | with_reducible refine Ext.drewN ?_ _ | with_reducible refine Ext.alloc ?_ _ | with_reducible refine Ext.setCell ?_ (by first | omega | (simp; done) | (simp; omega)) _)) hx3)
  clear X2 hx3 z3
  go_wp2_with fail
  go_ret
  exact ⟨rfl, (by repeat (first | with_reducible exact X3.out | with_reducible refine Ext.drew ?_ | with_reducible refine Ext.drewN ?_ _ | with_reducible refine Ext.alloc ?_ _ | with_reducible refine Ext.setCell ?_ (by first | omega | (simp; done) | (simp; omega)) _))⟩
theorem ripes15_tm (mi : Int) (A : Option Addr) (n c : Nat) (l R1 R2 : List (Int × Int × Int × Int)) (hh u : Int) (w : World) (h : Sl w 4 A n c (l.flatMap hopC)) (hn : n < 1099511627776) (hw : ∀ x ∈ l, FitsH x) (hnil : A = none → c = 0) (hv : (R1, R2, 0) = ripV l hh u) (m : Nat) (hm : m ≤ n) (e1 : R1 = l.take m) (e2 : R2 = l.drop m) (hmi : mi = (m : Int)) :
    Calls Try.prog 73 #[.slice A n c, .int .i64 hh, .int .i64 u, .int .i64 mi] w fun r w' => r = .returned (.bool true) ∧ Ext w w' := by
  subst hmi
  exact ripes15_t A n c l R1 R2 hh u w h hn hw hnil hv m hm e1 e2
def awL : List (Int × Int × Int × Int) := [(0, 1, 2, 5), (1, 1, 2, 6)]
def awM : List (Int × Int × Int × Int) := [(0, 1, 2, 5), (0, 1, 3, 5)]
theorem fitsH_of {l : List (Int × Int × Int × Int)} (h : l.all (fun x => (Lit.int .i64 x.1).wf && ((Lit.int .i64 x.2.1).wf && ((Lit.int .i64 x.2.2.1).wf && (Lit.int .i64 x.2.2.2).wf))) = true) : ∀ x ∈ l, FitsH x := by
  intro x hx
  have h1 := List.all_eq_true.1 h x hx
  simp only [Bool.and_eq_true] at h1
  exact h1
theorem fitsH_one {x0 x1 x2 x3 : Int} (h : ([(x0, x1, x2, x3)] : List (Int × Int × Int × Int)).all (fun x => (Lit.int .i64 x.1).wf && ((Lit.int .i64 x.2.1).wf && ((Lit.int .i64 x.2.2.1).wf && (Lit.int .i64 x.2.2.2).wf))) = true) : FitsH (x0, x1, x2, x3) := fitsH_of h _ (List.mem_singleton.2 rfl)
set_option maxRecDepth 100000 in
set_option maxHeartbeats 4000000 in
theorem awake15_any (w : World) : Calls Try.prog 15 #[] w fun e w' => e = .returned (.bool true) ∧ Ext w w' := by
  go_enter Try.func15, Try.ntmps15
  go_wp2_with fail
  (with_reducible refine (one15_any 0 1 2 5 _).mono ?_)
  rintro e w1 ⟨rfl, hx1⟩
  have z1 := hx1.size
  try simp at z1
  have X1 : Hid (Ext w w1) := Lib.hid (Ext.trans (by repeat (first | with_reducible exact Ext.refl w | with_reducible refine Ext.drew ?_ | with_reducible refine Ext.drewN ?_ _ | with_reducible refine Ext.alloc ?_ _ | with_reducible refine Ext.setCell ?_ (by first | omega | (simp; done) | (simp; omega)) _)) hx1)
  clear hx1 z1
  go_wp2_with fail
  (with_reducible refine (one15_any 1 1 2 6 _).mono ?_)
  rintro e w2 ⟨rfl, hx2⟩
  have z2 := hx2.size
  try simp at z2
  have X2 : Hid (Ext w w2) := Lib.hid (Ext.trans (by repeat (first | with_reducible exact X1.out | with_reducible refine Ext.drew ?_ | with_reducible refine Ext.drewN ?_ _ | with_reducible refine Ext.alloc ?_ _ | with_reducible refine Ext.setCell ?_ (by first | omega | (simp; done) | (simp; omega)) _)) hx2)
  clear X1 hx2 z2
  go_wp2_with fail
  (with_reducible refine (list15_any _ 2 2 _).mono ?_)
  rintro e w3 ⟨rfl, hx3⟩
  have z3 := hx3.size
  try simp at z3
  have X3 : Hid (Ext w w3) := Lib.hid (Ext.trans (by repeat (first | with_reducible exact X2.out | with_reducible refine Ext.drew ?_ | with_reducible refine Ext.drewN ?_ _ | with_reducible refine Ext.alloc ?_ _ | with_reducible refine Ext.setCell ?_ (by first | omega | (simp; done) | (simp; omega)) _)) hx3)
  have HL := Lib.hid ((hops_new w2 awL 2 rfl (by omega)).ext hx3)
  clear X2 hx3 z3
  go_wp2_with fail
  (with_reducible refine (one15_any 0 1 2 5 _).mono ?_)
  rintro e w4 ⟨rfl, hx4⟩
  have z4 := hx4.size
  try simp at z4
  replace HL := Lib.hid (HL.out.ext (Ext.trans (by repeat (first | with_reducible exact Ext.refl _ | with_reducible refine Ext.drew ?_ | with_reducible refine Ext.drewN ?_ _ | with_reducible refine Ext.alloc ?_ _ | with_reducible refine Ext.setCell ?_ (by first | omega | (simp; done) | (simp; omega)) _)) hx4))
  have X4 : Hid (Ext w w4) := Lib.hid (Ext.trans (by repeat (first | with_reducible exact X3.out | with_reducible refine Ext.drew ?_ | with_reducible refine Ext.drewN ?_ _ | with_reducible refine Ext.alloc ?_ _ | with_reducible refine Ext.setCell ?_ (by first | omega | (simp; done) | (simp; omega)) _)) hx4)
  clear X3 hx4 z4
  go_wp2_with fail
  (with_reducible refine (list15_any _ 1 1 _).mono ?_)
  rintro e w5 ⟨rfl, hx5⟩
  have z5 := hx5.size
  try simp at z5
  replace HL := Lib.hid (HL.out.ext (Ext.trans (by repeat (first | with_reducible exact Ext.refl _ | with_reducible refine Ext.drew ?_ | with_reducible refine Ext.drewN ?_ _ | with_reducible refine Ext.alloc ?_ _ | with_reducible refine Ext.setCell ?_ (by first | omega | (simp; done) | (simp; omega)) _)) hx5))
  have X5 : Hid (Ext w w5) := Lib.hid (Ext.trans (by repeat (first | with_reducible exact X4.out | with_reducible refine Ext.drew ?_ | with_reducible refine Ext.drewN ?_ _ | with_reducible refine Ext.alloc ?_ _ | with_reducible refine Ext.setCell ?_ (by first | omega | (simp; done) | (simp; omega)) _)) hx5)
  have HM := Lib.hid ((hops_new w4 [(0, 1, 2, 5)] 1 rfl (by omega)).ext hx5)
  clear X4 hx5 z5
  go_wp2_with fail
  (with_reducible refine (one15_any 0 1 3 5 _).mono ?_)
  rintro e w6 ⟨rfl, hx6⟩
  have z6 := hx6.size
  try simp at z6
  replace HL := Lib.hid (HL.out.ext (Ext.trans (by repeat (first | with_reducible exact Ext.refl _ | with_reducible refine Ext.drew ?_ | with_reducible refine Ext.drewN ?_ _ | with_reducible refine Ext.alloc ?_ _ | with_reducible refine Ext.setCell ?_ (by first | omega | (simp; done) | (simp; omega)) _)) hx6))
  replace HM := Lib.hid (HM.out.ext (Ext.trans (by repeat (first | with_reducible exact Ext.refl _ | with_reducible refine Ext.drew ?_ | with_reducible refine Ext.drewN ?_ _ | with_reducible refine Ext.alloc ?_ _ | with_reducible refine Ext.setCell ?_ (by first | omega | (simp; done) | (simp; omega)) _)) hx6))
  have X6 : Hid (Ext w w6) := Lib.hid (Ext.trans (by repeat (first | with_reducible exact X5.out | with_reducible refine Ext.drew ?_ | with_reducible refine Ext.drewN ?_ _ | with_reducible refine Ext.alloc ?_ _ | with_reducible refine Ext.setCell ?_ (by first | omega | (simp; done) | (simp; omega)) _)) hx6)
  clear X5 hx6 z6
  go_wp2_with fail
  (with_reducible refine (hopAdd_ev _ 1 1 [(0, 1, 2, 5)] awM 0 1 3 5 1 0 _ (HM.out.ext (by repeat (first | with_reducible exact Ext.refl _ | with_reducible refine Ext.drew ?_ | with_reducible refine Ext.drewN ?_ _ | with_reducible refine Ext.alloc ?_ _ | with_reducible refine Ext.setCell ?_ (by first | omega | (simp; done) | (simp; omega)) _))) (by omega) (fitsH_of rfl) (fitsH_one rfl) (fun h => by cases h) rfl).mono ?_)
  rintro e w7 ⟨A7, c7, rfl, hA7, hO7, hx7⟩
  have z7 := hx7.size
  try simp at z7
  replace HL := Lib.hid (HL.out.ext (Ext.trans (by repeat (first | with_reducible exact Ext.refl _ | with_reducible refine Ext.drew ?_ | with_reducible refine Ext.drewN ?_ _ | with_reducible refine Ext.alloc ?_ _ | with_reducible refine Ext.setCell ?_ (by first | omega | (simp; done) | (simp; omega)) _)) hx7))
  replace HM := Lib.hid (HM.out.ext (Ext.trans (by repeat (first | with_reducible exact Ext.refl _ | with_reducible refine Ext.drew ?_ | with_reducible refine Ext.drewN ?_ _ | with_reducible refine Ext.alloc ?_ _ | with_reducible refine Ext.setCell ?_ (by first | omega | (simp; done) | (simp; omega)) _)) hx7))
  have X7 : Hid (Ext w w7) := Lib.hid (Ext.trans (by repeat (first | with_reducible exact X6.out | with_reducible refine Ext.drew ?_ | with_reducible refine Ext.drewN ?_ _ | with_reducible refine Ext.alloc ?_ _ | with_reducible refine Ext.setCell ?_ (by first | omega | (simp; done) | (simp; omega)) _)) hx7)
  have HO := Lib.hid hO7
  clear X6 hx7 z7 hO7
  have HA7 := Lib.hid hA7
  clear hA7
  go_wp2_with fail
  (with_reducible refine (hopNext_ev _ 2 2 awL 10 15 true _ (HL.out.ext (by repeat (first | with_reducible exact Ext.refl _ | with_reducible refine Ext.drew ?_ | with_reducible refine Ext.drewN ?_ _ | with_reducible refine Ext.alloc ?_ _ | with_reducible refine Ext.setCell ?_ (by first | omega | (simp; done) | (simp; omega)) _))) (fits_t (fitsH_of rfl)) rfl).mono ?_)
  rintro e w8 ⟨rfl, hx8⟩
  have z8 := hx8.size
  try simp at z8
  replace HL := Lib.hid (HL.out.ext (Ext.trans (by repeat (first | with_reducible exact Ext.refl _ | with_reducible refine Ext.drew ?_ | with_reducible refine Ext.drewN ?_ _ | with_reducible refine Ext.alloc ?_ _ | with_reducible refine Ext.setCell ?_ (by first | omega | (simp; done) | (simp; omega)) _)) hx8))
  replace HM := Lib.hid (HM.out.ext (Ext.trans (by repeat (first | with_reducible exact Ext.refl _ | with_reducible refine Ext.drew ?_ | with_reducible refine Ext.drewN ?_ _ | with_reducible refine Ext.alloc ?_ _ | with_reducible refine Ext.setCell ?_ (by first | omega | (simp; done) | (simp; omega)) _)) hx8))
  replace HO := Lib.hid (HO.out.ext (Ext.trans (by repeat (first | with_reducible exact Ext.refl _ | with_reducible refine Ext.drew ?_ | with_reducible refine Ext.drewN ?_ _ | with_reducible refine Ext.alloc ?_ _ | with_reducible refine Ext.setCell ?_ (by first | omega | (simp; done) | (simp; omega)) _)) hx8))
  have X8 : Hid (Ext w w8) := Lib.hid (Ext.trans (by repeat (first | with_reducible exact X7.out | with_reducible refine Ext.drew ?_ | with_reducible refine Ext.drewN ?_ _ | with_reducible refine Ext.alloc ?_ _ | with_reducible refine Ext.setCell ?_ (by first | omega | (simp; done) | (simp; omega)) _)) hx8)
  clear X7 hx8 z8
  go_wp2_with fail
  (with_reducible refine (checks15_t _ 2 2 awL 0 0 _ (HL.out.ext (by repeat (first | with_reducible exact Ext.refl _ | with_reducible refine Ext.drew ?_ | with_reducible refine Ext.drewN ?_ _ | with_reducible refine Ext.alloc ?_ _ | with_reducible refine Ext.setCell ?_ (by first | omega | (simp; done) | (simp; omega)) _))) (fitsH_of rfl) rfl).mono ?_)
  rintro e w9 ⟨rfl, hx9⟩
  have z9 := hx9.size
  try simp at z9
  replace HL := Lib.hid (HL.out.ext (Ext.trans (by repeat (first | with_reducible exact Ext.refl _ | with_reducible refine Ext.drew ?_ | with_reducible refine Ext.drewN ?_ _ | with_reducible refine Ext.alloc ?_ _ | with_reducible refine Ext.setCell ?_ (by first | omega | (simp; done) | (simp; omega)) _)) hx9))
  replace HM := Lib.hid (HM.out.ext (Ext.trans (by repeat (first | with_reducible exact Ext.refl _ | with_reducible refine Ext.drew ?_ | with_reducible refine Ext.drewN ?_ _ | with_reducible refine Ext.alloc ?_ _ | with_reducible refine Ext.setCell ?_ (by first | omega | (simp; done) | (simp; omega)) _)) hx9))
  replace HO := Lib.hid (HO.out.ext (Ext.trans (by repeat (first | with_reducible exact Ext.refl _ | with_reducible refine Ext.drew ?_ | with_reducible refine Ext.drewN ?_ _ | with_reducible refine Ext.alloc ?_ _ | with_reducible refine Ext.setCell ?_ (by first | omega | (simp; done) | (simp; omega)) _)) hx9))
  have X9 : Hid (Ext w w9) := Lib.hid (Ext.trans (by repeat (first | with_reducible exact X8.out | with_reducible refine Ext.drew ?_ | with_reducible refine Ext.drewN ?_ _ | with_reducible refine Ext.alloc ?_ _ | with_reducible refine Ext.setCell ?_ (by first | omega | (simp; done) | (simp; omega)) _)) hx9)
  clear X8 hx9 z9
  go_wp2_with fail
  (with_reducible refine (one15_any 0 1 2 5 _).mono ?_)
  rintro e w10 ⟨rfl, hx10⟩
  have z10 := hx10.size
  try simp at z10
  replace HL := Lib.hid (HL.out.ext (Ext.trans (by repeat (first | with_reducible exact Ext.refl _ | with_reducible refine Ext.drew ?_ | with_reducible refine Ext.drewN ?_ _ | with_reducible refine Ext.alloc ?_ _ | with_reducible refine Ext.setCell ?_ (by first | omega | (simp; done) | (simp; omega)) _)) hx10))
  replace HM := Lib.hid (HM.out.ext (Ext.trans (by repeat (first | with_reducible exact Ext.refl _ | with_reducible refine Ext.drew ?_ | with_reducible refine Ext.drewN ?_ _ | with_reducible refine Ext.alloc ?_ _ | with_reducible refine Ext.setCell ?_ (by first | omega | (simp; done) | (simp; omega)) _)) hx10))
  replace HO := Lib.hid (HO.out.ext (Ext.trans (by repeat (first | with_reducible exact Ext.refl _ | with_reducible refine Ext.drew ?_ | with_reducible refine Ext.drewN ?_ _ | with_reducible refine Ext.alloc ?_ _ | with_reducible refine Ext.setCell ?_ (by first | omega | (simp; done) | (simp; omega)) _)) hx10))
  have X10 : Hid (Ext w w10) := Lib.hid (Ext.trans (by repeat (first | with_reducible exact X9.out | with_reducible refine Ext.drew ?_ | with_reducible refine Ext.drewN ?_ _ | with_reducible refine Ext.alloc ?_ _ | with_reducible refine Ext.setCell ?_ (by first | omega | (simp; done) | (simp; omega)) _)) hx10)
  clear X9 hx10 z10
  go_wp2_with fail
  (with_reducible refine (one15_any 0 1 3 5 _).mono ?_)
  rintro e w11 ⟨rfl, hx11⟩
  have z11 := hx11.size
  try simp at z11
  replace HL := Lib.hid (HL.out.ext (Ext.trans (by repeat (first | with_reducible exact Ext.refl _ | with_reducible refine Ext.drew ?_ | with_reducible refine Ext.drewN ?_ _ | with_reducible refine Ext.alloc ?_ _ | with_reducible refine Ext.setCell ?_ (by first | omega | (simp; done) | (simp; omega)) _)) hx11))
  replace HM := Lib.hid (HM.out.ext (Ext.trans (by repeat (first | with_reducible exact Ext.refl _ | with_reducible refine Ext.drew ?_ | with_reducible refine Ext.drewN ?_ _ | with_reducible refine Ext.alloc ?_ _ | with_reducible refine Ext.setCell ?_ (by first | omega | (simp; done) | (simp; omega)) _)) hx11))
  replace HO := Lib.hid (HO.out.ext (Ext.trans (by repeat (first | with_reducible exact Ext.refl _ | with_reducible refine Ext.drew ?_ | with_reducible refine Ext.drewN ?_ _ | with_reducible refine Ext.alloc ?_ _ | with_reducible refine Ext.setCell ?_ (by first | omega | (simp; done) | (simp; omega)) _)) hx11))
  have X11 : Hid (Ext w w11) := Lib.hid (Ext.trans (by repeat (first | with_reducible exact X10.out | with_reducible refine Ext.drew ?_ | with_reducible refine Ext.drewN ?_ _ | with_reducible refine Ext.alloc ?_ _ | with_reducible refine Ext.setCell ?_ (by first | omega | (simp; done) | (simp; omega)) _)) hx11)
  clear X10 hx11 z11
  go_wp2_with fail
  (with_reducible refine (list15_any _ 2 2 _).mono ?_)
  rintro e w12 ⟨rfl, hx12⟩
  have z12 := hx12.size
  try simp at z12
  replace HL := Lib.hid (HL.out.ext (Ext.trans (by repeat (first | with_reducible exact Ext.refl _ | with_reducible refine Ext.drew ?_ | with_reducible refine Ext.drewN ?_ _ | with_reducible refine Ext.alloc ?_ _ | with_reducible refine Ext.setCell ?_ (by first | omega | (simp; done) | (simp; omega)) _)) hx12))
  replace HM := Lib.hid (HM.out.ext (Ext.trans (by repeat (first | with_reducible exact Ext.refl _ | with_reducible refine Ext.drew ?_ | with_reducible refine Ext.drewN ?_ _ | with_reducible refine Ext.alloc ?_ _ | with_reducible refine Ext.setCell ?_ (by first | omega | (simp; done) | (simp; omega)) _)) hx12))
  replace HO := Lib.hid (HO.out.ext (Ext.trans (by repeat (first | with_reducible exact Ext.refl _ | with_reducible refine Ext.drew ?_ | with_reducible refine Ext.drewN ?_ _ | with_reducible refine Ext.alloc ?_ _ | with_reducible refine Ext.setCell ?_ (by first | omega | (simp; done) | (simp; omega)) _)) hx12))
  have X12 : Hid (Ext w w12) := Lib.hid (Ext.trans (by repeat (first | with_reducible exact X11.out | with_reducible refine Ext.drew ?_ | with_reducible refine Ext.drewN ?_ _ | with_reducible refine Ext.alloc ?_ _ | with_reducible refine Ext.setCell ?_ (by first | omega | (simp; done) | (simp; omega)) _)) hx12)
  have HM2 := Lib.hid ((hops_new w11 awM 2 rfl (by omega)).ext hx12)
  clear X11 hx12 z12
  go_wp2_with fail
  (with_reducible refine (kSameHops_eq A7 _ awM.length c7 2 2 awM _ (HO.out.ext (by repeat (first | with_reducible exact Ext.refl _ | with_reducible refine Ext.drew ?_ | with_reducible refine Ext.drewN ?_ _ | with_reducible refine Ext.alloc ?_ _ | with_reducible refine Ext.setCell ?_ (by first | omega | (simp; done) | (simp; omega)) _))).sl (HM2.out.ext (by repeat (first | with_reducible exact Ext.refl _ | with_reducible refine Ext.drew ?_ | with_reducible refine Ext.drewN ?_ _ | with_reducible refine Ext.alloc ?_ _ | with_reducible refine Ext.setCell ?_ (by first | omega | (simp; done) | (simp; omega)) _)))).mono ?_)
  rintro e w13 ⟨rfl, hx13⟩
  have z13 := hx13.size
  try simp at z13
  replace HL := Lib.hid (HL.out.ext (Ext.trans (by repeat (first | with_reducible exact Ext.refl _ | with_reducible refine Ext.drew ?_ | with_reducible refine Ext.drewN ?_ _ | with_reducible refine Ext.alloc ?_ _ | with_reducible refine Ext.setCell ?_ (by first | omega | (simp; done) | (simp; omega)) _)) hx13))
  replace HM := Lib.hid (HM.out.ext (Ext.trans (by repeat (first | with_reducible exact Ext.refl _ | with_reducible refine Ext.drew ?_ | with_reducible refine Ext.drewN ?_ _ | with_reducible refine Ext.alloc ?_ _ | with_reducible refine Ext.setCell ?_ (by first | omega | (simp; done) | (simp; omega)) _)) hx13))
  replace HO := Lib.hid (HO.out.ext (Ext.trans (by repeat (first | with_reducible exact Ext.refl _ | with_reducible refine Ext.drew ?_ | with_reducible refine Ext.drewN ?_ _ | with_reducible refine Ext.alloc ?_ _ | with_reducible refine Ext.setCell ?_ (by first | omega | (simp; done) | (simp; omega)) _)) hx13))
  replace HM2 := Lib.hid (HM2.out.ext (Ext.trans (by repeat (first | with_reducible exact Ext.refl _ | with_reducible refine Ext.drew ?_ | with_reducible refine Ext.drewN ?_ _ | with_reducible refine Ext.alloc ?_ _ | with_reducible refine Ext.setCell ?_ (by first | omega | (simp; done) | (simp; omega)) _)) hx13))
  have X13 : Hid (Ext w w13) := Lib.hid (Ext.trans (by repeat (first | with_reducible exact X12.out | with_reducible refine Ext.drew ?_ | with_reducible refine Ext.drewN ?_ _ | with_reducible refine Ext.alloc ?_ _ | with_reducible refine Ext.setCell ?_ (by first | omega | (simp; done) | (simp; omega)) _)) hx13)
  clear X12 hx13 z13
  go_wp2_with fail
  (with_reducible refine (one15_any 0 1 2 5 _).mono ?_)
  rintro e w14 ⟨rfl, hx14⟩
  have z14 := hx14.size
  try simp at z14
  replace HL := Lib.hid (HL.out.ext (Ext.trans (by repeat (first | with_reducible exact Ext.refl _ | with_reducible refine Ext.drew ?_ | with_reducible refine Ext.drewN ?_ _ | with_reducible refine Ext.alloc ?_ _ | with_reducible refine Ext.setCell ?_ (by first | omega | (simp; done) | (simp; omega)) _)) hx14))
  replace HM := Lib.hid (HM.out.ext (Ext.trans (by repeat (first | with_reducible exact Ext.refl _ | with_reducible refine Ext.drew ?_ | with_reducible refine Ext.drewN ?_ _ | with_reducible refine Ext.alloc ?_ _ | with_reducible refine Ext.setCell ?_ (by first | omega | (simp; done) | (simp; omega)) _)) hx14))
  replace HO := Lib.hid (HO.out.ext (Ext.trans (by repeat (first | with_reducible exact Ext.refl _ | with_reducible refine Ext.drew ?_ | with_reducible refine Ext.drewN ?_ _ | with_reducible refine Ext.alloc ?_ _ | with_reducible refine Ext.setCell ?_ (by first | omega | (simp; done) | (simp; omega)) _)) hx14))
  replace HM2 := Lib.hid (HM2.out.ext (Ext.trans (by repeat (first | with_reducible exact Ext.refl _ | with_reducible refine Ext.drew ?_ | with_reducible refine Ext.drewN ?_ _ | with_reducible refine Ext.alloc ?_ _ | with_reducible refine Ext.setCell ?_ (by first | omega | (simp; done) | (simp; omega)) _)) hx14))
  have X14 : Hid (Ext w w14) := Lib.hid (Ext.trans (by repeat (first | with_reducible exact X13.out | with_reducible refine Ext.drew ?_ | with_reducible refine Ext.drewN ?_ _ | with_reducible refine Ext.alloc ?_ _ | with_reducible refine Ext.setCell ?_ (by first | omega | (simp; done) | (simp; omega)) _)) hx14)
  clear X13 hx14 z14
  go_wp2_with fail
  (with_reducible refine (adds15_ev A7 awM.length c7 awM [] 0 1 2 5 1 22 _ (HO.out.ext (by repeat (first | with_reducible exact Ext.refl _ | with_reducible refine Ext.drew ?_ | with_reducible refine Ext.drewN ?_ _ | with_reducible refine Ext.alloc ?_ _ | with_reducible refine Ext.setCell ?_ (by first | omega | (simp; done) | (simp; omega)) _))).sl (by decide) (fitsH_of rfl) (fitsH_one rfl) HA7.out rfl).mono ?_)
  rintro e w15 ⟨rfl, hx15⟩
  have z15 := hx15.size
  try simp at z15
  replace HL := Lib.hid (HL.out.ext (Ext.trans (by repeat (first | with_reducible exact Ext.refl _ | with_reducible refine Ext.drew ?_ | with_reducible refine Ext.drewN ?_ _ | with_reducible refine Ext.alloc ?_ _ | with_reducible refine Ext.setCell ?_ (by first | omega | (simp; done) | (simp; omega)) _)) hx15))
  replace HM := Lib.hid (HM.out.ext (Ext.trans (by repeat (first | with_reducible exact Ext.refl _ | with_reducible refine Ext.drew ?_ | with_reducible refine Ext.drewN ?_ _ | with_reducible refine Ext.alloc ?_ _ | with_reducible refine Ext.setCell ?_ (by first | omega | (simp; done) | (simp; omega)) _)) hx15))
  replace HO := Lib.hid (HO.out.ext (Ext.trans (by repeat (first | with_reducible exact Ext.refl _ | with_reducible refine Ext.drew ?_ | with_reducible refine Ext.drewN ?_ _ | with_reducible refine Ext.alloc ?_ _ | with_reducible refine Ext.setCell ?_ (by first | omega | (simp; done) | (simp; omega)) _)) hx15))
  replace HM2 := Lib.hid (HM2.out.ext (Ext.trans (by repeat (first | with_reducible exact Ext.refl _ | with_reducible refine Ext.drew ?_ | with_reducible refine Ext.drewN ?_ _ | with_reducible refine Ext.alloc ?_ _ | with_reducible refine Ext.setCell ?_ (by first | omega | (simp; done) | (simp; omega)) _)) hx15))
  have X15 : Hid (Ext w w15) := Lib.hid (Ext.trans (by repeat (first | with_reducible exact X14.out | with_reducible refine Ext.drew ?_ | with_reducible refine Ext.drewN ?_ _ | with_reducible refine Ext.alloc ?_ _ | with_reducible refine Ext.setCell ?_ (by first | omega | (simp; done) | (simp; omega)) _)) hx15)
  clear X14 hx15 z15
  go_wp2_with fail
  (with_reducible refine (ripes15_tm 1 _ 2 2 awL [(0, 1, 2, 5)] [(1, 1, 2, 6)] 15 10 _ (HL.out.ext (by repeat (first | with_reducible exact Ext.refl _ | with_reducible refine Ext.drew ?_ | with_reducible refine Ext.drewN ?_ _ | with_reducible refine Ext.alloc ?_ _ | with_reducible refine Ext.setCell ?_ (by first | omega | (simp; done) | (simp; omega)) _))) (by omega) (fitsH_of rfl) (fun h => by cases h) rfl 1 (by omega) rfl rfl rfl).mono ?_)
  rintro e w16 ⟨rfl, hx16⟩
  have z16 := hx16.size
  try simp at z16
  replace HL := Lib.hid (HL.out.ext (Ext.trans (by repeat (first | with_reducible exact Ext.refl _ | with_reducible refine Ext.drew ?_ | with_reducible refine Ext.drewN ?_ _ | with_reducible refine Ext.alloc ?_ _ | with_reducible refine Ext.setCell ?_ (by first | omega | (simp; done) | (simp; omega)) _)) hx16))
  replace HM := Lib.hid (HM.out.ext (Ext.trans (by repeat (first | with_reducible exact Ext.refl _ | with_reducible refine Ext.drew ?_ | with_reducible refine Ext.drewN ?_ _ | with_reducible refine Ext.alloc ?_ _ | with_reducible refine Ext.setCell ?_ (by first | omega | (simp; done) | (simp; omega)) _)) hx16))
  replace HO := Lib.hid (HO.out.ext (Ext.trans (by repeat (first | with_reducible exact Ext.refl _ | with_reducible refine Ext.drew ?_ | with_reducible refine Ext.drewN ?_ _ | with_reducible refine Ext.alloc ?_ _ | with_reducible refine Ext.setCell ?_ (by first | omega | (simp; done) | (simp; omega)) _)) hx16))
  replace HM2 := Lib.hid (HM2.out.ext (Ext.trans (by repeat (first | with_reducible exact Ext.refl _ | with_reducible refine Ext.drew ?_ | with_reducible refine Ext.drewN ?_ _ | with_reducible refine Ext.alloc ?_ _ | with_reducible refine Ext.setCell ?_ (by first | omega | (simp; done) | (simp; omega)) _)) hx16))
  have X16 : Hid (Ext w w16) := Lib.hid (Ext.trans (by repeat (first | with_reducible exact X15.out | with_reducible refine Ext.drew ?_ | with_reducible refine Ext.drewN ?_ _ | with_reducible refine Ext.alloc ?_ _ | with_reducible refine Ext.setCell ?_ (by first | omega | (simp; done) | (simp; omega)) _)) hx16)
  clear X15 hx16 z16
  go_wp2_with fail
  (with_reducible refine (ripes15_tm 0 _ 2 2 awL [] awL 14 10 _ (HL.out.ext (by repeat (first | with_reducible exact Ext.refl _ | with_reducible refine Ext.drew ?_ | with_reducible refine Ext.drewN ?_ _ | with_reducible refine Ext.alloc ?_ _ | with_reducible refine Ext.setCell ?_ (by first | omega | (simp; done) | (simp; omega)) _))) (by omega) (fitsH_of rfl) (fun h => by cases h) rfl 0 (by omega) rfl rfl rfl).mono ?_)
  rintro e w17 ⟨rfl, hx17⟩
  have z17 := hx17.size
  try simp at z17
  replace HL := Lib.hid (HL.out.ext (Ext.trans (by repeat (first | with_reducible exact Ext.refl _ | with_reducible refine Ext.drew ?_ | with_reducible refine Ext.drewN ?_ _ | with_reducible refine Ext.alloc ?_ _ | with_reducible refine Ext.setCell ?_ (by first | omega | (simp; done) | (simp; omega)) _)) hx17))
  replace HM := Lib.hid (HM.out.ext (Ext.trans (by repeat (first | with_reducible exact Ext.refl _ | with_reducible refine Ext.drew ?_ | with_reducible refine Ext.drewN ?_ _ | with_reducible refine Ext.alloc ?_ _ | with_reducible refine Ext.setCell ?_ (by first | omega | (simp; done) | (simp; omega)) _)) hx17))
  replace HO := Lib.hid (HO.out.ext (Ext.trans (by repeat (first | with_reducible exact Ext.refl _ | with_reducible refine Ext.drew ?_ | with_reducible refine Ext.drewN ?_ _ | with_reducible refine Ext.alloc ?_ _ | with_reducible refine Ext.setCell ?_ (by first | omega | (simp; done) | (simp; omega)) _)) hx17))
  replace HM2 := Lib.hid (HM2.out.ext (Ext.trans (by repeat (first | with_reducible exact Ext.refl _ | with_reducible refine Ext.drew ?_ | with_reducible refine Ext.drewN ?_ _ | with_reducible refine Ext.alloc ?_ _ | with_reducible refine Ext.setCell ?_ (by first | omega | (simp; done) | (simp; omega)) _)) hx17))
  have X17 : Hid (Ext w w17) := Lib.hid (Ext.trans (by repeat (first | with_reducible exact X16.out | with_reducible refine Ext.drew ?_ | with_reducible refine Ext.drewN ?_ _ | with_reducible refine Ext.alloc ?_ _ | with_reducible refine Ext.setCell ?_ (by first | omega | (simp; done) | (simp; omega)) _)) hx17)
  clear X16 hx17 z17
  go_wp2_with fail
  go_ret
  exact ⟨rfl, (by repeat (first | with_reducible exact X17.out | with_reducible refine Ext.drew ?_ | with_reducible refine Ext.drewN ?_ _ | with_reducible refine Ext.alloc ?_ _ | with_reducible refine Ext.setCell ?_ (by first | omega | (simp; done) | (simp; omega)) _))⟩
end
section
open Go.RowKit Go.ChangeShapes Go.WideShapes Go.Deep Go.Joins
/-- a record's cells -/
def valC (x : Int × Int × Int × Int × Bool × Bool) : List Value := [.int .i64 x.1, .int .u64 x.2.1, .int .i64 x.2.2.1, .int .i64 x.2.2.2.1, .bool x.2.2.2.2.1, .bool x.2.2.2.2.2]
/-- a row of records of one's own -/
def OwnVal (w : World) (base : Nat) (v : Value) (n : Nat) (l : List (Int × Int × Int × Int × Bool × Bool)) : Prop := w.ownsRow base 96 6 v n (l.flatMap valC)
theorem OwnVal.ext {w w' : World} {base n : Nat} {v : Value} {l : List (Int × Int × Int × Int × Bool × Bool)} (h : OwnVal w base v n l) (hx : Ext w w') : OwnVal w' base v n l := own_keep h hx
theorem OwnVal.sl {w : World} {base n c : Nat} {A : Option Addr} {l : List (Int × Int × Int × Int × Bool × Bool)} (h : OwnVal w base (.slice A n c) n l) : Sl w 6 A n c (l.flatMap valC) := Sl.own h
theorem OwnVal.nil (w : World) (base : Nat) : OwnVal w base (.slice none 0 0) 0 [] := World.ownsRow_nil _ _ _ _
/-- records handed back -/
def RetVal (l : List (Int × Int × Int × Int × Bool × Bool)) (w : World) (e : Ending) (w' : World) : Prop := ∃ A c, e = .returned (.slice A l.length c) ∧ (A = none → c = 0) ∧ OwnVal w' w.heap.size (.slice A l.length c) l.length l ∧ Ext w w'
theorem RetVal.mk {l : List (Int × Int × Int × Int × Bool × Bool)} {w w' : World} {v : Value} (h : w'.ownsRow w.heap.size 96 6 v l.length (l.flatMap valC)) (hx : Ext w w') : RetVal l w (.returned v) w' := by
  obtain ⟨A, c, rfl, h1, h2⟩ := own_parts2 h
  exact ⟨A, c, rfl, h1, h, hx⟩
end
section
open Go.RowKit Go.ChangeShapes Go.WideShapes Go.Deep Go.Joins
theorem OwnHop.but {S : Nat → Prop} {w w' : World} {base n c m : Nat} {A : Option Addr} {l : List (Int × Int × Int × Int)} (h : OwnHop w base (.slice A m c) n l) (hx : But S w w') (hS : ∀ k o s, A = some ⟨k, o, s⟩ → ¬ S k) : OwnHop w' base (.slice A m c) n l := by
  refine own_but h hx (fun j hj => ?_)
  cases A with
  | none => cases hj
  | some a => obtain ⟨b, o, s⟩ := a
              injection hj with hj
              have hj2 : b = j := hj
              subst hj2
              exact hS b o s rfl
theorem hopCount_ev (A : Option Addr) (n c : Nat) (l : List (Int × Int × Int × Int)) (ow sr d cv : Int) (w : World) (h : Sl w 4 A n c (l.flatMap hopC)) (hn : n < 1099511627776) (hw : ∀ x ∈ l, FitsH x) (f0 : Fits .i64 ow) (f1 : Fits .i64 sr) (f2 : Fits .i64 d) (hv : cv = cntL l ow sr d) :
    Calls Try.prog 21 #[.slice A n c, .int .i64 ow, .int .i64 sr, .int .i64 d] w fun e w' => e = .returned (.int .i64 cv) ∧ Ext w w' := by
  rw [hv]
  exact hopCount_any A n c l ow sr d w h hn (fits_k hw) f0 f1 f2
theorem hopInto_ev (A : Option Addr) (n c : Nat) (l R : List (Int × Int × Int × Int)) (ow d : Int) (w : World) (h : Sl w 4 A n c (l.flatMap hopC)) (hn : n < 1099511627776) (hv : R = intoV l ow d) :
    Calls Try.prog 28 #[.slice A n c, .int .i64 ow, .int .i64 d] w fun e w' => ∃ A c, e = .returned (.slice A R.length c) ∧ (A = none → c = 0) ∧ OwnHop w' w.heap.size (.slice A R.length c) R.length R ∧ Ext w w' := by
  rw [hv]
  exact hopInto_any A n c l ow d w h hn
end
section
open Go.RowKit Go.ChangeShapes Go.WideShapes Go.Deep Go.Joins
/-- the bytes of numbers, one behind the other -/
def numB (l : List Int) : List Nat := l.flatMap fun n => putL n.toNat
theorem numB_take {l : List Int} {k : Nat} {x : Int} (h : l[k]? = some x) : numB (l.take (k + 1)) = numB (l.take k) ++ putL x.toNat := by
  obtain ⟨hk, hx⟩ := List.getElem?_eq_some_iff.1 h
  unfold numB
  rw [List.take_add_one, h, List.flatMap_append]
  simp
theorem numB_len {l : List Int} (h : ∀ x ∈ l, x < 18446744073709551616) : (numB l).length ≤ 10 * l.length := by
  induction l with
  | nil => simp [numB]
  | cons x l ih =>
    have h1 := putL_ten (N := x.toNat) (by have := h x (List.mem_cons_self ..); omega)
    have h2 := ih (fun y hy => h y (List.mem_cons_of_mem _ hy))
    unfold numB at h2 ⊢
    rw [List.flatMap_cons, List.length_append, List.length_cons]
    omega
/-- a hop's numbers, and bytes -/
def hopN (x : (Int × Int × Int × Int)) : List Int := [x.1, x.2.1, x.2.2.1, x.2.2.2]
def hopB (x : (Int × Int × Int × Int)) : List Nat := numB (hopN x)
/-- a list's bytes -/
def lstB (l : List (Int × Int × Int × Int)) : List Nat := if (chkH l).1 = 0 then putL l.length ++ l.flatMap hopB else []
theorem hop_in {x : (Int × Int × Int × Int)} (h : MayH x) : ∀ y ∈ hopN x, 0 ≤ y ∧ y < 9223372036854775808 := by
  intro y hy
  obtain ⟨h1, h2, _, h3, h4⟩ := h
  simp [hopN] at hy
  omega
theorem hop_fit {x : (Int × Int × Int × Int)} (h : MayH x) (j : Nat) : (numB ((hopN x).take j)).length ≤ 40 := by
  have h1 := numB_len (l := (hopN x).take j) (fun y hy => by have := hop_in h y (List.mem_of_mem_take hy); omega)
  have h2 : ((hopN x).take j).length ≤ 4 := by rw [List.length_take]; simp [hopN]; omega
  omega
theorem flatH_len {l : List (Int × Int × Int × Int)} (h : ∀ x ∈ l, MayH x) : (l.flatMap hopB).length ≤ 40 * l.length := by
  induction l with
  | nil => simp
  | cons x l ih =>
    have h1 := hop_fit (h x (List.mem_cons_self ..)) 4
    have h2 := ih (fun y hy => h y (List.mem_cons_of_mem _ hy))
    rw [List.take_of_length_le (show (hopN x).length ≤ 4 from Nat.le_refl _)] at h1
    rw [List.flatMap_cons, List.length_append, List.length_cons]
    unfold hopB at h2 ⊢
    omega
theorem lst_fit {l : List (Int × Int × Int × Int)} (h : (chkH l).1 = 0) (k : Nat) : (putL l.length ++ (l.take k).flatMap hopB).length ≤ 163850 := by
  obtain ⟨_, h1, _⟩ := chkH_zero h
  have h2 := flatH_len (l := l.take k) (fun x hx => chkH_may h x (List.mem_of_mem_take hx))
  have h3 : (l.take k).length ≤ 4096 := by rw [List.length_take]; omega
  have h4 := putL_ten (N := l.length) (by omega)
  rw [List.length_append]
  omega
set_option maxRecDepth 100000 in
theorem arr4_at (x0 x1 x2 x3 y : Int) (j : Nat) (h : [x0, x1, x2, x3][j]? = some y) : ∀ w : World, (Instr.index 120 (.agg #[.int .i64 x0, .int .i64 x1, .int .i64 x2, .int .i64 x3]) (.int .i64 (j : Int))).run Try.prog w = .ok (.int .i64 y) w := by
  have h0 : ∀ w : World, (Instr.index 120 (.agg #[.int .i64 x0, .int .i64 x1, .int .i64 x2, .int .i64 x3]) (.int .i64 ((0 : Nat) : Int))).run Try.prog w = .ok (.int .i64 x0) w := fun _ => by kernel_rfl
  have h1 : ∀ w : World, (Instr.index 120 (.agg #[.int .i64 x0, .int .i64 x1, .int .i64 x2, .int .i64 x3]) (.int .i64 ((1 : Nat) : Int))).run Try.prog w = .ok (.int .i64 x1) w := fun _ => by kernel_rfl
  have h2 : ∀ w : World, (Instr.index 120 (.agg #[.int .i64 x0, .int .i64 x1, .int .i64 x2, .int .i64 x3]) (.int .i64 ((2 : Nat) : Int))).run Try.prog w = .ok (.int .i64 x2) w := fun _ => by kernel_rfl
  have h3 : ∀ w : World, (Instr.index 120 (.agg #[.int .i64 x0, .int .i64 x1, .int .i64 x2, .int .i64 x3]) (.int .i64 ((3 : Nat) : Int))).run Try.prog w = .ok (.int .i64 x3) w := fun _ => by kernel_rfl
  match j, h with
  | 0, h => rw [← Option.some.inj h]; exact h0
  | 1, h => rw [← Option.some.inj h]; exact h1
  | 2, h => rw [← Option.some.inj h]; exact h2
  | 3, h => rw [← Option.some.inj h]; exact h3
  | j + 4, h => simp at h
set_option maxRecDepth 100000 in
set_option maxHeartbeats 2000000 in
theorem hopBytes_chk (A : Option Addr) (c : Nat) (l : List (Int × Int × Int × Int)) (f1 f2 : Int) (w : World) (hs : Sl w 4 A l.length c (l.flatMap hopC)) (hw : ∀ x ∈ l, FitsH x) (hf : (f1, f2) = chkH l) (hc : f1 ≠ 0) :
    Calls Try.prog 51 #[.slice A l.length c] w (ByErr (lstB l) f1 w) := by
  have s1 := hs.small
  have e7 : (f1 != 0) = true := by simpa using hc
  have hB : lstB l = [] := by unfold lstB; rw [← hf]; exact if_neg hc
  rw [hB]
  have HS := Lib.hid hs.low
  have Hf := Lib.hid hf
  have HW := Lib.hid hw
  clear hs hf hw
  go_enter Try.func51, Try.ntmps51
  go_wp2_with fail
  (with_reducible refine (hopCheck_ev A l.length c l f1 f2 _ (HS.out.ext (by repeat (first | with_reducible exact Ext.refl _ | with_reducible refine Ext.drew ?_ | with_reducible refine Ext.drewN ?_ _ | with_reducible refine Ext.alloc ?_ _ | with_reducible refine Ext.setCell ?_ (by first | omega | (simp; done) | (simp; omega)) _))).sl (fits_t HW.out) Hf.out).mono ?_)
  rintro e w1 ⟨rfl, hx1⟩
  have z1 := hx1.size
  try simp at z1
  replace HS := Lib.hid (HS.out.ext (Ext.trans (by repeat (first | with_reducible exact Ext.refl _ | with_reducible refine Ext.drew ?_ | with_reducible refine Ext.drewN ?_ _ | with_reducible refine Ext.alloc ?_ _ | with_reducible refine Ext.setCell ?_ (by first | omega | (simp; done) | (simp; omega)) _)) hx1))
  have X1 : Hid (Ext w w1) := Lib.hid (Ext.trans (by repeat (first | with_reducible exact Ext.refl w | with_reducible refine Ext.drew ?_ | with_reducible refine Ext.drewN ?_ _ | with_reducible refine Ext.alloc ?_ _ | with_reducible refine Ext.setCell ?_ (by first | omega | (simp; done) | (simp; omega)) _)) hx1)
  clear hx1 z1
  go_wp2_with fail
  refine bodyPost_ret (v := .tuple #[.slice none 0 0, .int .i64 f1]) (by simp [results, Try.results51, go_sem, World.cell?_alloc_past]; try rfl) rfl ⟨_, rfl, World.ownsRow_nil _ _ _ _, ?_⟩
  exact (by repeat (first | with_reducible exact X1.out | with_reducible refine Ext.drew ?_ | with_reducible refine Ext.drewN ?_ _ | with_reducible refine Ext.alloc ?_ _ | with_reducible refine Ext.setCell ?_ (by first | omega | (simp; done) | (simp; omega)) _))
set_option maxRecDepth 100000 in
set_option maxHeartbeats 2000000 in
theorem hopBytes_ok (A : Option Addr) (c : Nat) (l : List (Int × Int × Int × Int)) (f1 f2 : Int) (w : World) (hs : Sl w 4 A l.length c (l.flatMap hopC)) (hw : ∀ x ∈ l, FitsH x) (hf : (f1, f2) = chkH l) (hc : f1 = 0) :
    Calls Try.prog 51 #[.slice A l.length c] w (ByErr (lstB l) f1 w) := by
  have s1 := hs.small
  subst hc
  have hch : (chkH l).1 = 0 := by rw [← hf]
  have hB : lstB l = putL l.length ++ l.flatMap hopB := by unfold lstB; exact if_pos hch
  rw [hB]
  have h4096 := (chkH_zero hch).2.1
  have HC := Lib.hid hch
  clear hB hch
  have HS := Lib.hid hs.low
  have Hf := Lib.hid hf
  have HW := Lib.hid hw
  clear hs hf hw
  go_enter Try.func51, Try.ntmps51
  go_wp2_with fail
  (with_reducible refine (hopCheck_ev A l.length c l 0 f2 _ (HS.out.ext (by repeat (first | with_reducible exact Ext.refl _ | with_reducible refine Ext.drew ?_ | with_reducible refine Ext.drewN ?_ _ | with_reducible refine Ext.alloc ?_ _ | with_reducible refine Ext.setCell ?_ (by first | omega | (simp; done) | (simp; omega)) _))).sl (fits_t HW.out) Hf.out).mono ?_)
  rintro e w1 ⟨rfl, hx1⟩
  have z1 := hx1.size
  try simp at z1
  replace HS := Lib.hid (HS.out.ext (Ext.trans (by repeat (first | with_reducible exact Ext.refl _ | with_reducible refine Ext.drew ?_ | with_reducible refine Ext.drewN ?_ _ | with_reducible refine Ext.alloc ?_ _ | with_reducible refine Ext.setCell ?_ (by first | omega | (simp; done) | (simp; omega)) _)) hx1))
  have X1 : Hid (Ext w w1) := Lib.hid (Ext.trans (by repeat (first | with_reducible exact Ext.refl w | with_reducible refine Ext.drew ?_ | with_reducible refine Ext.drewN ?_ _ | with_reducible refine Ext.alloc ?_ _ | with_reducible refine Ext.setCell ?_ (by first | omega | (simp; done) | (simp; omega)) _)) hx1)
  clear hx1 z1
  go_wp2_with fail
  have hx0 := Ext.size X1.out
  (with_reducible refine (cNewWriter_ex 1048576 (by decide) (by decide) _).mono ?_)
  rintro e w2 ⟨g, rfl, hg, hW, hx2⟩
  have z2 := hx2.size
  try simp at z2
  replace HS := Lib.hid (HS.out.ext (Ext.trans (by repeat (first | with_reducible exact Ext.refl _ | with_reducible refine Ext.drew ?_ | with_reducible refine Ext.drewN ?_ _ | with_reducible refine Ext.alloc ?_ _ | with_reducible refine Ext.setCell ?_ (by first | omega | (simp; done) | (simp; omega)) _)) hx2))
  have X2 : Hid (Ext w w2) := Lib.hid (Ext.trans (by repeat (first | with_reducible exact X1.out | with_reducible refine Ext.drew ?_ | with_reducible refine Ext.drewN ?_ _ | with_reducible refine Ext.alloc ?_ _ | with_reducible refine Ext.setCell ?_ (by first | omega | (simp; done) | (simp; omega)) _)) hx2)
  have HWr := Lib.hid hW
  clear X1 hx2 z2 hW
  have hgw : w.heap.size ≤ g := by have := Ext.size X2.out; (try simp at hg); have := hx0; omega
  clear hg
  go_wp2_with fail
  (with_reducible refine (cWN_fit g 1048576 [] (l.length : Int) (by omega) (by omega) (by simp) _ (HWr.out.ext (by repeat (first | with_reducible exact Ext.refl _ | with_reducible refine Ext.drew ?_ | with_reducible refine Ext.drewN ?_ _ | with_reducible refine Ext.alloc ?_ _ | with_reducible refine Ext.setCell ?_ (by first | omega | (simp; done) | (simp; omega)) _)))).mono ?_)
  rintro e w3 ⟨rfl, hW, hx3⟩
  have hsz3 := hx3.size
  try simp at hsz3
  have z3 := hx3.size
  try simp at z3
  have X3 : Hid (Ext w w3) := Lib.hid (have hX := (show Ext w _ from (by repeat (first | with_reducible exact X2.out | with_reducible refine Ext.drew ?_ | with_reducible refine Ext.drewN ?_ _ | with_reducible refine Ext.alloc ?_ _ | with_reducible refine Ext.setCell ?_ (by first | omega | (simp; done) | (simp; omega)) _))); Below.trans hX (hx3.below (Ext.size hX) (fun k hk hh => by have h2 : g ≤ k := hh; omega)))
  replace HS := Lib.hid ((HS.out.ext (by repeat (first | with_reducible exact Ext.refl _ | with_reducible refine Ext.drew ?_ | with_reducible refine Ext.drewN ?_ _ | with_reducible refine Ext.alloc ?_ _ | with_reducible refine Ext.setCell ?_ (by first | omega | (simp; done) | (simp; omega)) _))).but hx3 (fun k hk => by have h2 : g ≤ k := hk; omega))
  clear HWr
  have HWr := Lib.hid (show Wr _ g 1048576 0 (putL l.length) from by simpa using hW)
  clear hsz3 X2 hx3 z3
  have HW0 : Hid (Wr _ g 1048576 0 (putL l.length ++ (l.take 0).flatMap hopB)) := Lib.hid (by simpa using HWr.out)
  go_wp2_with fail
  go_loopg [30] l.length (fun gh i wx => gh ≤ l.length ∧ i = .int .i64 ((l.length - gh : Nat) : Int) ∧ Hid (Wr wx g 1048576 0 (putL l.length ++ (l.take (l.length - gh)).flatMap hopB)) ∧ Hid (SlB w.heap.size wx 4 A l.length c (l.flatMap hopC)) ∧ Ext w wx)
  case atStart => exact ⟨Nat.le_refl _, by simp, by rw [Nat.sub_self]; exact HW0, HS, X3.out⟩
  case round =>
    obtain ⟨hg, hi', hw, hs, hx⟩ := hrel
    obtain ⟨k, hk⟩ : ∃ k, k = l.length - gk := ⟨_, rfl⟩
    rw [← hk] at hi' hw
    subst hi'
    have XR := Lib.hid hx
    have HWk := hw
    have HSk := hs
    by_cases hz : gk = 0
    · have hkn : ¬ (k : Int) < l.length := by omega
      have hkl : k = l.length := by omega
      have HWE : Hid (Wr wr g 1048576 0 (putL l.length ++ l.flatMap hopB)) := Lib.hid (by have h := hw.out; rw [hkl, List.take_length] at h; exact h)
      clear hx hk hg hz hw hs hkl HWk HSk
      go_wp2_with fail
      have hrm := Ext.size XR.out
      (with_reducible refine ((show _ from cDone_ok g 1048576 _ _ (HWE.out.ext (by repeat (first | with_reducible exact Ext.refl _ | with_reducible refine Ext.drew ?_ | with_reducible refine Ext.drewN ?_ _ | with_reducible refine Ext.alloc ?_ _ | with_reducible refine Ext.setCell ?_ (by first | omega | (simp; done) | (simp; omega)) _))))).mono ?_)
      rintro e w41 ⟨v, rfl, hV, hx41⟩
      have z41 := hx41.size
      try simp at z41
      replace HWE := Lib.hid (HWE.out.ext (Ext.trans (by repeat (first | with_reducible exact Ext.refl _ | with_reducible refine Ext.drew ?_ | with_reducible refine Ext.drewN ?_ _ | with_reducible refine Ext.alloc ?_ _ | with_reducible refine Ext.setCell ?_ (by first | omega | (simp; done) | (simp; omega)) _)) hx41))
      have X41 : Hid (Ext w w41) := Lib.hid (Ext.trans (by repeat (first | with_reducible exact XR.out | with_reducible refine Ext.drew ?_ | with_reducible refine Ext.drewN ?_ _ | with_reducible refine Ext.alloc ?_ _ | with_reducible refine Ext.setCell ?_ (by first | omega | (simp; done) | (simp; omega)) _)) hx41)
      have HV := Lib.hid hV
      clear XR hx41 z41 hV
      go_wp2_with fail
      refine bodyPost_ret (v := .tuple #[v, .int .i64 0]) (by simp [results, Try.results51]; try rfl) rfl ⟨v, rfl, own_lower HV.out ?_, (by repeat (first | with_reducible exact X41.out | with_reducible refine Ext.drew ?_ | with_reducible refine Ext.drewN ?_ _ | with_reducible refine Ext.alloc ?_ _ | with_reducible refine Ext.setCell ?_ (by first | omega | (simp; done) | (simp; omega)) _))⟩
      have h := hrm
      (try simp at h)
      omega
    · have hkn : (k : Int) < l.length := by omega
      have hk1 : k < l.length := by omega
      obtain ⟨b1, o1, rfl, hb1, hc1⟩ := hs.out.sl.rec_ hopC_len (show 0 < l.length from by omega)
      have hb1w := hs.out.2 (by omega) b1 o1 none rfl
      obtain ⟨x, hxx⟩ : ∃ x, x = l[k] := ⟨_, rfl⟩
      have hlk : l[k]? = some x := by rw [hxx]; exact List.getElem?_eq_getElem hk1
      have x_0 := hc1 k _ hlk 0 _ rfl
      have x_1 := hc1 k _ hlk 1 _ rfl
      have x_2 := hc1 k _ hlk 2 _ rfl
      have x_3 := hc1 k _ hlk 3 _ rfl
      have hr := chkH_may HC.out x (List.mem_of_getElem? hlk)
      have hM := lst_fit HC.out k
      have ht := hopC_take hlk
      obtain ⟨M0, hM0⟩ : ∃ M0, M0 = putL l.length ++ (l.take k).flatMap hopB := ⟨_, rfl⟩
      rw [← hM0] at hM HWk
      have hnext : putL l.length ++ (l.take (k + 1)).flatMap hopB = M0 ++ hopB x := by rw [ht, List.flatMap_append, ← List.append_assoc, ← hM0]; simp
      have hin := hop_in hr
      have hft := hop_fit hr
      obtain ⟨x0, x1, x2, x3⟩ := x
      simp only at x_0 x_1 x_2 x_3
      rw [Nat.add_zero] at x_0
      rw [← Nat.add_assoc] at x_1 x_2 x_3
      have HIN : Hid (∀ y ∈ [x0, x1, x2, x3], 0 ≤ y ∧ y < 9223372036854775808) := Lib.hid hin
      have HFT : Hid (∀ j, (numB ([x0, x1, x2, x3].take j)).length ≤ 40) := Lib.hid hft
      have HQ0 := Lib.hid hM
      have HNX : Hid (_ = M0 ++ numB [x0, x1, x2, x3]) := Lib.hid hnext
      have HK := Lib.hid (And.intro hk (And.intro hg hz))
      obtain ⟨g1, hg1⟩ : ∃ g, g = gk := ⟨_, rfl⟩
      have HG1 := Lib.hid hg1
      clear hx hk hg hz hc1 hxx hlk hr hM ht hnext hw hs hM0 hg1 hin hft
      go_wp2_with fail
      go_loopg [43] 4 (fun gh i wx => gh ≤ 4 ∧ i = .int .i64 ((4 - gh : Nat) : Int) ∧ Hid (Wr wx g 1048576 0 (M0 ++ numB ([x0, x1, x2, x3].take (4 - gh)))) ∧ Hid (SlB w.heap.size wx 4 (some ⟨b1, o1, none⟩) l.length c (l.flatMap hopC)) ∧ Ext w wx)
      case atStart => exact ⟨Nat.le_refl _, by simp, Lib.hid (by rw [show M0 ++ numB ([x0, x1, x2, x3].take (4 - 4)) = M0 from by simp [numB]]; exact (HWk.out.ext (by repeat (first | with_reducible exact Ext.refl _ | with_reducible refine Ext.drew ?_ | with_reducible refine Ext.drewN ?_ _ | with_reducible refine Ext.alloc ?_ _ | with_reducible refine Ext.setCell ?_ (by first | omega | (simp; done) | (simp; omega)) _)))), Lib.hid (HSk.out.ext (by repeat (first | with_reducible exact Ext.refl _ | with_reducible refine Ext.drew ?_ | with_reducible refine Ext.drewN ?_ _ | with_reducible refine Ext.alloc ?_ _ | with_reducible refine Ext.setCell ?_ (by first | omega | (simp; done) | (simp; omega)) _))), (by repeat (first | with_reducible exact XR.out | with_reducible refine Ext.drew ?_ | with_reducible refine Ext.drewN ?_ _ | with_reducible refine Ext.alloc ?_ _ | with_reducible refine Ext.setCell ?_ (by first | omega | (simp; done) | (simp; omega)) _))⟩
      case round =>
        obtain ⟨hg2, hi2, hw2, hs2, hx2⟩ := hrel
        obtain ⟨j, hj⟩ : ∃ j, j = 4 - gk := ⟨_, rfl⟩
        rw [← hj] at hi2 hw2
        subst hi2
        have XS := Lib.hid hx2
        by_cases hz2 : gk = 0
        · have hjn : ¬ (j : Int) < 4 := by omega
          have hj4 : j = 4 := by omega
          have hE := hw2.out
          rw [hj4, show [x0, x1, x2, x3].take 4 = [x0, x1, x2, x3] from rfl, ← HNX.out] at hE
          have HE := Lib.hid hE
          clear hx2 hj hg2 hz2 hw2 hj4 hE
          go_wp2_with fail
          go_roundg (g1 - 1)
          case measure => have := HK.out; have := HG1.out; omega
          case rel =>
            refine ⟨by have := HK.out; have := HG1.out; omega, num_eq (by have := HK.out; have := HG1.out; omega), ?_, hs2, XS.out⟩
            rw [show l.length - (g1 - 1) = k + 1 from by have := HK.out; have := HG1.out; omega]
            exact HE
        · have hjn : (j : Int) < 4 := by omega
          have hj1 : j < 4 := by omega
          obtain ⟨y, hyy⟩ : ∃ y, [x0, x1, x2, x3][j]? = some y := ⟨_, List.getElem?_eq_getElem (by simpa using hj1)⟩
          obtain ⟨hy0, hy1⟩ := HIN.out y (List.mem_of_getElem? hyy)
          have hnx := numB_take hyy
          have hln := HFT.out j
          have hlM := HQ0.out
          have hix := arr4_at x0 x1 x2 x3 y j hyy
          have hM2 : ((M0 ++ numB ([x0, x1, x2, x3].take j)).length : Int) + 10 ≤ 1048576 := by rw [List.length_append]; omega
          obtain ⟨M2, hMM⟩ : ∃ M2, M2 = M0 ++ numB ([x0, x1, x2, x3].take j) := ⟨_, rfl⟩
          rw [← hMM] at hM2 hw2
          have HW2 := hw2
          have HS2 := hs2
          have HNX2 : Hid (M0 ++ numB ([x0, x1, x2, x3].take (j + 1)) = M2 ++ putL y.toNat) := Lib.hid (by rw [hnx, ← List.append_assoc, ← hMM])
          have HJ := Lib.hid (And.intro hj (And.intro hg2 hz2))
          clear hx2 hj hg2 hz2 hw2 hs2 hyy hnx hln hlM hMM hj1
          go_wp2_with fail
          (with_reducible refine (cWN_fit g 1048576 M2 y hy0 hy1 hM2 _ HW2.out).mono ?_)
          rintro e w60 ⟨rfl, hW, hb60⟩
          have X60 : Hid (Ext w w60) := Lib.hid (have hX := XS.out; Below.trans hX (hb60.below (Ext.size hX) (fun k hk hh => by have h2 : g ≤ k := hh; omega)))
          have HS60 := Lib.hid (HS2.out.but hb60 (fun k hk => by have h2 : g ≤ k := hk; omega))
          have HW60 := Lib.hid hW
          clear hW hb60 HW2 HS2 XS
          go_wp2_with fail
          go_roundg (gk - 1)
          case measure => have := HJ.out; omega
          case rel =>
            refine ⟨by have := HJ.out; omega, num_eq (by have := HJ.out; omega), ?_, HS60, X60.out⟩
            rw [show 4 - (gk - 1) = j + 1 from by have := HJ.out; omega, HNX2.out]
            exact HW60
theorem hopBytes_any (A : Option Addr) (c : Nat) (l : List (Int × Int × Int × Int)) (w : World) (hs : Sl w 4 A l.length c (l.flatMap hopC)) (hw : ∀ x ∈ l, FitsH x) : Calls Try.prog 51 #[.slice A l.length c] w (ByErr (lstB l) (chkH l).1 w) := by
  by_cases hc : (chkH l).1 = 0
  · exact hopBytes_ok A c l _ _ w hs hw rfl hc
  · exact hopBytes_chk A c l _ _ w hs hw rfl hc
end
section
open Go.RowKit
/-- a row of bytes of one's own -/
def OwnN (w : World) (base : Nat) (v : Value) (n : Nat) (L : List Nat) : Prop := w.ownsRow base 5 1 v n (by_ L)
theorem OwnN.ext {w w' : World} {base n : Nat} {v : Value} {L : List Nat} (h : OwnN w base v n L) (hx : Ext w w') : OwnN w' base v n L := own_keep h hx
theorem OwnN.sl {w : World} {base n c : Nat} {A : Option Addr} {L : List Nat} (h : OwnN w base (.slice A n c) n L) : Sl w 1 A n c (by_ L) := Sl.own h
theorem own_out {w : World} {L : List Nat} {E : Int} {r : Ending} {w' : World} (h : ByErr L E w r w') : ∃ A c, r = .returned (.tuple #[.slice A L.length c, .int .i64 E]) ∧ (A = none → c = 0) ∧ OwnN w' w.heap.size (.slice A L.length c) L.length L ∧ Ext w w' := by
  obtain ⟨v, rfl, hown, hx⟩ := h
  obtain ⟨A, c, rfl, h1, h2⟩ := own_parts2 hown
  exact ⟨A, c, rfl, h1, hown, hx⟩
theorem byt_append {L M : List Nat} (h : Byt L) (k : Byt M) : Byt (L ++ M) := by
  intro x hx
  rcases List.mem_append.1 hx with hx | hx
  · exact h x hx
  · exact k x hx
theorem byt_flat {α : Type} {f : α → List Nat} {l : List α} (h : ∀ x ∈ l, Byt (f x)) : Byt (l.flatMap f) := by
  intro y hy
  obtain ⟨x, hx, hxy⟩ := List.mem_flatMap.1 hy
  exact h x hx y hxy
theorem byt_nil : Byt [] := by intro x hx; simp at hx
theorem byt_put (n : Nat) : Byt (putL n) := byt_putL n n (Nat.le_refl _)
end
section
open Go.RowKit
theorem kPick_any (x n : Int) (hx : -9223372036854775808 ≤ x) (hx2 : x ≤ 9223372036854775807) (hn : 0 < n) (hn2 : n ≤ 9223372036854775807) (w : World) :
    Calls Try.prog 50 #[.int .i64 x, .int .i64 n] w fun e w' => e = .returned (.int .i64 (x % n)) ∧ w = w' := by
  have m0 := Int.emod_nonneg x (by omega : n ≠ 0)
  have m1 := Int.emod_lt_of_pos x hn
  obtain ⟨r, hr⟩ : ∃ r, r = x % n := ⟨_, rfl⟩
  rw [← hr] at m0 m1 ⊢
  by_cases h0 : 0 ≤ x
  · have e : x % n = r := hr.symm
    clear hr
    go_enter Try.func50, Try.ntmps50
    go_wp2
    go_ret
    exact ⟨ret_int e, rfl⟩
  · obtain ⟨t, ht⟩ : ∃ t, t = x.tmod n := ⟨_, rfl⟩
    have ht2 : t = -((-x) % n) := by
      rw [ht, show x = -(-x) from by omega, Int.neg_tmod, Int.tmod_eq_emod_of_nonneg (by omega)]
      simp
    have hd := Int.mul_ediv_add_emod (-x) n
    have q0 := Int.emod_nonneg (-x) (by omega : n ≠ 0)
    have q1 := Int.emod_lt_of_pos (-x) hn
    have hd2 := Int.mul_ediv_add_emod x n
    rw [← hr] at hd2
    have hcase : t < 0 ∧ r = t + n ∨ t = 0 ∧ r = 0 := by
      have key : n * ((-x) / n + x / n) = t - r := by rw [Int.mul_add]; omega
      rcases Int.lt_or_le t 0 with h | h
      · left
        refine ⟨h, ?_⟩
        have h1 : (-x) / n + x / n = -1 := by
          rcases Int.lt_trichotomy ((-x) / n + x / n) (-1) with g | g | g
          · have : n * ((-x) / n + x / n) ≤ n * (-2) := Int.mul_le_mul_of_nonneg_left (by omega) (by omega)
            omega
          · exact g
          · have : n * 0 ≤ n * ((-x) / n + x / n) := Int.mul_le_mul_of_nonneg_left (by omega) (by omega)
            omega
        rw [h1] at key
        omega
      · right
        have h0 : t = 0 := by omega
        refine ⟨h0, ?_⟩
        rcases Int.lt_trichotomy ((-x) / n + x / n) 0 with g | g | g
        · have : n * ((-x) / n + x / n) ≤ n * (-1) := Int.mul_le_mul_of_nonneg_left (by omega) (by omega)
          omega
        · rw [g] at key; omega
        · have : n * 1 ≤ n * ((-x) / n + x / n) := Int.mul_le_mul_of_nonneg_left (by omega) (by omega)
          omega
    have e : x.tmod n = t := ht.symm
    have t0 : -9223372036854775808 ≤ t ∧ t ≤ 0 := by omega
    obtain ⟨t0, t1⟩ := t0
    clear hr ht ht2 hd hd2 q0 q1 m0 m1
    rcases hcase with ⟨c1, c2⟩ | ⟨c1, c2⟩
    · have C := Lib.hid c2
      have b1 : t + n ≤ 9223372036854775807 := by omega
      have b2 : -9223372036854775808 ≤ t + n := by omega
      clear c2
      go_enter Try.func50, Try.ntmps50
      go_wp2
      go_ret
      exact ⟨ret_int (by rw [C.out]), rfl⟩
    · subst c1
      subst c2
      go_enter Try.func50, Try.ntmps50
      go_wp2
      go_ret
      exact ⟨rfl, rfl⟩
end
section
open Go.RowKit Go.ChangeShapes Go.WideShapes Go.Deep Go.Joins
theorem OwnN.but {S : Nat → Prop} {w w' : World} {base n c m : Nat} {A : Option Addr} {L : List Nat} (h : OwnN w base (.slice A m c) n L) (hx : But S w w') (hS : ∀ k o s, A = some ⟨k, o, s⟩ → ¬ S k) : OwnN w' base (.slice A m c) n L := by
  refine own_but h hx (fun j hj => ?_)
  cases A with
  | none => cases hj
  | some a => obtain ⟨b, o, s⟩ := a
              injection hj with hj
              have hj2 : b = j := hj
              subst hj2
              exact hS b o s rfl
theorem byt_num (l : List Int) : Byt (numB l) := byt_flat (fun x _ => byt_put x.toNat)
theorem byt_lst (l : List (Int × Int × Int × Int)) : Byt (lstB l) := by
  unfold lstB
  split
  · exact byt_append (byt_put _) (byt_flat (fun x _ => byt_num _))
  · exact byt_nil
theorem hopBytes_ev (A : Option Addr) (c : Nat) (l : List (Int × Int × Int × Int)) (L : List Nat) (E : Int) (w : World) (hs : Sl w 4 A l.length c (l.flatMap hopC)) (hw : ∀ x ∈ l, FitsH x) (hL : L = lstB l) (hE : E = (chkH l).1) : Calls Try.prog 51 #[.slice A l.length c] w fun r w' => ∃ A c, r = .returned (.tuple #[.slice A L.length c, .int .i64 E]) ∧ (A = none → c = 0) ∧ OwnN w' w.heap.size (.slice A L.length c) L.length L ∧ Ext w w' := by
  subst hL hE
  exact (hopBytes_any A c l w hs hw).mono fun r w' h => own_out h
theorem small_fits {y : Int} (h0 : 0 ≤ y) (h : y < 10000) : Fits .i64 y := by
  unfold Fits
  simp [Lit.wf, IntKind.min, IntKind.max, IntKind.bits, IntKind.signed]
  omega
end
end Go.Proofs.Ytjdpgapmdmpjjaa
