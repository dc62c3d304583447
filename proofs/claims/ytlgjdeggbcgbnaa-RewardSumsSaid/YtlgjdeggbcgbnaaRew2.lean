/- reward: total. Conditions stand in the lemma. -/
import Derived.Test.YtlgjdeggbcgbnaaRew1
import Derived.RangeFuncNested
set_option linter.unusedVariables false
set_option linter.unusedSimpArgs false
namespace Go.Proofs.Ytlgjdeggbcgbnaa
open Go.RowKit Go.Shelf
attribute [local go_sem] Oper.semAt_some

theorem rewSums_in (F : Fence) (k : Nat) (hF : F.fn 59) (hro : F.round = none) (A : Option Addr) (n c : Nat) (w : World) :
    CallsIn F k Try.prog 59 #[.slice A n c] w fun e w' => e = .returned (.func (.func 75) #[] #[.pointer (some ⟨w.heap.size, 0, none⟩)]) ∧ w' = w.alloc (.cells #[.slice A n c] 59) := by
  have hmf : ∀ (fn : Fn) (first cap : Array Value) (w : World), (Instr.makeFunc fn first cap).run Try.prog w = .ok (.func fn first cap) w := fun _ _ _ _ => rfl
  refine callsIn_of_wp Try.func59 rfl hF ?_ hro
  simp only [Try.ntmps59, List.size_toArray, List.length_cons, List.length_nil, Nat.reduceAdd, Nat.reduceSub, Array.replicate_succ, Array.replicate_zero, List.push_toArray, List.append_toArray, List.nil_append, List.cons_append]
  gi_wp2
  go_ret
  exact ⟨rfl, rfl⟩
set_option maxRecDepth 100000 in
set_option maxHeartbeats 2000000 in
theorem rewTot_any (A : Option Addr) (n c : Nat) (l : List Int) (w : World) (h : Sl w 1 A n c (iv .u64 l)) (hw : ∀ x ∈ l, Word x) :
    Calls Try.prog 40 #[.slice A n c] w fun e w' => e = .returned (.tuple #[.int .u64 (totV l).1, .int .i64 (totV l).2]) ∧ Ext w w' := by
  have HS := Lib.hid h.low
  have HW := Lib.hid hw
  clear h hw
  refine (callsIn_wide (n := 6)).1 ?_
  refine callsIn_of_wp_marks Try.func40 rfl trivial ?_ rfl
  simp only [Try.ntmps40, List.size_toArray, List.length_cons, List.length_nil, Nat.reduceAdd, Nat.reduceSub, Array.replicate_succ, Array.replicate_zero, List.push_toArray, List.append_toArray, List.nil_append, List.cons_append]
  gi_wp2_with fail
  refine ⟨trivial, (rewSums_in _ _ trivial rfl _ _ _ _).mono ?_⟩
  rintro e w1 ⟨rfl, rfl⟩
  gi_wp2_with fail
  have hl0 := Boxed.new w 23 (.int .u64 0)
  have bA := (hl0.alloc (.cells #[.int .i64 0] 26)).alloc (.cells #[.slice A n c] 59)
  have bB := (Boxed.new (w.alloc (.cells #[.int .u64 0] 23)) 26 (.int .i64 0)).alloc (.cells #[.slice A n c] 59)
  have bC := Boxed.new ((w.alloc (.cells #[.int .u64 0] 23)).alloc (.cells #[.int .i64 0] 26)) 59 (.slice A n c)
  have hx0 : Ext w (((w.alloc (.cells #[.int .u64 0] 23)).alloc (.cells #[.int .i64 0] 26)).alloc (.cells #[.slice A n c] 59)) := ((((Ext.refl w).alloc _).alloc _).alloc _)
  clear hl0
  simp only [World.size_alloc] at bA bB bC
  obtain ⟨w0, hw0⟩ : ∃ w0, (((w.alloc (.cells #[.int .u64 0] 23)).alloc (.cells #[.int .i64 0] 26)).alloc (.cells #[.slice A n c] 59)) = w0 := ⟨_, rfl⟩
  have hz0 : w0.heap.size = w.heap.size + 3 := by rw [← hw0]; simp
  rw [hw0] at bA bB bC hx0 ⊢
  clear hw0
  have hS0 := HS.out.ext hx0
  refine rangeFunc_ext rfl (by decide) (gf := 75) (lb := #[.pointer (some ⟨w.heap.size + 2, 0, none⟩)]) rfl trivial (enters_of Try.func75 (by kernel_rfl) rfl) (enc := fun x : Int × Int => #[.int .u64 x.1, .int .i64 x.2]) (xs := yl 0 l) (n0 := w.heap.size) (by omega)
    (fun q J W hW hJ hY h0 => sums1_in _ _ trivial trivial trivial rfl (by decide) q (w.heap.size + 2) w.heap.size n c A l J W HW.out hJ hY ((hW.cell (p := ⟨w.heap.size + 2, 0, none⟩) (by simp; omega)).trans bC.cell) (hS0.ext hW) h0 (by have := hW.size; omega))
    (fun _ => rfl)
    (fun pre W => Boxed W w.heap.size 23 (.int .u64 (lastV pre).1) ∧ Boxed W (w.heap.size + 1) 26 (.int .i64 (lastV pre).2) ∧ Ext w W)
    (fun s A A' hs hx => ?_) (fun s A q o o' hs hq ho hnc => ?_)
    ⟨bA, bB, hx0⟩
    (fun x => { tmps := #[.slice A n c, undef, .int .u64 0, .int .i64 0, .pointer (some ⟨w.heap.size, 0, none⟩), .pointer (some ⟨w.heap.size + 1, 0, none⟩), .int .u64 x.1, .int .i64 x.2, .slice A n c, .func (.func 75) #[] #[.pointer (some ⟨w.heap.size + 2, 0, none⟩)], .int .u64 x.1, .int .i64 x.2, undef, undef, undef, undef], defers := [] }) ?assign ?body ?done
  case assign =>
    intro q x W K hK
    gi_wp2
    exact hK
  case body =>
    rintro q pre x W ⟨hA, hB, hX⟩ hpre
    have hcA := hA.cell
    have hcB := hB.cell
    have hfA := hA.frozen
    have hfB := hB.frozen
    gi_wp2
    refine ⟨(KeepsOthers.setCell _ _ _).trans (KeepsOthers.setCell _ _ _), ((Below.refl _ _).setCell (p := ⟨w.heap.size, 0, none⟩) (Nat.le_refl _) _).setCell (p := ⟨w.heap.size + 1, 0, none⟩) (by simp) _, ?_, ?_, ?_⟩
    · rw [lastV_snoc]; exact Boxed.other (Boxed.set _ hA) (by omega) _
    · rw [lastV_snoc]; exact Boxed.set _ (Boxed.other hB (by omega) _)
    · exact (Below.setCell (p := ⟨w.heap.size, 0, none⟩) hX (Nat.le_refl _) _).setCell (p := ⟨w.heap.size + 1, 0, none⟩) (by simp) _
  case done =>
    rintro D W hD ⟨hA, hB, hX⟩ hK
    have hcA := hA.cell
    have hcB := hB.cell
    rw [lastV_tot HW.out] at hcA hcB
    gi_wp2
    gi_region
    gi_wp2
    have hK1 : W.drew.heap[D]? = some (.deferred (some [])) := hK
    refine ⟨by simp, .inl ⟨_, _, rfl, run_takeDeferred hK1, ?_⟩⟩
    refine ⟨_, results_tmp2 (fn := Try.f40) (t := 2) (u := 3) rfl _ _ _, rfl, ?_⟩
    have hzW := hX.size
    exact Below.grown (Below.drew hX) (grownBy_putObj' _ D _) (by simp; omega) (fun k e => by cases e; omega)
  · exact ⟨(Below.block hx _ hs.1.lt).trans hs.1, (Below.block hx _ hs.2.1.lt).trans hs.2.1, hs.2.2.trans hx⟩
  · obtain ⟨hA, hB, hX⟩ := hs
    exact ⟨Boxed.kept hA (grownBy_putObj' A q o') (fun e => by cases e; omega), Boxed.kept hB (grownBy_putObj' A q o') (fun e => by cases e; omega), Below.grown hX (grownBy_putObj' A q o') (Nat.le_trans (by omega) (Nat.le_of_lt (Array.getElem?_eq_some_iff.1 ho).1)) (fun k e => by cases e; omega)⟩
end Go.Proofs.Ytlgjdeggbcgbnaa
