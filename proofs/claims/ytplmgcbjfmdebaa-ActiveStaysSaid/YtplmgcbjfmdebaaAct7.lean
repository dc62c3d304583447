/- active, its reference and statements: what is at a place of a list; how many places two lists have. Conditions stand in each lemma. -/
import Derived.Test.YtplmgcbjfmdebaaAct2
import Derived.Test.YtplmgcbjfmdebaaListBool
import Derived.Test.YtplmgcbjfmdebaaListInt
set_option linter.unusedVariables false
set_option linter.unusedSimpArgs false
namespace Go.Proofs.Ytplmgcbjfmdebaa
open Go.RowKit Go.Shelf Go.ChangeShapes Go.WideShapes Go.Deep

theorem tk_of {ts : List Int} {i : Nat} (h : ts.length ≤ i) : tk ts i = 0 := by
  unfold tk; rw [List.getD_eq_getElem?_getD, List.getElem?_eq_none h]; rfl
theorem isB_of {ms : List Bool} {i : Nat} (h : ms.length ≤ i) : isB ms i = false := by
  unfold isB; rw [List.getD_eq_getElem?_getD, List.getElem?_eq_none h]; rfl
set_option maxRecDepth 100000 in
theorem atW_any (A : Option Addr) (n c : Nat) (ts : List Int) (i : Nat) (w : World) (h : Sl w 1 A n c (iv .u64 ts)) :
    Calls Try.prog 39 #[.slice A n c, .int .i64 (i : Int)] w fun e w' => e = .returned (.tuple #[.int .u64 (tk ts i), .bool (decide (i < n))]) ∧ w = w' := by
  have hl := h.ilen
  have hs := h.small
  have h0 : ¬ (i : Int) < 0 := by omega
  have h0' : (0 : Int) ≤ (i : Int) := by omega
  by_cases hi : i < n
  · have hin : (i : Int) < (n : Int) := by omega
    have hin' : ¬ (n : Int) ≤ (i : Int) := by omega
    obtain ⟨b, o, rfl, hb, hc⟩ := h.cell hi
    have x_0 := hc i hi
    obtain ⟨v, hv⟩ : ∃ v, v = tk ts i := ⟨_, rfl⟩
    rw [show ts.getD i 0 = v from hv.symm] at x_0
    rw [← hv]
    clear hc hv
    rw [decide_eq_true hi]
    clear h
    go_enter Try.func39, Try.ntmps39
    go_wp2
    go_ret2
    exact ⟨rfl, rfl⟩
  · have hin : ¬ (i : Int) < (n : Int) := by omega
    have hin' : (n : Int) ≤ (i : Int) := by omega
    rw [tk_of (by omega)]
    rw [decide_eq_false hi]
    clear h
    go_enter Try.func39, Try.ntmps39
    go_wp2
    go_ret2
    exact ⟨rfl, rfl⟩
set_option maxRecDepth 100000 in
theorem atB_any (A : Option Addr) (n c : Nat) (ts : List Bool) (i : Nat) (w : World) (h : Sl w 1 A n c (bv ts)) :
    Calls Try.prog 40 #[.slice A n c, .int .i64 (i : Int)] w fun e w' => e = .returned (.tuple #[.bool (isB ts i), .bool (decide (i < n))]) ∧ w = w' := by
  have hl := h.blen
  have hs := h.small
  have h0 : ¬ (i : Int) < 0 := by omega
  have h0' : (0 : Int) ≤ (i : Int) := by omega
  by_cases hi : i < n
  · have hin : (i : Int) < (n : Int) := by omega
    have hin' : ¬ (n : Int) ≤ (i : Int) := by omega
    obtain ⟨b, o, rfl, hb, x_0⟩ := h.bcell hi
    obtain ⟨v, hv⟩ : ∃ v, v = isB ts i := ⟨_, rfl⟩
    rw [show ts.getD i false = v from hv.symm] at x_0
    rw [← hv]
    clear hv
    rw [decide_eq_true hi]
    clear h
    go_enter Try.func40, Try.ntmps40
    go_wp2
    go_ret2
    exact ⟨rfl, rfl⟩
  · have hin : ¬ (i : Int) < (n : Int) := by omega
    have hin' : (n : Int) ≤ (i : Int) := by omega
    rw [isB_of (by omega)]
    rw [decide_eq_false hi]
    clear h
    go_enter Try.func40, Try.ntmps40
    go_wp2
    go_ret2
    exact ⟨rfl, rfl⟩
set_option maxRecDepth 100000 in
theorem rTok_any (A : Option Addr) (n c : Nat) (ts : List Int) (i : Nat) (w : World) (h : Sl w 1 A n c (iv .u64 ts)) :
    Calls Try.prog 48 #[.slice A n c, .int .i64 (i : Int)] w fun e w' => e = .returned (.int .u64 (tk ts i)) ∧ w = w' := by
  have hl := h.ilen
  have hs := h.small
  have h0 : ¬ (i : Int) < 0 := by omega
  have h0' : (0 : Int) ≤ (i : Int) := by omega
  by_cases hi : i < n
  · have hin : (i : Int) < (n : Int) := by omega
    have hin' : ¬ (n : Int) ≤ (i : Int) := by omega
    obtain ⟨b, o, rfl, hb, hc⟩ := h.cell hi
    have x_0 := hc i hi
    obtain ⟨v, hv⟩ : ∃ v, v = tk ts i := ⟨_, rfl⟩
    rw [show ts.getD i 0 = v from hv.symm] at x_0
    rw [← hv]
    clear hc hv
    clear h
    go_enter Try.func48, Try.ntmps48
    go_wp2
    go_ret
    exact ⟨rfl, rfl⟩
  · have hin : ¬ (i : Int) < (n : Int) := by omega
    have hin' : (n : Int) ≤ (i : Int) := by omega
    rw [tk_of (by omega)]
    clear h
    go_enter Try.func48, Try.ntmps48
    go_wp2
    go_ret
    exact ⟨rfl, rfl⟩
set_option maxRecDepth 100000 in
theorem rIs_any (A : Option Addr) (n c : Nat) (ts : List Bool) (i : Nat) (w : World) (h : Sl w 1 A n c (bv ts)) :
    Calls Try.prog 47 #[.slice A n c, .int .i64 (i : Int)] w fun e w' => e = .returned (.bool (isB ts i)) ∧ w = w' := by
  have hl := h.blen
  have hs := h.small
  have h0 : ¬ (i : Int) < 0 := by omega
  have h0' : (0 : Int) ≤ (i : Int) := by omega
  by_cases hi : i < n
  · have hin : (i : Int) < (n : Int) := by omega
    have hin' : ¬ (n : Int) ≤ (i : Int) := by omega
    obtain ⟨b, o, rfl, hb, x_0⟩ := h.bcell hi
    obtain ⟨v, hv⟩ : ∃ v, v = isB ts i := ⟨_, rfl⟩
    rw [show ts.getD i false = v from hv.symm] at x_0
    rw [← hv]
    clear hv
    clear h
    go_enter Try.func47, Try.ntmps47
    go_wp2
    go_ret
    exact ⟨rfl, rfl⟩
  · have hin : ¬ (i : Int) < (n : Int) := by omega
    have hin' : (n : Int) ≤ (i : Int) := by omega
    rw [isB_of (by omega)]
    clear h
    go_enter Try.func47, Try.ntmps47
    go_wp2
    go_ret
    exact ⟨rfl, rfl⟩
set_option maxRecDepth 100000 in
theorem lTok_any (A : Option Addr) (n c : Nat) (ts : List Int) (i : Nat) (w : World) (h : Sl w 1 A n c (iv .u64 ts)) :
    Calls Try.prog 31 #[.slice A n c, .int .i64 (i : Int)] w fun e w' => e = .returned (.int .u64 (tk ts i)) ∧ w = w' := by
  have hl := h.ilen
  have hs := h.small
  have h0 : ¬ (i : Int) < 0 := by omega
  have h0' : (0 : Int) ≤ (i : Int) := by omega
  by_cases hi : i < n
  · have hin : (i : Int) < (n : Int) := by omega
    have hin' : ¬ (n : Int) ≤ (i : Int) := by omega
    obtain ⟨b, o, rfl, hb, hc⟩ := h.cell hi
    have x_0 := hc i hi
    obtain ⟨v, hv⟩ : ∃ v, v = tk ts i := ⟨_, rfl⟩
    rw [show ts.getD i 0 = v from hv.symm] at x_0
    rw [← hv]
    clear hc hv
    clear h
    go_enter Try.func31, Try.ntmps31
    go_wp2
    go_ret
    exact ⟨rfl, rfl⟩
  · have hin : ¬ (i : Int) < (n : Int) := by omega
    have hin' : (n : Int) ≤ (i : Int) := by omega
    rw [tk_of (by omega)]
    clear h
    go_enter Try.func31, Try.ntmps31
    go_wp2
    go_ret
    exact ⟨rfl, rfl⟩
set_option maxRecDepth 100000 in
theorem lIs_any (A : Option Addr) (n c : Nat) (ts : List Bool) (i : Nat) (w : World) (h : Sl w 1 A n c (bv ts)) :
    Calls Try.prog 30 #[.slice A n c, .int .i64 (i : Int)] w fun e w' => e = .returned (.bool (isB ts i)) ∧ w = w' := by
  have hl := h.blen
  have hs := h.small
  have h0 : ¬ (i : Int) < 0 := by omega
  have h0' : (0 : Int) ≤ (i : Int) := by omega
  by_cases hi : i < n
  · have hin : (i : Int) < (n : Int) := by omega
    have hin' : ¬ (n : Int) ≤ (i : Int) := by omega
    obtain ⟨b, o, rfl, hb, x_0⟩ := h.bcell hi
    obtain ⟨v, hv⟩ : ∃ v, v = isB ts i := ⟨_, rfl⟩
    rw [show ts.getD i false = v from hv.symm] at x_0
    rw [← hv]
    clear hv
    clear h
    go_enter Try.func30, Try.ntmps30
    go_wp2
    go_ret
    exact ⟨rfl, rfl⟩
  · have hin : ¬ (i : Int) < (n : Int) := by omega
    have hin' : (n : Int) ≤ (i : Int) := by omega
    rw [isB_of (by omega)]
    clear h
    go_enter Try.func30, Try.ntmps30
    go_wp2
    go_ret
    exact ⟨rfl, rfl⟩
set_option maxRecDepth 100000 in
theorem allWB_any (A B : Option Addr) (n c m d K : Nat) (w : World) (hK : K = max n m) :
    Calls Try.prog 38 #[.slice A n c, .slice B m d] w fun e w' => e = .returned (.int .i64 (K : Int)) ∧ w = w' := by
  have hmax : ∀ ts t w, (Builtin.max_ ts t #[.int .i64 (n : Int), .int .i64 (m : Int)]).run Try.prog w = .ok (.int .i64 (K : Int)) w := by
    intro ts t w
    rw [run_max_int2, hK]
    congr 2
    split <;> omega
  clear hK
  go_enter Try.func38, Try.ntmps38
  go_wp2
  go_ret
  exact ⟨rfl, rfl⟩
set_option maxRecDepth 100000 in
theorem allBB_any (A B : Option Addr) (n c m d K : Nat) (w : World) (hK : K = max n m) :
    Calls Try.prog 46 #[.slice A n c, .slice B m d] w fun e w' => e = .returned (.int .i64 (K : Int)) ∧ w = w' := by
  have hmax : ∀ ts t w, (Builtin.max_ ts t #[.int .i64 (n : Int), .int .i64 (m : Int)]).run Try.prog w = .ok (.int .i64 (K : Int)) w := by
    intro ts t w
    rw [run_max_int2, hK]
    congr 2
    split <;> omega
  clear hK
  go_enter Try.func46, Try.ntmps46
  go_wp2
  go_ret
  exact ⟨rfl, rfl⟩
set_option maxRecDepth 100000 in
theorem rCounts_any (A B : Option Addr) (n c m d : Nat) (ts : List Int) (ms : List Bool) (i : Nat) (w : World) (h : Sl w 1 A n c (iv .u64 ts)) (k : Sl w 1 B m d (bv ms)) :
    Calls Try.prog 44 #[.slice A n c, .slice B m d, .int .i64 (i : Int)] w fun e w' => e = .returned (.bool (cnt ts ms i)) ∧ w = w' := by
  have H1 := Lib.hid (rTok_any A n c ts i w h)
  have H2 := Lib.hid (rIs_any B m d ms i w k)
  clear h k
  unfold cnt
  obtain ⟨t, ht⟩ : ∃ t, t = tk ts i := ⟨_, rfl⟩
  obtain ⟨b, hb⟩ : ∃ b, b = isB ms i := ⟨_, rfl⟩
  rw [← ht] at H1 ⊢
  rw [← hb] at H2 ⊢
  clear ht hb
  cases b
  · go_enter Try.func44, Try.ntmps44
    go_wp2_with fail
    refine H2.out.mono ?_
    rintro e w2 ⟨rfl, rfl⟩
    go_wp2
    go_ret
    exact ⟨rfl, rfl⟩
  · go_enter Try.func44, Try.ntmps44
    go_wp2_with fail
    refine H2.out.mono ?_
    rintro e w2 ⟨rfl, rfl⟩
    go_wp2_with fail
    refine H1.out.mono ?_
    rintro e w2 ⟨rfl, rfl⟩
    go_wp2
    go_ret
    exact ⟨by simp, rfl⟩
end Go.Proofs.Ytplmgcbjfmdebaa
