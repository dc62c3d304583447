/- stamp's Put and Bytes: a stamp's bytes. Conditions stand in each lemma. -/
import Derived.Test.YtnbeejgppooamaaStampC
set_option linter.unusedVariables false
set_option linter.unusedSimpArgs false
namespace Go.Proofs.Ytnbeejgppooamaa
open Go.RowKit

/-- the bytes of numbers, one behind the other -/
def putsL (l : List Int) : List Nat := l.flatMap fun n => putL n.toNat
theorem putsL_take {l : List Int} {k : Nat} {x : Int} (h : l[k]? = some x) : putsL (l.take (k + 1)) = putsL (l.take k) ++ putL x.toNat := by
  obtain ⟨hk, rfl⟩ := List.getElem?_eq_some_iff.1 h
  unfold putsL
  rw [List.take_succ_eq_append_getElem hk, List.flatMap_append]
  simp
theorem putsL_len (l : List Int) (h : ∀ x ∈ l, x < 9223372036854775808) : (putsL l).length ≤ 10 * l.length := by
  induction l with
  | nil => simp [putsL]
  | cons x l ih =>
    have h1 := ih fun y hy => h y (List.mem_cons_of_mem _ hy)
    have h2 := putL_len x.toNat 9 (by have := h x (List.mem_cons_self ..); omega)
    unfold putsL at *
    rw [List.flatMap_cons, List.length_append, List.length_cons]
    omega
theorem outB_no {n lo hi : Int} (h : outB n lo hi = false) : lo ≤ n ∧ n ≤ hi := by
  unfold outB at h
  simp at h
  omega
/-- a stamp that may be -/
structure StampOk (V S P F : Int) : Prop where
  v0 : 0 ≤ V
  v1 : V ≤ 31
  s0 : 1 ≤ S
  s1 : S ≤ 4294967296
  p0 : -1 ≤ P
  p1 : P ≤ 31
  f0 : 0 ≤ F
  f1 : F ≤ 4294967296
  ne : P ≠ V
  pf : (P = -1 ↔ F = 0)
  fs : F ≤ S
theorem chkS_ok {V S P F : Int} (h : chkS V S P F = 0) : StampOk V S P F := by
  cases h1 : outB V 0 31 <;> cases h2 : outB S 1 4294967296 <;> cases h3 : outB P (-1) 31 <;> cases h4 : outB F 0 4294967296 <;> (try (exfalso; unfold chkS at h; simp [h1, h2, h3, h4, firstR] at h; done))
  have a1 := outB_no h1
  have a2 := outB_no h2
  have a3 := outB_no h3
  have a4 := outB_no h4
  have e : chkS V S P F = if (P == V) = true then 2 else if (!((P == -1) == (F == 0))) = true then 11 else if decide (S < F) = true then 9 else 0 := by
    unfold chkS
    rw [h1, h2, h3, h4]
    rfl
  rw [e] at h
  split at h
  · omega
  · rename_i b1
    split at h
    · omega
    · rename_i b2
      split at h
      · omega
      · rename_i b3
        simp at b1 b2 b3
        refine ⟨a1.1, a1.2, a2.1, a2.2, a3.1, a3.2, a4.1, a4.2, b1, ?_, by omega⟩
        rw [Bool.eq_iff_iff] at b2
        simpa using b2
theorem chkS_of {V S P F : Int} (h : StampOk V S P F) : chkS V S P F = 0 := by
  obtain ⟨a1, a2, a3, a4, a5, a6, a7, a8, a9, a10, a11⟩ := h
  have o1 : outB V 0 31 = false := by unfold outB; simp; omega
  have o2 : outB S 1 4294967296 = false := by unfold outB; simp; omega
  have o3 : outB P (-1) 31 = false := by unfold outB; simp; omega
  have o4 : outB F 0 4294967296 = false := by unfold outB; simp; omega
  unfold chkS
  rw [o1, o2, o3, o4]
  have q1 : (P == V) = false := beq_false_of_ne a9
  have q2 : (P == -1) = (F == 0) := by
    rw [Bool.eq_iff_iff]; simp; exact a10
  have q3 : decide (S < F) = false := decide_eq_false (by omega)
  rw [q1, q2, q3]
  simp [firstR]
theorem Ext.trans_below {a b c : World} {g : Nat} (h : Ext a b) (k : Below g b c) (hg : a.heap.size ≤ g) : Ext a c := Below.trans h (k.mono hg)
def stL (V S P F : Int) : List Int := [V, S, P + 1, F]
set_option maxRecDepth 100000 in
set_option maxHeartbeats 2000000 in
theorem tPut_ok (g : Nat) (V S P F : Int) (hk : StampOk V S P F) (w : World) (h : Wr w g 4096 0 []) :
    Calls Try.prog 60 #[.pointer (some ⟨g, 0, none⟩), .agg #[.int .i64 V, .int .i64 S, .int .i64 P, .int .i64 F]] w fun r w' => r = .returned (.int .i64 0) ∧ Wr w' g 4096 0 (putsL (stL V S P F)) ∧ Below g w w' := by
  have CK := Lib.hid (fun w => tCheck_any V S P F w)
  rw [chkS_of hk] at CK
  have lt := Lib.hid h.lt
  have HK := Lib.hid hk
  have hP0 := hk.p0
  have hP1 := hk.p1
  have H := Lib.hid (h.keep (w' := w.alloc (.cells #[.int .i64 V, .int .i64 S, .int .i64 P, .int .i64 F] 24)) ((Below.refl _ w).alloc (Nat.le_refl _) _))
  clear h hk
  have i0 : ∀ w : World, (Instr.index 114 (.agg #[.int .i64 V, .int .i64 S, .int .i64 (P + 1), .int .i64 F]) (.int .i64 0)).run Try.prog w = .ok (.int .i64 V) w := fun _ => by kernel_rfl
  have i1 : ∀ w : World, (Instr.index 114 (.agg #[.int .i64 V, .int .i64 S, .int .i64 (P + 1), .int .i64 F]) (.int .i64 1)).run Try.prog w = .ok (.int .i64 S) w := fun _ => by kernel_rfl
  have i2 : ∀ w : World, (Instr.index 114 (.agg #[.int .i64 V, .int .i64 S, .int .i64 (P + 1), .int .i64 F]) (.int .i64 2)).run Try.prog w = .ok (.int .i64 (P + 1)) w := fun _ => by kernel_rfl
  have i3 : ∀ w : World, (Instr.index 114 (.agg #[.int .i64 V, .int .i64 S, .int .i64 (P + 1), .int .i64 F]) (.int .i64 3)).run Try.prog w = .ok (.int .i64 F) w := fun _ => by kernel_rfl
  go_enter Try.func60, Try.ntmps60
  go_wp2_with fail
  refine (cDone_any g 4096 0 [] _ H.out).mono ?_
  rintro r w1 ⟨v, rfl, _, hx1⟩
  have H1 := Lib.hid (H.out.keep hx1)
  have hz1 := hx1.size
  simp at hz1
  have d0 : w1.cell? ⟨w.heap.size, 0, none⟩ = some (.int .i64 V) := hx1.has (by simp [go_sem])
  have d1 : w1.cell? ⟨w.heap.size, 1, none⟩ = some (.int .i64 S) := hx1.has (by simp [go_sem])
  have d2 : w1.cell? ⟨w.heap.size, 2, none⟩ = some (.int .i64 P) := hx1.has (by simp [go_sem])
  have d3 : w1.cell? ⟨w.heap.size, 3, none⟩ = some (.int .i64 F) := hx1.has (by simp [go_sem])
  have X1 := Lib.hid (show Ext w w1 from Ext.trans ((Ext.refl w).alloc _) hx1)
  clear hx1 H
  go_wp2_with fail
  refine (CK.out _).mono ?_
  rintro r w2 ⟨rfl, hx2⟩
  have H2 := Lib.hid (H1.out.keep hx2)
  replace d0 := hx2.has d0
  replace d1 := hx2.has d1
  replace d2 := hx2.has d2
  replace d3 := hx2.has d3
  have X2 := Lib.hid (X1.out.trans hx2)
  clear hx2 H1 X1 CK
  go_wp2_with fail
  go_loopg [34] 4 (fun gh i wx => gh ≤ 4 ∧ i = .int .i64 ((4 - gh : Nat) : Int) ∧ Wr wx g 4096 0 (putsL ((stL V S P F).take (4 - gh))) ∧ Below g w wx)
  case atStart => exact ⟨Nat.le_refl _, by simp, H2.out, X2.out.mono (by have := lt.out; omega)⟩
  case round =>
    obtain ⟨hg, hi, hw, hb⟩ := hrel
    have HB := Lib.hid hb
    have HW := Lib.hid hw
    clear hw hb
    have step : ∀ (k : Nat) (x : Int), (stL V S P F)[k]? = some x → k < 4 → 4 - gk = k → 0 ≤ x → x ≤ 4294967296 → Hid (Calls Try.prog 59 #[.pointer (some ⟨g, 0, none⟩), .int .i64 x] wr fun r w' => r = .returned (.int .i64 0) ∧ Wr w' g 4096 0 (putsL ((stL V S P F).take (k + 1))) ∧ Below g wr w') := by
      intro k x hx hk4 hgk x0 x1
      have hW := HW.out
      rw [hgk] at hW
      have C := cWN_any g 4096 0 _ x (by omega) (by omega) wr hW
      have hlen : (putsL ((stL V S P F).take k)).length ≤ 40 := by
        refine Nat.le_trans (putsL_len _ ?_) ?_
        · intro y hy
          have hy2 := List.mem_of_mem_take hy
          have := HK.out.v1; have := HK.out.s1; have := HK.out.p1; have := HK.out.f1
          unfold stL at hy2
          simp at hy2
          omega
        · simp [stL]; omega
      have hpl := putL_len x.toNat 9 (by omega)
      have e0 : wAddE 4096 0 (putsL ((stL V S P F).take k)) (putL x.toNat) = 0 := by
        unfold wAddE
        rw [if_pos rfl, if_neg (by omega)]
      have e1 : wNE 4096 0 (putsL ((stL V S P F).take k)) x = 0 := by
        unfold wNE
        rw [if_pos rfl, if_neg (by omega), e0]
      have e2 : wNL 4096 0 (putsL ((stL V S P F).take k)) x = putsL ((stL V S P F).take (k + 1)) := by
        unfold wNL wAddL
        rw [if_pos rfl, if_neg (by omega), if_pos e0, putsL_take hx]
      rw [e1, e2] at C
      exact C
    have hv := HK.out.v0; have hv1 := HK.out.v1; have hs0 := HK.out.s0; have hs1 := HK.out.s1; have hf0 := HK.out.f0; have hf1 := HK.out.f1
    have hcase : gk = 0 ∨ gk = 4 ∨ gk = 3 ∨ gk = 2 ∨ gk = 1 := by omega
    rcases hcase with rfl | rfl | rfl | rfl | rfl
    · change _ = Value.int .i64 4 at hi
      obtain rfl := hi
      clear step
      go_wp2
      go_ret
      exact ⟨rfl, HW.out, HB.out⟩
    · change _ = Value.int .i64 0 at hi
      obtain rfl := hi
      have C := step 0 V rfl (by decide) rfl (by omega) (by omega)
      clear step hv hv1 hs0 hs1 hf0 hf1
      go_wp2_with fail
      refine C.out.mono ?_
      rintro r w3 ⟨rfl, hw3, hb3⟩
      have W3 := Lib.hid (And.intro hw3 (HB.out.trans hb3))
      clear hw3 hb3 C
      go_wp2_with fail
      go_roundg 3
      case measure => decide
      case rel => exact ⟨by decide, rfl, W3.out.1, W3.out.2⟩
    · change _ = Value.int .i64 1 at hi
      obtain rfl := hi
      have C := step 1 S rfl (by decide) rfl (by omega) (by omega)
      clear step hv hv1 hs0 hs1 hf0 hf1
      go_wp2_with fail
      refine C.out.mono ?_
      rintro r w3 ⟨rfl, hw3, hb3⟩
      have W3 := Lib.hid (And.intro hw3 (HB.out.trans hb3))
      clear hw3 hb3 C
      go_wp2_with fail
      go_roundg 2
      case measure => decide
      case rel => exact ⟨by decide, rfl, W3.out.1, W3.out.2⟩
    · change _ = Value.int .i64 2 at hi
      obtain rfl := hi
      have C := step 2 (P + 1) rfl (by decide) rfl (by omega) (by omega)
      clear step hv hv1 hs0 hs1 hf0 hf1
      go_wp2_with fail
      refine C.out.mono ?_
      rintro r w3 ⟨rfl, hw3, hb3⟩
      have W3 := Lib.hid (And.intro hw3 (HB.out.trans hb3))
      clear hw3 hb3 C
      go_wp2_with fail
      go_roundg 1
      case measure => decide
      case rel => exact ⟨by decide, rfl, W3.out.1, W3.out.2⟩
    · change _ = Value.int .i64 3 at hi
      obtain rfl := hi
      have C := step 3 F rfl (by decide) rfl (by omega) (by omega)
      clear step hv hv1 hs0 hs1 hf0 hf1
      go_wp2_with fail
      refine C.out.mono ?_
      rintro r w3 ⟨rfl, hw3, hb3⟩
      have W3 := Lib.hid (And.intro hw3 (HB.out.trans hb3))
      clear hw3 hb3 C
      go_wp2_with fail
      go_roundg 0
      case measure => decide
      case rel => exact ⟨by decide, rfl, W3.out.1, W3.out.2⟩
theorem tPut_bad (g : Nat) (V S P F E : Int) (hE : chkS V S P F = E) (he : ¬ E = 0) (w : World) (h : Wr w g 4096 0 []) :
    Calls Try.prog 60 #[.pointer (some ⟨g, 0, none⟩), .agg #[.int .i64 V, .int .i64 S, .int .i64 P, .int .i64 F]] w fun r w' => r = .returned (.int .i64 E) ∧ Wr w' g 4096 0 [] ∧ Ext w w' := by
  have CK := fun w => tCheck_any V S P F w
  rw [hE] at CK
  replace CK := Lib.hid CK
  have hef : (E == 0) = false := beq_false_of_ne he
  have H := Lib.hid (h.keep (w' := w.alloc (.cells #[.int .i64 V, .int .i64 S, .int .i64 P, .int .i64 F] 24)) ((Below.refl _ w).alloc (Nat.le_refl _) _))
  clear h he hE
  go_enter Try.func60, Try.ntmps60
  go_wp2_with fail
  refine (cDone_any g 4096 0 [] _ H.out).mono ?_
  rintro r w1 ⟨v, rfl, _, hx1⟩
  have H1 := Lib.hid (H.out.keep hx1)
  have d0 : w1.cell? ⟨w.heap.size, 0, none⟩ = some (.int .i64 V) := hx1.has (by simp [go_sem])
  have d1 : w1.cell? ⟨w.heap.size, 1, none⟩ = some (.int .i64 S) := hx1.has (by simp [go_sem])
  have d2 : w1.cell? ⟨w.heap.size, 2, none⟩ = some (.int .i64 P) := hx1.has (by simp [go_sem])
  have d3 : w1.cell? ⟨w.heap.size, 3, none⟩ = some (.int .i64 F) := hx1.has (by simp [go_sem])
  have X1 := Lib.hid (show Ext w w1 from Ext.trans ((Ext.refl w).alloc _) hx1)
  clear hx1 H
  go_wp2_with fail
  refine (CK.out _).mono ?_
  rintro r w2 ⟨rfl, hx2⟩
  have H2 := Lib.hid (H1.out.keep hx2)
  have X2 := Lib.hid (X1.out.trans hx2)
  clear hx2 H1 X1 CK
  go_wp2_with fail
  go_ret
  exact ⟨rfl, H2.out, X2.out⟩
/-- what Bytes answers -/
def stB (V S P F : Int) : List Nat := if chkS V S P F = 0 then putsL (stL V S P F) else []
end Go.Proofs.Ytnbeejgppooamaa
