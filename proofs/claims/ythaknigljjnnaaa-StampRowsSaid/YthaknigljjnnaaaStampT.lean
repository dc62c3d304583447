/- stamp's Take and Read: which stamp bytes are. Conditions stand in each lemma. -/
import Derived.Test.YthaknigljjnnaaaStampB
set_option linter.unusedVariables false
set_option linter.unusedSimpArgs false
namespace Go.Proofs.Ythaknigljjnnaaa
open Go.RowKit

theorem heap_set_type {w : World} {p : Addr} {v : Value} {cs : Array Value} {t : TypeId} {z : Nat × Nat} (h : w.heap[p.block]? = some (.cells cs t z)) : ∃ cs', (w.setCell p v).heap[p.block]? = some (.cells cs' t z) := by
  simp only [World.setCell, Array.getElem?_modify, if_pos, h, Option.map_some]
  exact ⟨_, rfl⟩
theorem But.setNew {S : Nat → Prop} {a b : World} (h : But S a b) {p : Addr} (hp : a.heap.size ≤ p.block) (u : Value) : But S a (b.setCell p u) :=
  ⟨h.os, h.tape, h.output, by have := h.size; simpa using this, fun k hk hs => (Below.heap_setCell _ _ _ _ (by omega)).trans (h.block k hk hs)⟩
theorem Rd.set4 {w : World} {g k : Nat} {L : List Nat} {flt : Option (Int × Int)} (h : Rd w g L k flt) {b : Nat} {v0 v1 v2 v3 : Value} (hg : g < b) (ht : ∃ cs t z, w.heap[b]? = some (.cells cs t z) ∧ t ≠ 47) :
    Rd ((((w.setCell ⟨b, 0, none⟩ v0).setCell ⟨b, 1, none⟩ v1).setCell ⟨b, 2, none⟩ v2).setCell ⟨b, 3, none⟩ v3) g L k flt := by
  have step : ∀ (w : World) (o : Nat) (v : Value), (∃ cs t z, w.heap[b]? = some (.cells cs t z) ∧ t ≠ 47) → ∃ cs t z, (w.setCell ⟨b, o, none⟩ v).heap[b]? = some (.cells cs t z) ∧ t ≠ 47 := by
    rintro w o v ⟨cs, t, z, h1, h2⟩
    obtain ⟨cs', h3⟩ := heap_set_type (p := ⟨b, o, none⟩) (v := v) h1
    exact ⟨cs', t, z, h3, h2⟩
  have t1 := step w 0 v0 ht
  have t2 := step _ 1 v1 t1
  have t3 := step _ 2 v2 t2
  exact (((h.setOther hg ht).setOther hg t1).setOther hg t2).setOther hg t3
theorem But.mono2 {g b : Nat} {w w' : World} (h : But (fun k => k = g ∨ k = b) w w') (hb : w.heap.size ≤ b) : But (· = g) w w' := h.mono fun k hk hs => by rcases hs with rfl | rfl; rfl; omega
/-- does a reader have a fault that ends a Take? -/
def fltB (flt : Option (Int × Int)) (k n : Nat) : Bool := leftF flt k n == 0 && (endF flt k n).1 != 0
set_option maxRecDepth 100000 in
theorem tfaulty_any (g k : Nat) (L : List Nat) (flt : Option (Int × Int)) (w : World) (h : Rd w g L k flt) (hL : L.length < 1099511627776) :
    Calls Try.prog 74 #[.pointer (some ⟨g, 0, none⟩)] w fun r w' => r = .returned (.bool (fltB flt k L.length)) ∧ Ext w w' := by
  have C1 := Lib.hid (cLeft_any g k L flt w h hL)
  have H := Lib.hid h
  have HL := Lib.hid hL
  unfold fltB
  obtain ⟨l, hl⟩ : ∃ l, leftF flt k L.length = l := ⟨_, rfl⟩
  obtain ⟨e, he⟩ : ∃ e, (endF flt k L.length).1 = e := ⟨_, rfl⟩
  have C2 := Lib.hid (fun w h => cEnd_any g k L flt w h hL)
  rw [hl] at C1
  rw [he] at C2
  rw [hl, he]
  generalize (endF flt k L.length).2 = e2 at C2
  clear h hL hl he
  have hfd : ∀ w : World, (Instr.field 47 (.agg #[.int .i64 e, .int .i64 e2]) 0).run Try.prog w = .ok (.int .i64 e) w := fun _ => by kernel_rfl
  obtain ⟨p, hp⟩ : ∃ p, (l == 0) = p := ⟨_, rfl⟩
  rw [hp]
  cases p
  · go_enter Try.func74, Try.ntmps74
    go_wp2_with fail
    refine C1.out.mono ?_
    rintro r w1 ⟨rfl, hx1⟩
    have X1 := Lib.hid hx1
    clear hx1
    go_wp2_with fail
    go_ret
    exact ⟨rfl, X1.out⟩
  · go_enter Try.func74, Try.ntmps74
    go_wp2_with fail
    refine C1.out.mono ?_
    rintro r w1 ⟨rfl, hx1⟩
    have X1 := Lib.hid hx1
    have H1 := Lib.hid (H.out.keep hx1)
    clear hx1 H C1
    go_wp2_with fail
    refine (C2.out _ H1.out).mono ?_
    rintro r w2 ⟨rfl, hx2⟩
    have X2 := Lib.hid (X1.out.trans hx2)
    clear hx2 X1 H1 C2
    go_wp2_with fail
    go_ret
    exact ⟨by simp [bne], X2.out⟩
theorem rnV_bound (L : List Nat) (k : Nat) (flt : Option (Int × Int)) (least most : Int) (h2 : 0 ≤ most) : 0 ≤ rnV L k flt least most ∧ rnV L k flt least most ≤ most := by
  unfold rnV
  split
  · rename_i h
    obtain ⟨_, h1⟩ := rnE_zero h.2
    exact ⟨by omega, h1⟩
  · exact ⟨Int.le_refl _, h2⟩
set_option maxRecDepth 100000 in
set_option maxHeartbeats 2000000 in
theorem tTake_at (g k k1 k2 k3 k4 : Nat) (L : List Nat) (f f1 f2 f3 f4 f5 : Option (Int × Int)) (at_ V S Q F E : Int) (b b2 : Bool) (q0 : 0 ≤ Q) (q1 : Q ≤ 32)
    (CA : Hid (∀ w, Rd w g L k f → Calls Try.prog 25 #[.pointer (some ⟨g, 0, none⟩)] w fun r w' => r = .returned (.int .i64 at_) ∧ w = w'))
    (C1 : Hid (∀ w, Rd w g L k f → Calls Try.prog 73 #[.pointer (some ⟨g, 0, none⟩), .int .i64 0, .int .i64 31] w (RdP g L w V k1 f1)))
    (C2 : Hid (∀ w, Rd w g L k1 f1 → Calls Try.prog 73 #[.pointer (some ⟨g, 0, none⟩), .int .i64 1, .int .i64 4294967296] w (RdP g L w S k2 f2)))
    (C3 : Hid (∀ w, Rd w g L k2 f2 → Calls Try.prog 73 #[.pointer (some ⟨g, 0, none⟩), .int .i64 0, .int .i64 32] w (RdP g L w Q k3 f3)))
    (C4 : Hid (∀ w, Rd w g L k3 f3 → Calls Try.prog 73 #[.pointer (some ⟨g, 0, none⟩), .int .i64 0, .int .i64 4294967296] w (RdP g L w F k4 f4)))
    (C5 : Hid (∀ w, Rd w g L k4 f4 → Calls Try.prog 74 #[.pointer (some ⟨g, 0, none⟩)] w fun r w' => r = .returned (.bool b) ∧ Ext w w'))
    (CK : Hid (∀ w, Calls Try.prog 64 #[.agg #[.int .i64 V, .int .i64 S, .int .i64 (Q - 1), .int .i64 F]] w fun r w' => r = .returned (.int .i64 E) ∧ Ext w w'))
    (C6 : Hid (∀ w, Rd w g L k4 f4 → Calls Try.prog 75 #[.pointer (some ⟨g, 0, none⟩), .int .i64 E, .int .i64 at_] w fun r w' => (∃ v, r = .returned v) ∧ Rd w' g L k4 (failF f4 E at_) ∧ But (· = g) w w'))
    (h5 : (if b = true then f4 else failF f4 E at_) = f5)
    (C7 : Hid (∀ w, Rd w g L k4 f5 → Calls Try.prog 74 #[.pointer (some ⟨g, 0, none⟩)] w fun r w' => r = .returned (.bool b2) ∧ Ext w w'))
    (w : World) (h : Rd w g L k f) :
    Calls Try.prog 23 #[.pointer (some ⟨g, 0, none⟩)] w fun r w' => r = .returned (.agg #[.int .i64 (if b2 = true then 0 else V), .int .i64 (if b2 = true then 0 else S), .int .i64 (if b2 = true then 0 else Q - 1), .int .i64 (if b2 = true then 0 else F)]) ∧ Rd w' g L k4 f5 ∧ But (· = g) w w' := by
  have lt := h.lt
  have H := Lib.hid (h.keep (w' := w.alloc (.cells #[.int .i64 0, .int .i64 0, .int .i64 0, .int .i64 0] 34)) ((Below.refl _ w).alloc (Nat.le_refl _) _))
  clear h
  have hP : -1 ≤ Q - 1 := by omega
  go_enter Try.func23, Try.ntmps23
  go_wp2_with fail
  refine (CA.out _ H.out).mono ?_
  rintro r w0 ⟨rfl, rfl⟩
  go_wp2_with fail
  refine (C1.out _ H.out).mono ?_
  rintro r w1 ⟨rfl, hr1, hb1⟩
  have hng : ¬ w.heap.size = g := by omega
  have d0 : w1.cell? ⟨w.heap.size, 0, none⟩ = some (.int .i64 0) := hb1.has hng (by simp [go_sem])
  have e0 : w1.frozen? ⟨w.heap.size, 0, none⟩ = false := hb1.froz hng (v := .int .i64 0) (by simp [go_sem]) (by simp [go_sem])
  have d1 : w1.cell? ⟨w.heap.size, 1, none⟩ = some (.int .i64 0) := hb1.has hng (by simp [go_sem])
  have e1 : w1.frozen? ⟨w.heap.size, 1, none⟩ = false := hb1.froz hng (v := .int .i64 0) (by simp [go_sem]) (by simp [go_sem])
  have d2 : w1.cell? ⟨w.heap.size, 2, none⟩ = some (.int .i64 0) := hb1.has hng (by simp [go_sem])
  have e2 : w1.frozen? ⟨w.heap.size, 2, none⟩ = false := hb1.froz hng (v := .int .i64 0) (by simp [go_sem]) (by simp [go_sem])
  have d3 : w1.cell? ⟨w.heap.size, 3, none⟩ = some (.int .i64 0) := hb1.has hng (by simp [go_sem])
  have e3 : w1.frozen? ⟨w.heap.size, 3, none⟩ = false := hb1.froz hng (v := .int .i64 0) (by simp [go_sem]) (by simp [go_sem])
  have z1 := hb1.size
  simp at z1
  have X1 := Lib.hid (show But (· = g) (w.alloc (.cells #[.int .i64 0, .int .i64 0, .int .i64 0, .int .i64 0] 34)) w1 from hb1)
  have H1 := Lib.hid hr1
  clear hr1 hb1 H C1 CA
  go_wp2_with fail
  refine (C2.out _ H1.out).mono ?_
  rintro r w2 ⟨rfl, hr2, hb2⟩
  replace e0 := hb2.froz hng d0 e0
  replace d0 := hb2.has hng d0
  replace e1 := hb2.froz hng d1 e1
  replace d1 := hb2.has hng d1
  replace e2 := hb2.froz hng d2 e2
  replace d2 := hb2.has hng d2
  replace e3 := hb2.froz hng d3 e3
  replace d3 := hb2.has hng d3
  have z2 := hb2.size
  have X2 := Lib.hid (X1.out.trans hb2)
  have r0 : w.heap.size < w2.heap.size := by omega
  have r01 : w.heap.size < w2.heap.size := r0
  have r00 : w.heap.size ≤ w2.heap.size ∧ g < w2.heap.size := ⟨by omega, by omega⟩
  have hng2 : ¬ w2.heap.size = g := by omega
  have H2 := Lib.hid (hr2.keep ((Below.refl _ w2).alloc (Nat.le_refl _) (.cells #[.int .i64 V, .int .i64 S, .int .i64 0, .int .i64 0] 34)))
  clear hr2 hb2 H1 X1 C2 z1 z2
  go_wp2_with fail
  refine (C3.out _ H2.out).mono ?_
  rintro r w3 ⟨rfl, hr3, hb3⟩
  have z3 := hb3.size
  simp at z3
  have hxx := (But.ofExt (S := (· = g)) ((Ext.refl w2).alloc (.cells #[.int .i64 V, .int .i64 S, .int .i64 0, .int .i64 0] 34))).trans hb3
  replace e0 := hxx.froz hng d0 e0
  replace d0 := hxx.has hng d0
  replace e1 := hxx.froz hng d1 e1
  replace d1 := hxx.has hng d1
  replace e2 := hxx.froz hng d2 e2
  replace d2 := hxx.has hng d2
  replace e3 := hxx.froz hng d3 e3
  replace d3 := hxx.has hng d3
  have s0 : w3.cell? ⟨w2.heap.size, 0, none⟩ = some (.int .i64 V) := hb3.has hng2 (by simp [go_sem])
  have t0 : w3.frozen? ⟨w2.heap.size, 0, none⟩ = false := hb3.froz hng2 (v := .int .i64 V) (by simp [go_sem]) (by simp [go_sem])
  have s1 : w3.cell? ⟨w2.heap.size, 1, none⟩ = some (.int .i64 S) := hb3.has hng2 (by simp [go_sem])
  have t1 : w3.frozen? ⟨w2.heap.size, 1, none⟩ = false := hb3.froz hng2 (v := .int .i64 S) (by simp [go_sem]) (by simp [go_sem])
  have s2 : w3.cell? ⟨w2.heap.size, 2, none⟩ = some (.int .i64 0) := hb3.has hng2 (by simp [go_sem])
  have t2 : w3.frozen? ⟨w2.heap.size, 2, none⟩ = false := hb3.froz hng2 (v := .int .i64 0) (by simp [go_sem]) (by simp [go_sem])
  have s3 : w3.cell? ⟨w2.heap.size, 3, none⟩ = some (.int .i64 0) := hb3.has hng2 (by simp [go_sem])
  have t3 : w3.frozen? ⟨w2.heap.size, 3, none⟩ = false := hb3.froz hng2 (v := .int .i64 0) (by simp [go_sem]) (by simp [go_sem])
  have HT : ∃ cs t z, w3.heap[w2.heap.size]? = some (.cells cs t z) ∧ t ≠ 47 := ⟨_, _, _, (hb3.block w2.heap.size (by simp) hng2).trans (World.alloc_heap_new w2 (.cells #[.int .i64 V, .int .i64 S, .int .i64 0, .int .i64 0] 34)), by decide⟩
  have X3 := Lib.hid (X2.out.trans hxx)
  have r1 : w.heap.size < w3.heap.size := by omega
  have r2 : w2.heap.size < w3.heap.size := by omega
  have n1 : ¬ w2.heap.size = w.heap.size := by omega
  have n2 : ¬ w.heap.size = w2.heap.size := by omega
  have H3 := Lib.hid ((hr3.setOther (b := w2.heap.size) (o := 2) (v := .int .i64 (Q - 1)) (by omega) HT))
  clear hr3 hb3 H2 X2 C3 hxx z3 r0
  go_wp2_with fail
  refine (C4.out _ H3.out).mono ?_
  rintro r w4 ⟨rfl, hr4, hb4⟩
  have hxx : But (fun k => k = g ∨ k = w2.heap.size) w3 w4 := ((But.refl (fun k => k = g ∨ k = w2.heap.size) w3).setCell (p := ⟨w2.heap.size, 2, none⟩) (.inr rfl) (.int .i64 (Q - 1))).trans (hb4.mono (fun k _ hk => .inl hk))
  have hng3 : ¬ (w.heap.size = g ∨ w.heap.size = w2.heap.size) := by omega
  replace e0 := hxx.froz hng3 d0 e0
  replace d0 := hxx.has hng3 d0
  replace e1 := hxx.froz hng3 d1 e1
  replace d1 := hxx.has hng3 d1
  replace e2 := hxx.froz hng3 d2 e2
  replace d2 := hxx.has hng3 d2
  replace e3 := hxx.froz hng3 d3 e3
  replace d3 := hxx.has hng3 d3
  have t0' : w4.frozen? ⟨w2.heap.size, 0, none⟩ = false := hb4.froz hng2 (v := .int .i64 V) (by simp [go_sem, s0, s1, s2, s3, t0, t1, t2, t3]) (by simp [go_sem, s0, s1, s2, s3, t0, t1, t2, t3])
  have t1' : w4.frozen? ⟨w2.heap.size, 1, none⟩ = false := hb4.froz hng2 (v := .int .i64 S) (by simp [go_sem, s0, s1, s2, s3, t0, t1, t2, t3]) (by simp [go_sem, s0, s1, s2, s3, t0, t1, t2, t3])
  have t2' : w4.frozen? ⟨w2.heap.size, 2, none⟩ = false := hb4.froz hng2 (v := .int .i64 (Q - 1)) (by simp [go_sem, s0, s1, s2, s3, t0, t1, t2, t3]) (by simp [go_sem, s0, s1, s2, s3, t0, t1, t2, t3])
  have t3' : w4.frozen? ⟨w2.heap.size, 3, none⟩ = false := hb4.froz hng2 (v := .int .i64 0) (by simp [go_sem, s0, s1, s2, s3, t0, t1, t2, t3]) (by simp [go_sem, s0, s1, s2, s3, t0, t1, t2, t3])
  have s0' : w4.cell? ⟨w2.heap.size, 0, none⟩ = some (.int .i64 V) := hb4.has hng2 (by simp [go_sem, s0, s1, s2, s3, t0, t1, t2, t3])
  have s1' : w4.cell? ⟨w2.heap.size, 1, none⟩ = some (.int .i64 S) := hb4.has hng2 (by simp [go_sem, s0, s1, s2, s3, t0, t1, t2, t3])
  have s2' : w4.cell? ⟨w2.heap.size, 2, none⟩ = some (.int .i64 (Q - 1)) := hb4.has hng2 (by simp [go_sem, s0, s1, s2, s3, t0, t1, t2, t3])
  have s3' : w4.cell? ⟨w2.heap.size, 3, none⟩ = some (.int .i64 0) := hb4.has hng2 (by simp [go_sem, s0, s1, s2, s3, t0, t1, t2, t3])
  clear s0 s1 s2 s3 t0 t1 t2 t3
  have s0 := s0'
  have t0 := t0'
  have s1 := s1'
  have t1 := t1'
  have s2 := s2'
  have t2 := t2'
  have s3 := s3'
  have t3 := t3'
  clear s0' s1' s2' s3' t0' t1' t2' t3'
  have HT4 : ∃ cs t z, w4.heap[w2.heap.size]? = some (.cells cs t z) ∧ t ≠ 47 := by
    obtain ⟨cs, t, z, k1, k2⟩ := HT
    have k3 := heap_set_type (w := w3) (p := ⟨w2.heap.size, 2, none⟩) (v := .int .i64 (Q - 1)) k1
    obtain ⟨cs', k3⟩ := k3
    exact ⟨cs', t, z, (hb4.block w2.heap.size (by simpa using r2) hng2).trans k3, k2⟩
  have z4 := hb4.size
  simp at z4
  have X4 := Lib.hid (show But (fun k => k = g ∨ k = w2.heap.size) (w.alloc (.cells #[.int .i64 0, .int .i64 0, .int .i64 0, .int .i64 0] 34)) w4 from (X3.out.mono (fun k _ hk => .inl hk)).trans hxx)
  replace r1 : w.heap.size < w4.heap.size := by omega
  replace r2 : w2.heap.size < w4.heap.size := by omega
  have H4 := Lib.hid (hr4.setOther (b := w2.heap.size) (o := 3) (v := .int .i64 F) r00.2 HT4)
  clear hr4 hb4 H3 X3 C4 hxx z4 HT HT4
  cases b
  · rw [if_neg (by decide)] at h5
    subst h5
    go_wp2_with fail
    refine (C5.out _ H4.out).mono ?_
    rintro r w5 ⟨rfl, hx5⟩
    have e0' : w5.frozen? ⟨w.heap.size, 0, none⟩ = false := hx5.froz (v := .int .i64 0) (by simp [go_sem, d0, d1, d2, d3, e0, e1, e2, e3, n1, n2]) (by simp [go_sem, d0, d1, d2, d3, e0, e1, e2, e3, n1, n2])
    have e1' : w5.frozen? ⟨w.heap.size, 1, none⟩ = false := hx5.froz (v := .int .i64 0) (by simp [go_sem, d0, d1, d2, d3, e0, e1, e2, e3, n1, n2]) (by simp [go_sem, d0, d1, d2, d3, e0, e1, e2, e3, n1, n2])
    have e2' : w5.frozen? ⟨w.heap.size, 2, none⟩ = false := hx5.froz (v := .int .i64 0) (by simp [go_sem, d0, d1, d2, d3, e0, e1, e2, e3, n1, n2]) (by simp [go_sem, d0, d1, d2, d3, e0, e1, e2, e3, n1, n2])
    have e3' : w5.frozen? ⟨w.heap.size, 3, none⟩ = false := hx5.froz (v := .int .i64 0) (by simp [go_sem, d0, d1, d2, d3, e0, e1, e2, e3, n1, n2]) (by simp [go_sem, d0, d1, d2, d3, e0, e1, e2, e3, n1, n2])
    have d0' : w5.cell? ⟨w.heap.size, 0, none⟩ = some (.int .i64 0) := hx5.has (by simp [go_sem, d0, d1, d2, d3, e0, e1, e2, e3, n1, n2])
    have d1' : w5.cell? ⟨w.heap.size, 1, none⟩ = some (.int .i64 0) := hx5.has (by simp [go_sem, d0, d1, d2, d3, e0, e1, e2, e3, n1, n2])
    have d2' : w5.cell? ⟨w.heap.size, 2, none⟩ = some (.int .i64 0) := hx5.has (by simp [go_sem, d0, d1, d2, d3, e0, e1, e2, e3, n1, n2])
    have d3' : w5.cell? ⟨w.heap.size, 3, none⟩ = some (.int .i64 0) := hx5.has (by simp [go_sem, d0, d1, d2, d3, e0, e1, e2, e3, n1, n2])
    have s0' : w5.cell? ⟨w2.heap.size, 0, none⟩ = some (.int .i64 V) := hx5.has (by simp [go_sem, s0, s1, s2, s3, t0, t1, t2, t3, n1, n2])
    have s1' : w5.cell? ⟨w2.heap.size, 1, none⟩ = some (.int .i64 S) := hx5.has (by simp [go_sem, s0, s1, s2, s3, t0, t1, t2, t3, n1, n2])
    have s2' : w5.cell? ⟨w2.heap.size, 2, none⟩ = some (.int .i64 (Q - 1)) := hx5.has (by simp [go_sem, s0, s1, s2, s3, t0, t1, t2, t3, n1, n2])
    have s3' : w5.cell? ⟨w2.heap.size, 3, none⟩ = some (.int .i64 F) := hx5.has (by simp [go_sem, s0, s1, s2, s3, t0, t1, t2, t3, n1, n2])
    clear d0 d1 d2 d3 e0 e1 e2 e3 s0 s1 s2 s3 t0 t1 t2 t3
    have d0 := d0'
    have e0 := e0'
    have s0 := s0'
    have d1 := d1'
    have e1 := e1'
    have s1 := s1'
    have d2 := d2'
    have e2 := e2'
    have s2 := s2'
    have d3 := d3'
    have e3 := e3'
    have s3 := s3'
    clear d0' d1' d2' d3' e0' e1' e2' e3' s0' s1' s2' s3'
    have X5 := Lib.hid (show But (fun k => k = g ∨ k = w2.heap.size) (w.alloc (.cells #[.int .i64 0, .int .i64 0, .int .i64 0, .int .i64 0] 34)) w5 from (X4.out.setCell (p := ⟨w2.heap.size, 3, none⟩) (.inr rfl) (.int .i64 F)).trans (But.ofExt hx5))
    have H5 := Lib.hid (H4.out.keep hx5)
    have z5 := Ext.size hx5
    simp at z5
    clear hx5 H4 X4 C5
    go_wp2_with fail
    refine (CK.out _).mono ?_
    rintro r w6 ⟨rfl, hx6⟩
    replace e0 := hx6.froz d0 e0
    replace d0 := hx6.has d0
    replace s0 := hx6.has s0
    replace e1 := hx6.froz d1 e1
    replace d1 := hx6.has d1
    replace s1 := hx6.has s1
    replace e2 := hx6.froz d2 e2
    replace d2 := hx6.has d2
    replace s2 := hx6.has s2
    replace e3 := hx6.froz d3 e3
    replace d3 := hx6.has d3
    replace s3 := hx6.has s3
    have X6 := Lib.hid (X5.out.trans (But.ofExt hx6))
    have H6 := Lib.hid (H5.out.keep hx6)
    clear hx6 H5 X5 CK
    go_wp2_with fail
    refine (C6.out _ H6.out).mono ?_
    rintro r w7 ⟨⟨v7, rfl⟩, hr7, hb7⟩
    replace e0 := hb7.froz hng d0 e0
    replace d0 := hb7.has hng d0
    replace s0 := hb7.has hng2 s0
    replace e1 := hb7.froz hng d1 e1
    replace d1 := hb7.has hng d1
    replace s1 := hb7.has hng2 s1
    replace e2 := hb7.froz hng d2 e2
    replace d2 := hb7.has hng d2
    replace s2 := hb7.has hng2 s2
    replace e3 := hb7.froz hng d3 e3
    replace d3 := hb7.has hng d3
    replace s3 := hb7.has hng2 s3
    have X7 := Lib.hid (X6.out.trans (hb7.mono (fun k _ hk => .inl hk)))
    have H7 := Lib.hid hr7
    clear hr7 hb7 H6 X6 C6
    go_wp2_with fail
    refine (C7.out _ H7.out).mono ?_
    rintro r w8 ⟨rfl, hx8⟩
    replace e0 := hx8.froz d0 e0
    replace d0 := hx8.has d0
    replace s0 := hx8.has s0
    replace e1 := hx8.froz d1 e1
    replace d1 := hx8.has d1
    replace s1 := hx8.has s1
    replace e2 := hx8.froz d2 e2
    replace d2 := hx8.has d2
    replace s2 := hx8.has s2
    replace e3 := hx8.froz d3 e3
    replace d3 := hx8.has d3
    replace s3 := hx8.has s3
    have X8 := Lib.hid (X7.out.trans (But.ofExt hx8))
    have H8 := Lib.hid (H7.out.keep hx8)
    have HR8 := Lib.hid hx8
    have lt8 := H8.out.lt
    have XG := Lib.hid (show But (· = g) w w8 from (But.ofExt ((Ext.refl w).alloc _)).trans (X8.out.mono2 (by simp; omega)))
    have HTr : Hid (∃ cs t z, w8.heap[w.heap.size]? = some (.cells cs t z) ∧ t ≠ 47) := Lib.hid ⟨_, _, _, (X8.out.block w.heap.size (by simp) hng3).trans (World.alloc_heap_new w _), by decide⟩
    clear hx8 H7 X7 C7
    cases b2
    · go_wp2_with fail
      refine bodyPost_ret (v := .agg #[.int .i64 V, .int .i64 S, .int .i64 (Q - 1), .int .i64 F]) (by simp [results, Try.results23, go_sem, d0, d1, d2, d3, e0, e1, e2, e3]; try rfl) rfl ⟨rfl, ?_, ?_⟩
      · exact H8.out.set4 lt HTr.out
      · exact (((XG.out.setNew (p := ⟨w.heap.size, 0, none⟩) (Nat.le_refl _) _).setNew (p := ⟨w.heap.size, 1, none⟩) (Nat.le_refl _) _).setNew (p := ⟨w.heap.size, 2, none⟩) (Nat.le_refl _) _).setNew (p := ⟨w.heap.size, 3, none⟩) (Nat.le_refl _) _
    · go_wp2_with fail
      refine bodyPost_ret (v := .agg #[.int .i64 0, .int .i64 0, .int .i64 0, .int .i64 0]) (by simp [results, Try.results23, go_sem, d0, d1, d2, d3, e0, e1, e2, e3]; try rfl) rfl ⟨rfl, ?_, ?_⟩
      · exact H8.out.set4 lt HTr.out
      · exact (((XG.out.setNew (p := ⟨w.heap.size, 0, none⟩) (Nat.le_refl _) _).setNew (p := ⟨w.heap.size, 1, none⟩) (Nat.le_refl _) _).setNew (p := ⟨w.heap.size, 2, none⟩) (Nat.le_refl _) _).setNew (p := ⟨w.heap.size, 3, none⟩) (Nat.le_refl _) _
  · rw [if_pos rfl] at h5
    subst h5
    go_wp2_with fail
    refine (C5.out _ H4.out).mono ?_
    rintro r w5 ⟨rfl, hx5⟩
    have e0' : w5.frozen? ⟨w.heap.size, 0, none⟩ = false := hx5.froz (v := .int .i64 0) (by simp [go_sem, d0, d1, d2, d3, e0, e1, e2, e3, n1, n2]) (by simp [go_sem, d0, d1, d2, d3, e0, e1, e2, e3, n1, n2])
    have e1' : w5.frozen? ⟨w.heap.size, 1, none⟩ = false := hx5.froz (v := .int .i64 0) (by simp [go_sem, d0, d1, d2, d3, e0, e1, e2, e3, n1, n2]) (by simp [go_sem, d0, d1, d2, d3, e0, e1, e2, e3, n1, n2])
    have e2' : w5.frozen? ⟨w.heap.size, 2, none⟩ = false := hx5.froz (v := .int .i64 0) (by simp [go_sem, d0, d1, d2, d3, e0, e1, e2, e3, n1, n2]) (by simp [go_sem, d0, d1, d2, d3, e0, e1, e2, e3, n1, n2])
    have e3' : w5.frozen? ⟨w.heap.size, 3, none⟩ = false := hx5.froz (v := .int .i64 0) (by simp [go_sem, d0, d1, d2, d3, e0, e1, e2, e3, n1, n2]) (by simp [go_sem, d0, d1, d2, d3, e0, e1, e2, e3, n1, n2])
    have d0' : w5.cell? ⟨w.heap.size, 0, none⟩ = some (.int .i64 0) := hx5.has (by simp [go_sem, d0, d1, d2, d3, e0, e1, e2, e3, n1, n2])
    have d1' : w5.cell? ⟨w.heap.size, 1, none⟩ = some (.int .i64 0) := hx5.has (by simp [go_sem, d0, d1, d2, d3, e0, e1, e2, e3, n1, n2])
    have d2' : w5.cell? ⟨w.heap.size, 2, none⟩ = some (.int .i64 0) := hx5.has (by simp [go_sem, d0, d1, d2, d3, e0, e1, e2, e3, n1, n2])
    have d3' : w5.cell? ⟨w.heap.size, 3, none⟩ = some (.int .i64 0) := hx5.has (by simp [go_sem, d0, d1, d2, d3, e0, e1, e2, e3, n1, n2])
    have s0' : w5.cell? ⟨w2.heap.size, 0, none⟩ = some (.int .i64 V) := hx5.has (by simp [go_sem, s0, s1, s2, s3, t0, t1, t2, t3, n1, n2])
    have s1' : w5.cell? ⟨w2.heap.size, 1, none⟩ = some (.int .i64 S) := hx5.has (by simp [go_sem, s0, s1, s2, s3, t0, t1, t2, t3, n1, n2])
    have s2' : w5.cell? ⟨w2.heap.size, 2, none⟩ = some (.int .i64 (Q - 1)) := hx5.has (by simp [go_sem, s0, s1, s2, s3, t0, t1, t2, t3, n1, n2])
    have s3' : w5.cell? ⟨w2.heap.size, 3, none⟩ = some (.int .i64 F) := hx5.has (by simp [go_sem, s0, s1, s2, s3, t0, t1, t2, t3, n1, n2])
    clear d0 d1 d2 d3 e0 e1 e2 e3 s0 s1 s2 s3 t0 t1 t2 t3
    have d0 := d0'
    have e0 := e0'
    have s0 := s0'
    have d1 := d1'
    have e1 := e1'
    have s1 := s1'
    have d2 := d2'
    have e2 := e2'
    have s2 := s2'
    have d3 := d3'
    have e3 := e3'
    have s3 := s3'
    clear d0' d1' d2' d3' e0' e1' e2' e3' s0' s1' s2' s3'
    have X7 := Lib.hid (show But (fun k => k = g ∨ k = w2.heap.size) (w.alloc (.cells #[.int .i64 0, .int .i64 0, .int .i64 0, .int .i64 0] 34)) w5 from (X4.out.setCell (p := ⟨w2.heap.size, 3, none⟩) (.inr rfl) (.int .i64 F)).trans (But.ofExt hx5))
    have H7 := Lib.hid (H4.out.keep hx5)
    clear hx5 H4 X4 C5 C6 CK
    go_wp2_with fail
    refine (C7.out _ H7.out).mono ?_
    rintro r w8 ⟨rfl, hx8⟩
    replace e0 := hx8.froz d0 e0
    replace d0 := hx8.has d0
    replace s0 := hx8.has s0
    replace e1 := hx8.froz d1 e1
    replace d1 := hx8.has d1
    replace s1 := hx8.has s1
    replace e2 := hx8.froz d2 e2
    replace d2 := hx8.has d2
    replace s2 := hx8.has s2
    replace e3 := hx8.froz d3 e3
    replace d3 := hx8.has d3
    replace s3 := hx8.has s3
    have X8 := Lib.hid (X7.out.trans (But.ofExt hx8))
    have H8 := Lib.hid (H7.out.keep hx8)
    have HR8 := Lib.hid hx8
    have lt8 := H8.out.lt
    have XG := Lib.hid (show But (· = g) w w8 from (But.ofExt ((Ext.refl w).alloc _)).trans (X8.out.mono2 (by simp; omega)))
    have HTr : Hid (∃ cs t z, w8.heap[w.heap.size]? = some (.cells cs t z) ∧ t ≠ 47) := Lib.hid ⟨_, _, _, (X8.out.block w.heap.size (by simp) hng3).trans (World.alloc_heap_new w _), by decide⟩
    clear hx8 H7 X7 C7
    cases b2
    · go_wp2_with fail
      refine bodyPost_ret (v := .agg #[.int .i64 V, .int .i64 S, .int .i64 (Q - 1), .int .i64 F]) (by simp [results, Try.results23, go_sem, d0, d1, d2, d3, e0, e1, e2, e3]; try rfl) rfl ⟨rfl, ?_, ?_⟩
      · exact H8.out.set4 lt HTr.out
      · exact (((XG.out.setNew (p := ⟨w.heap.size, 0, none⟩) (Nat.le_refl _) _).setNew (p := ⟨w.heap.size, 1, none⟩) (Nat.le_refl _) _).setNew (p := ⟨w.heap.size, 2, none⟩) (Nat.le_refl _) _).setNew (p := ⟨w.heap.size, 3, none⟩) (Nat.le_refl _) _
    · go_wp2_with fail
      refine bodyPost_ret (v := .agg #[.int .i64 0, .int .i64 0, .int .i64 0, .int .i64 0]) (by simp [results, Try.results23, go_sem, d0, d1, d2, d3, e0, e1, e2, e3]; try rfl) rfl ⟨rfl, ?_, ?_⟩
      · exact H8.out.set4 lt HTr.out
      · exact (((XG.out.setNew (p := ⟨w.heap.size, 0, none⟩) (Nat.le_refl _) _).setNew (p := ⟨w.heap.size, 1, none⟩) (Nat.le_refl _) _).setNew (p := ⟨w.heap.size, 2, none⟩) (Nat.le_refl _) _).setNew (p := ⟨w.heap.size, 3, none⟩) (Nat.le_refl _) _
/-- a reader's place and fault behind a number that is read -/
def tkS (L : List Nat) (s : Nat × Option (Int × Int)) (lo hi : Int) : Nat × Option (Int × Int) := (rnK L s.1 s.2 lo hi, rnF L s.1 s.2 lo hi)
def tkV (L : List Nat) (s : Nat × Option (Int × Int)) (lo hi : Int) : Int := rnV L s.1 s.2 lo hi
def tk1 (L : List Nat) (s : Nat × Option (Int × Int)) := tkS L s 0 31
def tk2 (L : List Nat) (s : Nat × Option (Int × Int)) := tkS L (tk1 L s) 1 4294967296
def tk3 (L : List Nat) (s : Nat × Option (Int × Int)) := tkS L (tk2 L s) 0 32
def tk4 (L : List Nat) (s : Nat × Option (Int × Int)) := tkS L (tk3 L s) 0 4294967296
def tkA (L : List Nat) (s : Nat × Option (Int × Int)) : Int := tkV L s 0 31
def tkB (L : List Nat) (s : Nat × Option (Int × Int)) : Int := tkV L (tk1 L s) 1 4294967296
def tkC (L : List Nat) (s : Nat × Option (Int × Int)) : Int := tkV L (tk2 L s) 0 32
def tkD (L : List Nat) (s : Nat × Option (Int × Int)) : Int := tkV L (tk3 L s) 0 4294967296
/-- the fault behind a Take -/
def tkF (L : List Nat) (s : Nat × Option (Int × Int)) : Option (Int × Int) :=
  if fltB (tk4 L s).2 (tk4 L s).1 L.length = true then (tk4 L s).2 else failF (tk4 L s).2 (chkS (tkA L s) (tkB L s) (tkC L s - 1) (tkD L s)) (atF s.2 s.1)
/-- does it hand back noughts? -/
def tkZ (L : List Nat) (s : Nat × Option (Int × Int)) : Bool := fltB (tkF L s) (tk4 L s).1 L.length
theorem tTake_any (g k : Nat) (L : List Nat) (f : Option (Int × Int)) (hL : L.length < 1099511627776) (w : World) (h : Rd w g L k f) :
    Calls Try.prog 23 #[.pointer (some ⟨g, 0, none⟩)] w fun r w' => r = .returned (.agg #[.int .i64 (if tkZ L (k, f) = true then 0 else tkA L (k, f)), .int .i64 (if tkZ L (k, f) = true then 0 else tkB L (k, f)), .int .i64 (if tkZ L (k, f) = true then 0 else tkC L (k, f) - 1), .int .i64 (if tkZ L (k, f) = true then 0 else tkD L (k, f))]) ∧
      Rd w' g L (tk4 L (k, f)).1 (tkF L (k, f)) ∧ But (· = g) w w' := by
  have hq := rnV_bound L (tk2 L (k, f)).1 (tk2 L (k, f)).2 0 32 (by decide)
  exact tTake_at g k (tk1 L (k, f)).1 (tk2 L (k, f)).1 (tk3 L (k, f)).1 (tk4 L (k, f)).1 L f (tk1 L (k, f)).2 (tk2 L (k, f)).2 (tk3 L (k, f)).2 (tk4 L (k, f)).2 (tkF L (k, f)) (atF f k) (tkA L (k, f)) (tkB L (k, f)) (tkC L (k, f)) (tkD L (k, f)) _ _ (tkZ L (k, f)) hq.1 hq.2
    (Lib.hid fun w h => cAt_any g k L f w h)
    (Lib.hid fun w h => cRN_any g _ L _ 0 31 (by decide) (by decide) (by decide) (by decide) hL w h)
    (Lib.hid fun w h => cRN_any g _ L _ 1 4294967296 (by decide) (by decide) (by decide) (by decide) hL w h)
    (Lib.hid fun w h => cRN_any g _ L _ 0 32 (by decide) (by decide) (by decide) (by decide) hL w h)
    (Lib.hid fun w h => cRN_any g _ L _ 0 4294967296 (by decide) (by decide) (by decide) (by decide) hL w h)
    (Lib.hid fun w h => tfaulty_any g _ L _ w h hL) (Lib.hid fun w => tCheck_any _ _ _ _ w)
    (Lib.hid fun w h => cFail_any g _ L _ _ _ w h) rfl (Lib.hid fun w h => tfaulty_any g _ L _ w h hL) w h
end Go.Proofs.Ythaknigljjnnaaa
