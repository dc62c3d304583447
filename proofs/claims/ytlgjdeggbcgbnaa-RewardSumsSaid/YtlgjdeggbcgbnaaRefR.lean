/- distraintref02's Reader: its methods over a reader that lies in memory, told by the same plain functions as codec's. Conditions stand in each lemma. -/
import Derived.Test.YtlgjdeggbcgbnaaCodecM
set_option linter.unusedVariables false
set_option linter.unusedSimpArgs false
namespace Go.Proofs.Ytlgjdeggbcgbnaa
open Go.RowKit

def fltE (f : Option (Int × Int)) : Int := match f with | some x => x.1 | none => 0
def fltA (f : Option (Int × Int)) : Int := match f with | some x => x.2 | none => 0
/-- a reference reader lies at block g: its bytes (below g), its place, its fault -/
structure RRd (w : World) (g : Nat) (L : List Nat) (k : Nat) (flt : Option (Int × Int)) : Prop where
  b : ∃ A c, w.cell? ⟨g, 0, none⟩ = some (.slice A L.length c) ∧ Sl w 1 A L.length c (by_ L) ∧ ∀ b o s, A = some ⟨b, o, s⟩ → b < g ∧ o = 0
  c1 : ∃ t : Nat, w.cell? ⟨g, 1, none⟩ = some (.int .i64 (t : Int)) ∧ t ≤ L.length ∧ (flt = none → t = k)
  c2 : w.cell? ⟨g, 2, none⟩ = some (.int .i64 (fltE flt))
  c3 : w.cell? ⟨g, 3, none⟩ = some (.int .i64 (fltA flt))
  f1 : w.frozen? ⟨g, 1, none⟩ = false
  f2 : w.frozen? ⟨g, 2, none⟩ = false
  f3 : w.frozen? ⟨g, 3, none⟩ = false
  lt : g < w.heap.size
  le : k ≤ L.length
  byt : Byt L
  nz : FltNz flt
  ty : ∃ cs z, w.heap[g]? = some (.cells cs 95 z)
theorem RRd.keep {w w' : World} {g k : Nat} {L : List Nat} {flt : Option (Int × Int)} (h : RRd w g L k flt) (hb : Below w.heap.size w w') : RRd w' g L k flt := by
  obtain ⟨A, c, h0, h1, h2⟩ := h.b
  obtain ⟨t, h3, h4, h5⟩ := h.c1
  obtain ⟨cs, z, h6⟩ := h.ty
  have cl : ∀ o, w'.cell? ⟨g, o, none⟩ = w.cell? ⟨g, o, none⟩ := fun o => hb.cell (p := ⟨g, o, none⟩) h.lt
  have fl : ∀ o, w'.frozen? ⟨g, o, none⟩ = w.frozen? ⟨g, o, none⟩ := fun o => hb.frozen (p := ⟨g, o, none⟩) h.lt
  exact ⟨⟨A, c, (cl 0).trans h0, h1.ext hb, h2⟩, ⟨t, (cl 1).trans h3, h4, h5⟩, (cl 2).trans h.c2, (cl 3).trans h.c3, (fl 1).trans h.f1, (fl 2).trans h.f2, (fl 3).trans h.f3, by have := h.lt; have := hb.size; omega, h.le, h.byt, h.nz, cs, z, (hb.block g h.lt).trans h6⟩
theorem RRd.drewN {w : World} {g k : Nat} {L : List Nat} {flt : Option (Int × Int)} (h : RRd w g L k flt) (n : Nat) : RRd (w.drewN n) g L k flt := h.keep (below_drewN (Below.refl _ _) n)
theorem RRd.ext {w w' : World} {g k : Nat} {L : List Nat} {flt : Option (Int × Int)} (h : RRd w g L k flt) (hb : Ext w w') : RRd w' g L k flt := h.keep hb
theorem fltE_nz {f : Option (Int × Int)} (h : FltNz f) (hf : ¬ f = none) : ¬ fltE f = 0 := by
  cases f with
  | none => exact absurd rfl hf
  | some x => exact h x rfl
theorem heap_type_set {w : World} {p : Addr} {v : Value} {cs : Array Value} {t : TypeId} {z : Nat × Nat} {g : Nat} (h : w.heap[g]? = some (.cells cs t z)) : ∃ cs' z', (w.setCell p v).heap[g]? = some (.cells cs' t z') := by
  by_cases e : p.block = g
  · subst e
    unfold World.setCell
    simp only [Array.getElem?_modify, if_true, h, Option.map_some]
    exact ⟨_, _, rfl⟩
  · exact ⟨cs, z, by rw [Below.heap_setCell _ _ _ _ (fun h => e h.symm)]; exact h⟩
/-- a fault is laid -/
theorem RRd.setF {w : World} {g k : Nat} {L : List Nat} {e a : Int} (h : RRd w g L k none) (he : ¬ e = 0) : RRd ((w.setCell ⟨g, 2, none⟩ (.int .i64 e)).setCell ⟨g, 3, none⟩ (.int .i64 a)) g L k (some (e, a)) := by
  obtain ⟨A, c, h0, h1, h2⟩ := h.b
  obtain ⟨t, h3, h4, h5⟩ := h.c1
  obtain ⟨cs, z, h6⟩ := h.ty
  have c2 := h.c2
  have c3 := h.c3
  have f1 := h.f1
  have f2 := h.f2
  have f3 := h.f3
  obtain ⟨cs1, z1, h7⟩ := heap_type_set (p := ⟨g, 2, none⟩) (v := .int .i64 e) h6
  obtain ⟨cs2, z2, h8⟩ := heap_type_set (p := ⟨g, 3, none⟩) (v := .int .i64 a) h7
  exact ⟨⟨A, c, by simp [go_sem, h0], (h1.setOther fun b o s e => (h2 b o s e).1).setOther fun b o s e => (h2 b o s e).1, h2⟩, ⟨t, by simp [go_sem, h3], h4, fun h => by cases h⟩, by simp [go_sem, c2, fltE], by simp [go_sem, c3, fltA], by simp [go_sem, f1], by simp [go_sem, f2], by simp [go_sem, f3], by simpa using h.lt, h.le, h.byt, fun x hx => by cases hx; exact he, cs2, z2, h8⟩
/-- the place goes on -/
theorem RRd.setTo {w : World} {g k : Nat} {L : List Nat} (h : RRd w g L k none) {j : Nat} (hj : j ≤ L.length) : RRd (w.setCell ⟨g, 1, none⟩ (.int .i64 (j : Int))) g L j none := by
  obtain ⟨A, c, h0, h1, h2⟩ := h.b
  obtain ⟨t, h3, h4, h5⟩ := h.c1
  obtain ⟨cs, z, h6⟩ := h.ty
  have c2 := h.c2
  have c3 := h.c3
  have f1 := h.f1
  have f2 := h.f2
  have f3 := h.f3
  obtain ⟨cs1, z1, h7⟩ := heap_type_set (p := ⟨g, 1, none⟩) (v := .int .i64 (j : Int)) h6
  exact ⟨⟨A, c, by simp [go_sem, h0], h1.setOther fun b o s e => (h2 b o s e).1, h2⟩, ⟨j, by simp [go_sem, h3], hj, fun _ => rfl⟩, by simp [go_sem, c2], by simp [go_sem, c3], by simp [go_sem, f1], by simp [go_sem, f2], by simp [go_sem, f3], by simpa using h.lt, hj, h.byt, h.nz, cs1, z1, h7⟩
theorem rFail_any (g k : Nat) (L : List Nat) (f : Option (Int × Int)) (e a : Int) (w : World) (h : RRd w g L k f) :
    Calls Try.prog 73 #[.pointer (some ⟨g, 0, none⟩), .int .i64 e, .int .i64 a] w fun r w' => (∃ v, r = .returned v) ∧ RRd w' g L k (failF f e a) ∧ But (· = g) w w' := by
  have H2 := h.c2
  have H3 := h.c3
  have F2 := h.f2
  have F3 := h.f3
  have HH := Lib.hid h
  cases f with
  | some x =>
    have hz : (fltE (some x) == 0) = false := beq_false_of_ne (h.nz x rfl)
    generalize fltE (some x) = z at *
    clear h
    go_enter Try.func73, Try.ntmps73
    go_wp2
    go_end0
    exact ⟨⟨_, rfl⟩, HH.out, But.refl _ _⟩
  | none =>
    change w.cell? ⟨g, 2, none⟩ = some (.int .i64 0) at H2
    change w.cell? ⟨g, 3, none⟩ = some (.int .i64 0) at H3
    clear h
    by_cases he : e = 0
    · subst he
      go_enter Try.func73, Try.ntmps73
      go_wp2
      go_end0
      exact ⟨⟨_, rfl⟩, HH.out, But.refl _ _⟩
    · have hz : (e == 0) = false := beq_false_of_ne he
      have hz2 : (e != 0) = true := by simpa using he
      have HE := Lib.hid he
      clear he
      go_enter Try.func73, Try.ntmps73
      go_wp2
      go_end0
      refine ⟨⟨_, rfl⟩, ?_, ((But.refl (· = g) w).setCell (p := ⟨g, 2, none⟩) rfl _).setCell (p := ⟨g, 3, none⟩) rfl _⟩
      unfold failF
      simp only [if_neg HE.out]
      exact HH.out.setF HE.out
theorem rEnd_any (g k : Nat) (L : List Nat) (f : Option (Int × Int)) (w : World) (h : RRd w g L k f) (hL : L.length < 1099511627776) :
    Calls Try.prog 58 #[.pointer (some ⟨g, 0, none⟩)] w fun r w' => r = .returned (.agg #[.int .i64 (endF f k L.length).1, .int .i64 (endF f k L.length).2]) ∧ Ext w w' := by
  have hb := (Below.refl w.heap.size w).alloc (Nat.le_refl _) (.cells #[.int .i64 0, .int .i64 0] 47)
  have h' := h.keep hb
  have H2 := h'.c2
  have H3 := h'.c3
  obtain ⟨t, H1, _, ht⟩ := h'.c1
  obtain ⟨A, c, H0, _⟩ := h'.b
  have hle := h.le
  have hlt : ¬ w.heap.size = g := by have := h.lt; omega
  have hlt2 : ¬ g = w.heap.size := by have := h.lt; omega
  cases f with
  | some x =>
    obtain ⟨ex, ax⟩ := x
    have hz : (ex == 0) = false := beq_false_of_ne (h.nz _ rfl)
    have hz2 : (ex != 0) = true := by simpa using h.nz _ rfl
    change _ = some (Value.int .i64 ex) at H2
    change _ = some (Value.int .i64 ax) at H3
    clear h h' hb ht
    generalize L.length = N at *
    go_enter Try.func58, Try.ntmps58
    go_wp2_with fail
    go_quiet (fail)
    go_wp2
    refine bodyPost_ret (v := .agg #[.int .i64 ex, .int .i64 ax]) (by simp [results, Try.results58, go_sem]; try rfl) rfl ⟨rfl, ?_⟩
    exact (by repeat (first | assumption | exact Ext.refl _ | refine Ext.drew ?_ | refine Ext.drewN ?_ _ | refine Ext.alloc ?_ _ | refine Ext.setCell ?_ (by first | omega | (simp; done) | (simp; omega)) _ | refine Ext.trans ?_ (by assumption)))
  | none =>
    change _ = some (Value.int .i64 0) at H2
    change _ = some (Value.int .i64 0) at H3
    obtain rfl := ht rfl
    clear h h' hb
    generalize L.length = N at *
    by_cases hk : t < N
    · rw [show endF none t N = (4, (t : Int)) from if_pos hk]
      have hd : decide (t < N) = true := decide_eq_true hk
      have hd2 : decide ((t : Int) < (N : Int)) = true := decide_eq_true (by omega)
      go_enter Try.func58, Try.ntmps58
      go_wp2_with fail
      go_quiet (fail)
      go_wp2
      refine bodyPost_ret (v := .agg #[.int .i64 4, .int .i64 (t : Int)]) (by simp [results, Try.results58, go_sem]; try rfl) rfl ⟨rfl, ?_⟩
      exact (by repeat (first | assumption | exact Ext.refl _ | refine Ext.drew ?_ | refine Ext.drewN ?_ _ | refine Ext.alloc ?_ _ | refine Ext.setCell ?_ (by first | omega | (simp; done) | (simp; omega)) _ | refine Ext.trans ?_ (by assumption)))
    · rw [show endF none t N = (0, 0) from if_neg hk]
      have hd : decide (t < N) = false := decide_eq_false hk
      have hd2 : decide ((t : Int) < (N : Int)) = false := decide_eq_false (by omega)
      go_enter Try.func58, Try.ntmps58
      go_wp2_with fail
      go_quiet (fail)
      go_wp2
      refine bodyPost_ret (v := .agg #[.int .i64 0, .int .i64 0]) (by simp [results, Try.results58, go_sem]; try rfl) rfl ⟨rfl, ?_⟩
      exact (by repeat (first | assumption | exact Ext.refl _ | refine Ext.drew ?_ | refine Ext.drewN ?_ _ | refine Ext.alloc ?_ _ | refine Ext.setCell ?_ (by first | omega | (simp; done) | (simp; omega)) _ | refine Ext.trans ?_ (by assumption)))
def gtV (t : Nat) (V : Nat × Nat × Int) : Value := .tuple #[.int .u64 (V.1 : Int), .int .i64 (if V.2.2 = 0 then ((t + V.2.1 : Nat) : Int) else 0), .agg #[.int .i64 V.2.2, .int .i64 (if V.2.2 = 0 then 0 else (t : Int))]]
set_option maxRecDepth 100000 in
set_option maxHeartbeats 4000000 in
theorem rGet_any (A : Option Addr) (m cc t : Nat) (L : List Nat) (w : World) (h : Sl w 1 A m cc (by_ L)) (hB : Byt L) (ht : t ≤ m) (hm : m < 1099511627776) :
    Calls Try.prog 74 #[.slice A m cc, .int .i64 (t : Int)] w fun r w' => r = .returned (gtV t (numGo (L.drop t) 0 0)) ∧ Ext w w' := by
  have hL : L.length = m := by have := h.len; rw [by_len] at this; omega
  obtain ⟨n, hn⟩ : ∃ n, n = m - t := ⟨_, rfl⟩
  obtain ⟨V, hV⟩ : ∃ V, V = numGo (L.drop t) 0 0 := ⟨_, rfl⟩
  rw [← hV]
  have HV := Lib.hid hV
  have HL := Lib.hid hL
  have HS := Lib.hid (h.ext ((Ext.refl w).alloc (.cells #[.int .i64 0, .int .i64 0] 47)))
  have HB := Lib.hid hB
  have HN := Lib.hid hn
  have t0 : ¬ (t : Int) < 0 := by omega
  have t1 : ¬ (m : Int) < (t : Int) := by omega
  have t2 : (t : Int) ≤ (m : Int) := by omega
  have t3 : (0 : Int) ≤ (t : Int) := by omega
  have mI : (m : Int) < 1099511627776 := by omega
  clear hV hL h hB hn ht
  go_enter Try.func74, Try.ntmps74
  go_wp2
  go_loopg [7, 8] n (fun g a i wx => g ≤ n ∧ n - g ≤ 9 ∧ ∃ acc : Nat, Hid (V = numGo (L.drop (t + (n - g))) (n - g) acc ∧ acc < 2 ^ (7 * (n - g))) ∧ acc < 18446744073709551616 ∧ a = .int .u64 (acc : Int) ∧ i = .int .i64 ((n - g : Nat) : Int) ∧ wx = w.alloc (.cells #[.int .i64 0, .int .i64 0] 47))
  case atStart => exact ⟨Nat.le_refl _, by omega, 0, ⟨by rw [Nat.sub_self]; exact HV.out, by rw [Nat.sub_self]; decide⟩, by decide, rfl, by simp, rfl⟩
  case round =>
    obtain ⟨hg, hg9, acc, H, ha, rfl, hi, rfl⟩ := hrel
    obtain ⟨k, hk⟩ : ∃ k, k = n - gk := ⟨_, rfl⟩
    rw [← hk] at H hi hg9
    subst hi
    have hkI : (k : Int) < 10 := by omega
    have hk0 : (0 : Int) ≤ (k : Int) := by omega
    have hd10 : decide ((k : Int) < 10) = true := decide_eq_true hkI
    by_cases hz : gk = 0
    · have hkn : ¬ (t : Int) + (k : Int) < m := by have := HN.out; omega
      have hdn : decide ((t : Int) + (k : Int) < (m : Int)) = false := decide_eq_false hkn
      have e : V = (0, 0, 6) := by
        rw [H.out.1, List.drop_eq_nil_of_le (by have := HL.out; have := HN.out; omega)]; rfl
      subst e
      clear H hz hg hk hg9
      go_wp2
      refine bodyPost_ret (v := .tuple #[.int .u64 0, .int .i64 0, .agg #[.int .i64 6, .int .i64 (t : Int)]]) (by simp [results, Try.results74, go_sem]; try rfl) rfl ⟨by simp [gtV], (by repeat (first | assumption | exact Ext.refl _ | refine Ext.drew ?_ | refine Ext.drewN ?_ _ | refine Ext.alloc ?_ _ | refine Ext.setCell ?_ (by first | omega | (simp; done) | (simp; omega)) _ | refine Ext.trans ?_ (by assumption)))⟩
    · have hkn : (t : Int) + (k : Int) < m := by have := HN.out; omega
      have hdn : decide ((t : Int) + (k : Int) < (m : Int)) = true := decide_eq_true hkn
      obtain ⟨b, o, rfl, hb, hc⟩ := HS.out.at_ (show 0 < m from by have := HN.out; omega)
      have hkl : t + k < L.length := by have := HL.out; have := HN.out; omega
      have hc1 := hc (t + k) _ (by_get L (t + k) hkl)
      have hx : numGo (L.drop (t + k)) k acc = if (k = 9 ∧ 1 < L.getD (t + k) 0) ∨ (0 < k ∧ L.getD (t + k) 0 = 0) then (0, 0, 5) else if L.getD (t + k) 0 < 128 then (acc + L.getD (t + k) 0 % 128 * 2 ^ (7 * k), k + 1, 0) else numGo (L.drop (t + (k + 1))) (k + 1) (acc + L.getD (t + k) 0 % 128 * 2 ^ (7 * k)) := by
        rw [List.drop_eq_getElem_cons hkl, numGo, List.getD_eq_getElem?_getD, List.getElem?_eq_getElem hkl]
        rfl
      have hcb := HB.out.get (t + k)
      obtain ⟨c, hcc⟩ : ∃ c, c = L.getD (t + k) 0 := ⟨_, rfl⟩
      rw [← hcc] at hc1 hx hcb
      rw [← H.out.1] at hx
      have HX := Lib.hid hx
      have HK := Lib.hid (And.intro hk (And.intro hg hz))
      clear hx hcc hc hk hg hz
      have hcI : (0 : Int) ≤ (c : Int) := by omega
      have hcJ : (c : Int) < 256 := by omega
      have hk9 : (k : Int) ≤ 9 := by omega
      by_cases hA : k = 9 ∧ 1 < c
      · have e : V = (0, 0, 5) := by rw [HX.out, if_pos (.inl hA)]
        subst e
        have p1 : ((k : Int) == 9) = true := by simp [hA.1]
        have p2 : decide (1 < (c : Int)) = true := decide_eq_true (by omega)
        clear hA H HX
        go_wp2
        refine bodyPost_ret (v := .tuple #[.int .u64 0, .int .i64 0, .agg #[.int .i64 5, .int .i64 (t : Int)]]) (by simp [results, Try.results74, go_sem]; try rfl) rfl ⟨by simp [gtV], (by repeat (first | assumption | exact Ext.refl _ | refine Ext.drew ?_ | refine Ext.drewN ?_ _ | refine Ext.alloc ?_ _ | refine Ext.setCell ?_ (by first | omega | (simp; done) | (simp; omega)) _ | refine Ext.trans ?_ (by assumption)))⟩
      · by_cases hB : 0 < k ∧ c = 0
        · have e : V = (0, 0, 5) := by rw [HX.out, if_pos (.inr hB)]
          subst e
          have p3 : decide (0 < (k : Int)) = true := decide_eq_true (by omega)
          have q3 : decide (0 < k) = true := decide_eq_true (by omega)
          have hc2 : (w.alloc (.cells #[.int .i64 0, .int .i64 0] 47)).cell? ⟨b, o + (t + k), none⟩ = some (.int .u8 0) := by rw [hc1, hB.2]; rfl
          clear hA hB H HX hc1 hcI hcJ hcb
          by_cases p : k = 9
          · have p1 : ((k : Int) == 9) = true := by simp [p]
            clear p
            go_wp2
            refine bodyPost_ret (v := .tuple #[.int .u64 0, .int .i64 0, .agg #[.int .i64 5, .int .i64 (t : Int)]]) (by simp [results, Try.results74, go_sem]; try rfl) rfl ⟨by simp [gtV], (by repeat (first | assumption | exact Ext.refl _ | refine Ext.drew ?_ | refine Ext.drewN ?_ _ | refine Ext.alloc ?_ _ | refine Ext.setCell ?_ (by first | omega | (simp; done) | (simp; omega)) _ | refine Ext.trans ?_ (by assumption)))⟩
          · have p1 : ((k : Int) == 9) = false := by simp; omega
            clear p
            go_wp2
            refine bodyPost_ret (v := .tuple #[.int .u64 0, .int .i64 0, .agg #[.int .i64 5, .int .i64 (t : Int)]]) (by simp [results, Try.results74, go_sem]; try rfl) rfl ⟨by simp [gtV], (by repeat (first | assumption | exact Ext.refl _ | refine Ext.drew ?_ | refine Ext.drewN ?_ _ | refine Ext.alloc ?_ _ | refine Ext.setCell ?_ (by first | omega | (simp; done) | (simp; omega)) _ | refine Ext.trans ?_ (by assumption)))⟩
        · have hx := HX.out
          rw [if_neg (by omega)] at hx
          have hsm := acc_small (c := c % 128) H.out.2 hg9 (by omega) (by omega)
          have HA := Lib.hid H.out.2
          have HSM := Lib.hid hsm
          have HX2 := Lib.hid hx
          have hc7 : ((c % 128 : Nat) : Int) < 128 := by omega
          have H9 := Lib.hid (show k = 9 → c < 128 from fun hh => by omega)
          have hcases : k = 0 ∨ (¬ k = 9 ∧ 0 < k ∧ ¬ c = 0) ∨ (k = 9 ∧ c = 1) := by omega
          clear hA hB H HX hx hsm
          rcases hcases with hk1 | ⟨hk1, hk2, hc3⟩ | ⟨hk1, hc3⟩
          · have p1 : ((k : Int) == 9) = false := by simp; omega
            have p3 : decide (0 < (k : Int)) = false := by simp; omega
            have q3 : decide (0 < k) = false := by simp; omega
            clear hk1
            by_cases h8 : (c : Int) < 128
            · have hv := HX2.out
              rw [if_pos (by omega)] at hv
              replace hv := Lib.hid hv
              go_wp2
              refine bodyPost_ret (v := .tuple #[.int .u64 (bits .or .u64 (acc : Int) (IntKind.u64.wrap ((c : Int) % 128 * 2 ^ (7 * k)))), .int .i64 ((t : Int) + ((k : Int) + 1)), .agg #[.int .i64 0, .int .i64 0]]) (by simp [results, Try.results74, go_sem]; try rfl) rfl ⟨?_, (by repeat (first | assumption | exact Ext.refl _ | refine Ext.drew ?_ | refine Ext.drewN ?_ _ | refine Ext.alloc ?_ _ | refine Ext.setCell ?_ (by first | omega | (simp; done) | (simp; omega)) _ | refine Ext.trans ?_ (by assumption)))⟩
              rw [hv.out, num_val HA.out HSM.out]
              unfold gtV
              simp
            · have hv := HX2.out
              rw [if_neg (by omega)] at hv
              replace hv := Lib.hid hv
              go_wp2
              go_roundg (gk - 1)
              case measure => have := HK.out; omega
              case rel =>
                have e2 : n - (gk - 1) = k + 1 := by have := HK.out; omega
                have h9 : ¬ k = 9 := by intro hh; have := H9.out hh; omega
                exact ⟨by have := HK.out; omega, by omega, acc + c % 128 * 2 ^ (7 * k), by rw [e2]; exact Lib.hid ⟨hv.out, acc_step HA.out (by omega)⟩, HSM.out.2, num_eq (num_val HA.out HSM.out), num_eq (by rw [e2]; simp), rfl⟩
          · have p1 : ((k : Int) == 9) = false := by simp; omega
            have p3 : decide (0 < (k : Int)) = true := by simp; omega
            have q3 : decide (0 < k) = true := by simp; omega
            have p4 : ((c : Int) == 0) = false := by simp; omega
            clear hk1 hc3
            by_cases h8 : (c : Int) < 128
            · have hv := HX2.out
              rw [if_pos (by omega)] at hv
              replace hv := Lib.hid hv
              go_wp2
              refine bodyPost_ret (v := .tuple #[.int .u64 (bits .or .u64 (acc : Int) (IntKind.u64.wrap ((c : Int) % 128 * 2 ^ (7 * k)))), .int .i64 ((t : Int) + ((k : Int) + 1)), .agg #[.int .i64 0, .int .i64 0]]) (by simp [results, Try.results74, go_sem]; try rfl) rfl ⟨?_, (by repeat (first | assumption | exact Ext.refl _ | refine Ext.drew ?_ | refine Ext.drewN ?_ _ | refine Ext.alloc ?_ _ | refine Ext.setCell ?_ (by first | omega | (simp; done) | (simp; omega)) _ | refine Ext.trans ?_ (by assumption)))⟩
              rw [hv.out, num_val HA.out HSM.out]
              unfold gtV
              simp
            · have hv := HX2.out
              rw [if_neg (by omega)] at hv
              replace hv := Lib.hid hv
              go_wp2
              go_roundg (gk - 1)
              case measure => have := HK.out; omega
              case rel =>
                have e2 : n - (gk - 1) = k + 1 := by have := HK.out; omega
                have h9 : ¬ k = 9 := by intro hh; have := H9.out hh; omega
                exact ⟨by have := HK.out; omega, by omega, acc + c % 128 * 2 ^ (7 * k), by rw [e2]; exact Lib.hid ⟨hv.out, acc_step HA.out (by omega)⟩, HSM.out.2, num_eq (num_val HA.out HSM.out), num_eq (by rw [e2]; simp), rfl⟩
          · have p1 : ((k : Int) == 9) = true := by simp; omega
            have p2 : decide (1 < (c : Int)) = false := by simp; omega
            have q2 : decide (1 < c) = false := by simp; omega
            have p3 : decide (0 < (k : Int)) = true := by simp; omega
            have q3 : decide (0 < k) = true := by simp; omega
            have p4 : ((c : Int) == 0) = false := by simp; omega
            clear hk1 hc3
            by_cases h8 : (c : Int) < 128
            · have hv := HX2.out
              rw [if_pos (by omega)] at hv
              replace hv := Lib.hid hv
              go_wp2
              refine bodyPost_ret (v := .tuple #[.int .u64 (bits .or .u64 (acc : Int) (IntKind.u64.wrap ((c : Int) % 128 * 2 ^ (7 * k)))), .int .i64 ((t : Int) + ((k : Int) + 1)), .agg #[.int .i64 0, .int .i64 0]]) (by simp [results, Try.results74, go_sem]; try rfl) rfl ⟨?_, (by repeat (first | assumption | exact Ext.refl _ | refine Ext.drew ?_ | refine Ext.drewN ?_ _ | refine Ext.alloc ?_ _ | refine Ext.setCell ?_ (by first | omega | (simp; done) | (simp; omega)) _ | refine Ext.trans ?_ (by assumption)))⟩
              rw [hv.out, num_val HA.out HSM.out]
              unfold gtV
              simp
            · have hv := HX2.out
              rw [if_neg (by omega)] at hv
              replace hv := Lib.hid hv
              go_wp2
              go_roundg (gk - 1)
              case measure => have := HK.out; omega
              case rel =>
                have e2 : n - (gk - 1) = k + 1 := by have := HK.out; omega
                have h9 : ¬ k = 9 := by intro hh; have := H9.out hh; omega
                exact ⟨by have := HK.out; omega, by omega, acc + c % 128 * 2 ^ (7 * k), by rw [e2]; exact Lib.hid ⟨hv.out, acc_step HA.out (by omega)⟩, HSM.out.2, num_eq (num_val HA.out HSM.out), num_eq (by rw [e2]; simp), rfl⟩
end Go.Proofs.Ytlgjdeggbcgbnaa
