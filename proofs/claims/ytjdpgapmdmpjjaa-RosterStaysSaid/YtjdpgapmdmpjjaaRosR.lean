/- roster: what bytes are read as; roster.Read. Conditions stand in each lemma. -/
import Derived.Test.YtjdpgapmdmpjjaaRosB
import Derived.Test.YtjdpgapmdmpjjaaRdK
set_option linter.unusedVariables false
set_option linter.unusedSimpArgs false
namespace Go.Proofs.Ytjdpgapmdmpjjaa
open Go.RowKit Go.ChangeShapes Go.WideShapes Go.Deep Go.Joins Go.Maps

theorem Seen.but {S : Nat → Prop} {w w' : World} {bm : Nat} {os : List Int} (h : Seen w bm os) (hx : But S w w') (hS : ¬ S bm) : Seen w' bm os := by
  obtain ⟨D, h, h1, h2⟩ := h
  have hl := h.lt
  obtain ⟨es, clock, hb, Ft, hs, hD⟩ := h
  exact ⟨D, ⟨es, clock, (hx.block bm hl hS).trans hb, Ft, hs, hD⟩, h1, h2⟩
theorem Seen.set {w : World} {bm : Nat} {os : List Int} {b o : Nat} (h : Seen w bm os) (hb : bm < b) (u : Value) : Seen (w.setCell ⟨b, o, none⟩ u) bm os := h.but (But.one w b o u) (fun e => by have e2 : bm = b := e; omega)
theorem Seen.butN {w w' : World} {bm : Nat} {os : List Int} (h : Seen w bm os) (hx : But (fun j => bm < j) w w') : Seen w' bm os := h.but hx (fun hh => by have h3 : bm < bm := hh; omega)
theorem Seen.drewN {w : World} {bm : Nat} {os : List Int} (h : Seen w bm os) (m : Nat) : Seen (w.drewN m) bm os := h.ext ((Ext.refl w).drewN m)
theorem Seen.cells {w : World} {bm : Nat} {os : List Int} (h : Seen w bm os) (cs : Array Value) (t : TypeId) (z : Nat × Nat) : w.heap[bm]? ≠ some (.cells cs t z) := by
  obtain ⟨D, ⟨es, clock, hb, _⟩, _⟩ := h
  intro hh
  rw [hb] at hh
  cases hh
theorem Seen.ne_own {w : World} {bm : Nat} {os : List Int} {base sz n : Nat} {e : TypeId} {v : Value} {xs : List Value} (h : Seen w bm os) (ho : w.ownsRow base e sz v n xs) : ¬ v.ownBlock = some bm := by
  intro hj
  obtain ⟨_, _, cs, h3⟩ := own_block ho hj
  exact h.cells cs e (0, 0) h3
/-- one validator is read -/
def rosRd1 (L : List Nat) (s : Nat × Option (Int × Int) × List (Int × Int × Int × Int × Bool × Bool)) : Nat × Option (Int × Int) × List (Int × Int × Int × Int × Bool × Bool) :=
  let k1 := rnK L s.1 s.2.1 0 63; let f1 := rnF L s.1 s.2.1 0 63
  let k2 := ruK L k1 f1; let f2 := ruF L k1 f1
  let k3 := rnK L k2 f2 1 4; let f3 := rnF L k2 f2 1 4
  let k4 := rnK L k3 f3 0 4296015872; let f4 := rnF L k3 f3 0 4296015872
  let n := rnV L k4 f4 0 3
  let x : (Int × Int × Int × Int × Bool × Bool) := (rnV L s.1 s.2.1 0 63, ruV L k1 f1, rnV L k2 f2 1 4, rnV L k3 f3 0 4296015872, decide (n % 2 = 1), decide (2 ≤ n))
  (rnK L k4 f4 0 3, failF (rnF L k4 f4 0 3) (oneV x.1 x.2.1 x.2.2.1 x.2.2.2.1 x.2.2.2.2.1 x.2.2.2.2.2 (decide (x.1 ∈ s.2.2.map (·.1)))) (atF s.2.1 s.1), s.2.2 ++ [x])
theorem rosRd1_eq {L : List Nat} {s : Nat × Option (Int × Int) × List (Int × Int × Int × Int × Bool × Bool)} {k k1 k2 k3 k4 k5 : Nat} {f f1 f2 f3 f4 f5 : Option (Int × Int)} {out : List (Int × Int × Int × Int × Bool × Bool)} {x0 x1 x2 x3 n ev : Int} {x4 x5 : Bool} (hs : s = (k, f, out))
    (a1 : x0 = rnV L k f 0 63) (a2 : k1 = rnK L k f 0 63) (a3 : f1 = rnF L k f 0 63) (b1 : x1 = ruV L k1 f1) (b2 : k2 = ruK L k1 f1) (b3 : f2 = ruF L k1 f1) (c1 : x2 = rnV L k2 f2 1 4) (c2 : k3 = rnK L k2 f2 1 4) (c3 : f3 = rnF L k2 f2 1 4)
    (d1 : x3 = rnV L k3 f3 0 4296015872) (d2 : k4 = rnK L k3 f3 0 4296015872) (d3 : f4 = rnF L k3 f3 0 4296015872) (e1 : n = rnV L k4 f4 0 3) (e2 : k5 = rnK L k4 f4 0 3) (e3 : f5 = rnF L k4 f4 0 3) (h4 : x4 = decide (n % 2 = 1)) (h5 : x5 = decide (2 ≤ n))
    (he : ev = oneV x0 x1 x2 x3 x4 x5 (decide (x0 ∈ out.map (·.1)))) : rosRd1 L s = (k5, failF f5 ev (atF f k), out ++ [(x0, x1, x2, x3, x4, x5)]) := by
  subst hs; subst a1; subst a2; subst a3; subst b1; subst b2; subst b3; subst c1; subst c2; subst c3; subst d1; subst d2; subst d3; subst e1; subst e2; subst e3; subst h4; subst h5; subst he
  rfl
def rosRd (L : List Nat) (s : Nat × Option (Int × Int) × List (Int × Int × Int × Int × Bool × Bool)) : Nat → Nat × Option (Int × Int) × List (Int × Int × Int × Int × Bool × Bool)
  | 0 => s
  | j + 1 => rosRd1 L (rosRd L s j)
theorem rosRd_len (L : List Nat) (s : Nat × Option (Int × Int) × List (Int × Int × Int × Int × Bool × Bool)) : ∀ j, (rosRd L s j).2.2.length = s.2.2.length + j
  | 0 => rfl
  | j + 1 => by rw [rosRd, rosRd1]; simp only [List.length_append, rosRd_len L s j, List.length_singleton]; omega
/-- the state behind the count -/
def rosS0 (L : List Nat) : Nat × Option (Int × Int) × List (Int × Int × Int × Int × Bool × Bool) := (rnK L 0 none 0 32, rnF L 0 none 0 32, [])
def rosEnd (L : List Nat) (s : Nat × Option (Int × Int) × List (Int × Int × Int × Int × Bool × Bool)) : List (Int × Int × Int × Int × Bool × Bool) × Int × Int := if (endF s.2.1 s.1 L.length).1 = 0 then (s.2.2, 0, 0) else ([], endF s.2.1 s.1 L.length)
def rosRV (L : List Nat) : List (Int × Int × Int × Int × Bool × Bool) × Int × Int := rosEnd L (rosRd L (rosS0 L) (rnV L 0 none 0 32).toNat)
theorem cEnd_e (g k : Nat) (L : List Nat) (flt : Option (Int × Int)) (e a : Int) (w : World) (h : Rd w g L k flt) (hL : L.length < 1099511627776) (he : (e, a) = endF flt k L.length) :
    Calls Try.prog 115 #[.pointer (some ⟨g, 0, none⟩)] w fun r w' => r = .returned (.agg #[.int .i64 e, .int .i64 a]) ∧ Ext w w' := by
  have h := cEnd_any g k L flt w h hL
  rw [← he] at h
  exact h
theorem rEnd_e (g k : Nat) (L : List Nat) (flt : Option (Int × Int)) (e a : Int) (w : World) (h : RRd w g L k flt) (hL : L.length < 1099511627776) (he : (e, a) = endF flt k L.length) :
    Calls Try.prog 119 #[.pointer (some ⟨g, 0, none⟩)] w fun r w' => r = .returned (.agg #[.int .i64 e, .int .i64 a]) ∧ Ext w w' := by
  have h := rEnd_any g k L flt w h hL
  rw [← he] at h
  exact h
theorem bit_1 (n : Int) (h0 : 0 ≤ n) (h1 : n ≤ 3) : (bits BinOp.and IntKind.i64 n 1 == 1) = decide (n % 2 = 1) := by
  have h : n = 0 ∨ n = 1 ∨ n = 2 ∨ n = 3 := by omega
  rcases h with rfl | rfl | rfl | rfl <;> decide
theorem bit_2 (n : Int) (h0 : 0 ≤ n) (h1 : n ≤ 3) : (bits BinOp.and IntKind.i64 n 2 == 2) = decide (2 ≤ n) := by
  have h : n = 0 ∨ n = 1 ∨ n = 2 ∨ n = 3 := by omega
  rcases h with rfl | rfl | rfl | rfl <;> decide
set_option maxRecDepth 100000 in
set_option maxHeartbeats 4000000 in
theorem rosRead_any (A : Option Addr) (c : Nat) (L : List Nat) (hB : Byt L) (hL : L.length < 1099511627776) (hnil : A = none → c = 0) (w : World) (hs : Sl w 1 A L.length c (by_ L)) :
    Calls Try.prog 78 #[.slice A L.length c] w (RetV (rosRV L).1 [.agg #[.int .i64 (rosRV L).2.1, .int .i64 (rosRV L).2.2]] w) := by
  have s1 := hs.small
  obtain ⟨R, hR⟩ : ∃ R, R = rosRV L := ⟨_, rfl⟩
  rw [← hR]
  have HR0 := Lib.hid hR
  obtain ⟨nn, hnn⟩ : ∃ v, v = rnV L 0 none 0 32 := ⟨_, rfl⟩
  obtain ⟨hn0, hn1⟩ : 0 ≤ nn ∧ nn ≤ 32 := by rw [hnn]; exact rnV_in L 0 none 0 32 (by decide)
  obtain ⟨N, rfl⟩ : ∃ N : Nat, nn = (N : Int) := ⟨nn.toNat, by omega⟩
  have HNN := Lib.hid hnn
  have HBy := Lib.hid hB
  have HS := Lib.hid hs
  obtain ⟨i0, hi0, hz0, hz1, hz2⟩ := info_parts val_info
  have hmm := @run_makeMap Try.prog
  clear hs hR hnn hB
  go_enter Try.func78, Try.ntmps78
  go_wp2_with fail
  (with_reducible refine (cNewReader_any A c L HBy.out _ (HS.out.ext (by repeat (first | with_reducible exact Ext.refl _ | with_reducible refine Ext.drew ?_ | with_reducible refine Ext.drewN ?_ _ | with_reducible refine Ext.alloc ?_ _ | with_reducible refine Ext.setCell ?_ (by first | omega | (simp; done) | (simp; omega)) _))) hL hnil).mono ?_)
  rintro e w1 ⟨g, rfl, hg, hRd, hx1⟩
  have c0_0f : w1.frozen? ⟨w.heap.size, 0, none⟩ = false := hx1.froz (v := .int .i64 0) (by first | fail | (simp [go_sem, World.cell?_alloc_past]; done)) (by first | fail | (simp [go_sem, World.cell?_alloc_past]; done))
  have c0_1f : w1.frozen? ⟨w.heap.size, 1, none⟩ = false := hx1.froz (v := .int .i64 0) (by first | fail | (simp [go_sem, World.cell?_alloc_past]; done)) (by first | fail | (simp [go_sem, World.cell?_alloc_past]; done))
  have c0_0 : w1.cell? ⟨w.heap.size, 0, none⟩ = some (.int .i64 0) := hx1.has (by first | fail | (simp [go_sem, World.cell?_alloc_past]; done))
  have c0_1 : w1.cell? ⟨w.heap.size, 1, none⟩ = some (.int .i64 0) := hx1.has (by first | fail | (simp [go_sem, World.cell?_alloc_past]; done))
  have z1 := hx1.size
  try simp at z1
  have rc0 : w.heap.size < w1.heap.size := by omega
  have rc0a : w.heap.size < w1.heap.size + 1 := by omega
  have rc0b : w.heap.size < w1.heap.size + 1 + 1 := by omega
  have rc0c : w.heap.size < w1.heap.size + 1 + 1 + 1 := by omega
  have rc0n : ¬ w.heap.size = w1.heap.size := by omega
  have X1 : Hid (Ext w w1) := Lib.hid (Ext.trans (by repeat (first | with_reducible exact Ext.refl w | with_reducible refine Ext.drew ?_ | with_reducible refine Ext.drewN ?_ _ | with_reducible refine Ext.alloc ?_ _ | with_reducible refine Ext.setCell ?_ (by first | omega | (simp; done) | (simp; omega)) _)) hx1)
  have HR := Lib.hid hRd
  clear HS hx1 z1 hRd
  have hgw : w.heap.size < g := by (try simp at hg); omega
  have hgl := HR.out.lt
  go_wp2_with fail
  (with_reducible refine (cRN_e g 0 (rosS0 L).1 L none (rosS0 L).2.1 0 32 (N : Int) (by decide) (by decide) (by decide) (by decide) hL HNN.out rfl rfl _ (HR.out.ext (by repeat (first | with_reducible exact Ext.refl _ | with_reducible refine Ext.drew ?_ | with_reducible refine Ext.drewN ?_ _ | with_reducible refine Ext.alloc ?_ _ | with_reducible refine Ext.setCell ?_ (by first | omega | (simp; done) | (simp; omega)) _)))).mono ?_)
  rintro e w2 ⟨rfl, hRd, hx2⟩
  have hsz2 := hx2.size
  try simp at hsz2
  replace c0_0f : w2.frozen? ⟨w.heap.size, 0, none⟩ = false := hx2.froz (by show ¬ _ = _; first | assumption | omega) (v := .int .i64 0) (by first | exact c0_0 | (simp [go_sem, World.cell?_alloc_past, c0_0f, c0_1f, c0_0, c0_1, rc0, rc0a, rc0b, rc0c, rc0n]; done)) (by first | exact c0_0f | (simp [go_sem, World.cell?_alloc_past, c0_0f, c0_1f, c0_0, c0_1, rc0, rc0a, rc0b, rc0c, rc0n]; done))
  replace c0_1f : w2.frozen? ⟨w.heap.size, 1, none⟩ = false := hx2.froz (by show ¬ _ = _; first | assumption | omega) (v := .int .i64 0) (by first | exact c0_1 | (simp [go_sem, World.cell?_alloc_past, c0_0f, c0_1f, c0_0, c0_1, rc0, rc0a, rc0b, rc0c, rc0n]; done)) (by first | exact c0_1f | (simp [go_sem, World.cell?_alloc_past, c0_0f, c0_1f, c0_0, c0_1, rc0, rc0a, rc0b, rc0c, rc0n]; done))
  replace c0_0 : w2.cell? ⟨w.heap.size, 0, none⟩ = some (.int .i64 0) := hx2.has (by show ¬ _ = _; first | assumption | omega) (by first | exact c0_0 | (simp [go_sem, World.cell?_alloc_past, c0_0f, c0_1f, c0_0, c0_1, rc0, rc0a, rc0b, rc0c, rc0n]; done))
  replace c0_1 : w2.cell? ⟨w.heap.size, 1, none⟩ = some (.int .i64 0) := hx2.has (by show ¬ _ = _; first | assumption | omega) (by first | exact c0_1 | (simp [go_sem, World.cell?_alloc_past, c0_0f, c0_1f, c0_0, c0_1, rc0, rc0a, rc0b, rc0c, rc0n]; done))
  have z2 := hx2.size
  try simp at z2
  replace rc0 : w.heap.size < w2.heap.size := by omega
  replace rc0a : w.heap.size < w2.heap.size + 1 := by omega
  replace rc0b : w.heap.size < w2.heap.size + 1 + 1 := by omega
  replace rc0c : w.heap.size < w2.heap.size + 1 + 1 + 1 := by omega
  replace rc0n : ¬ w.heap.size = w2.heap.size := by omega
  have X2 : Hid (Ext w w2) := Lib.hid (have hX := (show Ext w _ from (by repeat (first | with_reducible exact X1.out | with_reducible refine Ext.drew ?_ | with_reducible refine Ext.drewN ?_ _ | with_reducible refine Ext.alloc ?_ _ | with_reducible refine Ext.setCell ?_ (by first | omega | (simp; done) | (simp; omega)) _))); Below.trans hX (hx2.below (Ext.size hX) (fun k hk hh => by have hh2 : k = g := hh; omega)))
  clear HR
  have HR := Lib.hid hRd
  have HSe := Lib.hid (Seen.but (Seen.made _) hx2 (by show ¬ w1.heap.size = g; omega))
  clear hsz2 X1 hx2 z2 hRd
  have hgl2 := HR.out.lt
  have hbl := HSe.out.lt
  go_wp2_with fail
  go_loopg [5, 17] N (fun gh q i wx => gh ≤ N ∧ i = .int .i64 ((N - gh : Nat) : Int) ∧ Hid (Rd wx g L (rosRd L (rosS0 L) (N - gh)).1 (rosRd L (rosS0 L) (N - gh)).2.1) ∧ Hid (wx.ownsRow (g + 1) 96 6 q (rosRd L (rosS0 L) (N - gh)).2.2.length ((rosRd L (rosS0 L) (N - gh)).2.2.flatMap valC)) ∧ Hid (Seen wx w1.heap.size ((rosRd L (rosS0 L) (N - gh)).2.2.map (·.1))) ∧ (wx.cell? ⟨w.heap.size, 0, none⟩ = some (.int .i64 0) ∧ wx.cell? ⟨w.heap.size, 1, none⟩ = some (.int .i64 0) ∧ wx.frozen? ⟨w.heap.size, 0, none⟩ = false ∧ wx.frozen? ⟨w.heap.size, 1, none⟩ = false) ∧ Ext w wx)
  case atStart => exact ⟨Nat.le_refl _, by simp, by rw [Nat.sub_self]; exact HR, by rw [Nat.sub_self]; exact Lib.hid (World.ownsRow_nil _ _ _ _), by rw [Nat.sub_self]; exact HSe, ⟨c0_0, c0_1, c0_0f, c0_1f⟩, X2.out⟩
  case round =>
    obtain ⟨hg, hi, hr, ho, hse, ⟨y_0, y_1, y_0f, y_1f⟩, hx⟩ := hrel
    obtain ⟨j, hj⟩ : ∃ j, j = N - gk := ⟨_, rfl⟩
    rw [← hj] at hi hr ho hse
    subst hi
    have XR := Lib.hid hx
    have hyr : w.heap.size < wr.heap.size := cell_lt y_0
    obtain ⟨s, hs⟩ : ∃ s, s = rosRd L (rosS0 L) j := ⟨_, rfl⟩
    rw [← hs] at hr ho hse
    have hlen : s.2.2.length = j := by rw [hs, rosRd_len]; simp [rosS0]
    by_cases hz : gk = 0
    · have hkn : ¬ (j : Int) < N := by omega
      have hjn : j = N := by omega
      have hE0 : R = rosEnd L s := by rw [HR0.out, hs, hjn]; unfold rosRV; rw [← HNN.out, show ((N : Int)).toNat = N from by simp]
      obtain ⟨k, f, out⟩ := s
      obtain ⟨⟨e, a⟩, hea⟩ : ∃ E, E = endF f k L.length := ⟨_, rfl⟩
      unfold rosEnd at hE0
      simp only at hE0 hr ho
      rw [← hea] at hE0
      have HEA := Lib.hid hea
      have HE := Lib.hid hE0
      have HRd := hr
      have HO := Lib.hid (OwnR.mk ho.out)
      clear hx hj hg hz hs hjn hse hlen hea hE0 hr ho
      go_wp2_with fail
      (with_reducible refine (cEnd_e g k L f e a _ (HRd.out.ext (by repeat (first | with_reducible exact Ext.refl _ | with_reducible refine Ext.drew ?_ | with_reducible refine Ext.drewN ?_ _ | with_reducible refine Ext.alloc ?_ _ | with_reducible refine Ext.setCell ?_ (by first | omega | (simp; done) | (simp; omega)) _))) hL HEA.out).mono ?_)
      rintro e w41 ⟨rfl, hx41⟩
      replace y_0f : w41.frozen? ⟨w.heap.size, 0, none⟩ = false := hx41.froz (v := .int .i64 0) (by first | exact y_0 | (simp [go_sem, World.cell?_alloc_past, y_0, y_0f, y_1, y_1f]; done)) (by first | exact y_0f | (simp [go_sem, World.cell?_alloc_past, y_0, y_0f, y_1, y_1f]; done))
      replace y_1f : w41.frozen? ⟨w.heap.size, 1, none⟩ = false := hx41.froz (v := .int .i64 0) (by first | exact y_1 | (simp [go_sem, World.cell?_alloc_past, y_0, y_0f, y_1, y_1f]; done)) (by first | exact y_1f | (simp [go_sem, World.cell?_alloc_past, y_0, y_0f, y_1, y_1f]; done))
      replace y_0 : w41.cell? ⟨w.heap.size, 0, none⟩ = some (.int .i64 0) := hx41.has (by first | exact y_0 | (simp [go_sem, World.cell?_alloc_past, y_0, y_0f, y_1, y_1f]; done))
      replace y_1 : w41.cell? ⟨w.heap.size, 1, none⟩ = some (.int .i64 0) := hx41.has (by first | exact y_1 | (simp [go_sem, World.cell?_alloc_past, y_0, y_0f, y_1, y_1f]; done))
      have z41 := hx41.size
      try simp at z41
      have ry : w.heap.size < w41.heap.size := by omega
      have rya : w.heap.size < w41.heap.size + 1 := by omega
      have ryb : w.heap.size < w41.heap.size + 1 + 1 := by omega
      have ryc : w.heap.size < w41.heap.size + 1 + 1 + 1 := by omega
      have ryn : ¬ w.heap.size = w41.heap.size := by omega
      replace HRd := Lib.hid (HRd.out.ext (Ext.trans (by repeat (first | with_reducible exact Ext.refl _ | with_reducible refine Ext.drew ?_ | with_reducible refine Ext.drewN ?_ _ | with_reducible refine Ext.alloc ?_ _ | with_reducible refine Ext.setCell ?_ (by first | omega | (simp; done) | (simp; omega)) _)) hx41))
      replace HO := Lib.hid (HO.out.ext (Ext.trans (by repeat (first | with_reducible exact Ext.refl _ | with_reducible refine Ext.drew ?_ | with_reducible refine Ext.drewN ?_ _ | with_reducible refine Ext.alloc ?_ _ | with_reducible refine Ext.setCell ?_ (by first | omega | (simp; done) | (simp; omega)) _)) hx41))
      have X41 : Hid (Ext w w41) := Lib.hid (Ext.trans (by repeat (first | with_reducible exact XR.out | with_reducible refine Ext.drew ?_ | with_reducible refine Ext.drewN ?_ _ | with_reducible refine Ext.alloc ?_ _ | with_reducible refine Ext.setCell ?_ (by first | omega | (simp; done) | (simp; omega)) _)) hx41)
      clear XR hx41 z41
      by_cases he : e ≠ 0
      · have e7 : (e != 0) = true := by simpa using he
        go_wp2_with fail
        refine wp_region_held_drew (S := fun w' => w'.cell? ⟨w41.heap.size, 0, none⟩ = some (.int .i64 e) ∧ w'.cell? ⟨w41.heap.size, 1, none⟩ = some (.int .i64 a)) (by kernel_rfl) (by first | exact ⟨c0_0, c0_1⟩ | (simp [go_sem, World.cell?_alloc_past, y_0f, y_1f, y_0, y_1, ry, rya, ryb, ryc, ryn]; done)) (fun hHeld => ?_)
        (refine' take_in 0 rfl (by kernel_rfl) (by kernel_rfl) (by kernel_rfl) (fun _ _ _ h => h) (by rfl) (by assumption) ?_ ?_; rotate_left; focus (intro w hSw; (try dsimp only at hSw); go_simp; try with_reducible rfl)); try simp only [Act.put, List.setIfInBounds_toArray, List.set_cons_zero, List.set_cons_succ]
        (refine' take_in 1 rfl (by kernel_rfl) (by kernel_rfl) (by kernel_rfl) (fun _ _ _ h => h) (by rfl) (by assumption) ?_ ?_; rotate_left; focus (intro w hSw; (try dsimp only at hSw); go_simp; try with_reducible rfl)); try simp only [Act.put, List.setIfInBounds_toArray, List.set_cons_zero, List.set_cons_succ]
        refine' next_in 2 rfl (by kernel_rfl) (by rfl) (fun K hK => ?_)
        go_simp
        refine hK.out _ _ (by (first | exact ⟨c0_0, c0_1⟩ | (simp [go_sem, World.cell?_alloc_past, y_0f, y_1f, y_0, y_1, ry, rya, ryb, ryc, ryn]; done))) (fun hHeld => ?_); clear hK K; try simp only [Act.put, List.setIfInBounds_toArray, List.set_cons_zero, List.set_cons_succ]
        refine wpAnyH_done (by kernel_rfl) ?_ _
        obtain rfl : R = ([], e, a) := HE.out.trans (if_neg he)
        go_wp2_with fail
        refine bodyPost_ret (v := .tuple #[.slice none 0 0, .agg #[.int .i64 e, .int .i64 a]]) (by simp [results, Try.results78, go_sem, World.cell?_alloc_past, y_0f, y_1f, y_0, y_1, ry, rya, ryb, ryc, ryn]; try rfl) rfl (RetV.nil (xs := [.agg #[.int .i64 e, .int .i64 a]]) ?_)
        exact (by repeat (first | with_reducible exact X41.out | with_reducible refine Ext.drew ?_ | with_reducible refine Ext.drewN ?_ _ | with_reducible refine Ext.alloc ?_ _ | with_reducible refine Ext.setCell ?_ (by first | omega | (simp; done) | (simp; omega)) _))
      · have e7 : (e != 0) = false := by simpa using he
        obtain rfl : R = (out, 0, 0) := HE.out.trans (if_pos (by simpa using he))
        go_wp2_with fail
        refine bodyPost_ret (v := .tuple #[u5, .agg #[.int .i64 0, .int .i64 0]]) (by simp [results, Try.results78, go_sem, World.cell?_alloc_past, y_0f, y_1f, y_0, y_1, ry, rya, ryb, ryc, ryn]; try rfl) rfl (RetV.mk (n := out.length) (xs := [.agg #[.int .i64 0, .int .i64 0]]) ?_ (by repeat (first | with_reducible exact X41.out | with_reducible refine Ext.drew ?_ | with_reducible refine Ext.drewN ?_ _ | with_reducible refine Ext.alloc ?_ _ | with_reducible refine Ext.setCell ?_ (by first | omega | (simp; done) | (simp; omega)) _)) rfl)
        exact own_lower (own_but (S := fun j => j = w.heap.size ∨ w41.heap.size ≤ j) HO.out.own (by repeat (first | with_reducible exact But.refl _ _ | with_reducible refine But.drew ?_ | with_reducible refine But.drewN ?_ _ | with_reducible refine But.alloc ?_ _ | with_reducible refine But.setCell ?_ (by first | exact Or.inl rfl | (exact Or.inr (by (show _ ≤ _); omega))) _)) (fun j hj hh => by have h1 := own_block HO.out.own hj; rcases hh with hh | hh <;> omega)) (by omega)
    · have hkn : (j : Int) < N := by omega
      have hjs : (j : Int) ≤ 32 := by omega
      have hnext : rosRd L (rosS0 L) (j + 1) = rosRd1 L s := by rw [rosRd, ← hs]
      obtain ⟨k, f, out⟩ := s
      simp only at hr ho hse hlen
      obtain ⟨x0, hx0⟩ : ∃ v, v = rnV L k f 0 63 := ⟨_, rfl⟩
      obtain ⟨k1, hk1⟩ : ∃ v, v = rnK L k f 0 63 := ⟨_, rfl⟩
      obtain ⟨f1, hf1⟩ : ∃ v, v = rnF L k f 0 63 := ⟨_, rfl⟩
      obtain ⟨x1, hx1⟩ : ∃ v, v = ruV L k1 f1  := ⟨_, rfl⟩
      obtain ⟨k2, hk2⟩ : ∃ v, v = ruK L k1 f1  := ⟨_, rfl⟩
      obtain ⟨f2, hf2⟩ : ∃ v, v = ruF L k1 f1  := ⟨_, rfl⟩
      obtain ⟨x2, hx2⟩ : ∃ v, v = rnV L k2 f2 1 4 := ⟨_, rfl⟩
      obtain ⟨k3, hk3⟩ : ∃ v, v = rnK L k2 f2 1 4 := ⟨_, rfl⟩
      obtain ⟨f3, hf3⟩ : ∃ v, v = rnF L k2 f2 1 4 := ⟨_, rfl⟩
      obtain ⟨x3, hx3⟩ : ∃ v, v = rnV L k3 f3 0 4296015872 := ⟨_, rfl⟩
      obtain ⟨k4, hk4⟩ : ∃ v, v = rnK L k3 f3 0 4296015872 := ⟨_, rfl⟩
      obtain ⟨f4, hf4⟩ : ∃ v, v = rnF L k3 f3 0 4296015872 := ⟨_, rfl⟩
      obtain ⟨n, hn⟩ : ∃ v, v = rnV L k4 f4 0 3 := ⟨_, rfl⟩
      obtain ⟨k5, hk5⟩ : ∃ v, v = rnK L k4 f4 0 3 := ⟨_, rfl⟩
      obtain ⟨f5, hf5⟩ : ∃ v, v = rnF L k4 f4 0 3 := ⟨_, rfl⟩
      obtain ⟨hx0a, hx0b⟩ : 0 ≤ x0 ∧ x0 ≤ 63 := by rw [hx0]; exact rnV_in L k f 0 63 (by decide)
      obtain ⟨hna, hnb⟩ : 0 ≤ n ∧ n ≤ 3 := by rw [hn]; exact rnV_in L k4 f4 0 3 (by decide)
      obtain ⟨x4, hx4⟩ : ∃ b, b = decide (n % 2 = 1) := ⟨_, rfl⟩
      obtain ⟨x5, hx5⟩ : ∃ b, b = decide (2 ≤ n) := ⟨_, rfl⟩
      have q3 : (bits BinOp.and IntKind.i64 n 1 == 1) = x4 := by rw [hx4]; exact bit_1 n hna hnb
      have q4 : (bits BinOp.and IntKind.i64 n 2 == 2) = x5 := by rw [hx5]; exact bit_2 n hna hnb
      obtain ⟨ev, hev⟩ : ∃ v, v = oneV x0 x1 x2 x3 x4 x5 (decide (x0 ∈ out.map (·.1))) := ⟨_, rfl⟩
      have hstep := hnext.trans (rosRd1_eq rfl hx0 hk1 hf1 hx1 hk2 hf2 hx2 hk3 hf3 hx3 hk4 hf4 hn hk5 hf5 hx4 hx5 hev)
      have hwf : (Lit.int .i64 x0).wf = true := by simp [Lit.wf, IntKind.min, IntKind.max, IntKind.bits, IntKind.signed]; omega
      have hwk : (Lit.int .i64 (j : Int)).wf = true := by simp [Lit.wf, IntKind.min, IntKind.max, IntKind.bits, IntKind.signed]; omega
      have hkey : keyOf Try.prog 3 (.int .i64 x0) = some (.int .i64 x0) := keyOf_int_mk Try.underlying3 hwf
      have Gx0 := Lib.hid (And.intro hx0 (And.intro hk1 hf1))
      have Gx1 := Lib.hid (And.intro hx1 (And.intro hk2 hf2))
      have Gx2 := Lib.hid (And.intro hx2 (And.intro hk3 hf3))
      have Gx3 := Lib.hid (And.intro hx3 (And.intro hk4 hf4))
      have Gn := Lib.hid (And.intro hn (And.intro hk5 hf5))
      have GE := Lib.hid hev
      have GS := Lib.hid hstep
      have GL := Lib.hid hlen
      have HK := Lib.hid (And.intro hj (And.intro hg hz))
      have HRd := hr
      have HO := Lib.hid (OwnR.mk ho.out)
      have HSe := hse
      have hbr := hse.out.lt
      clear hx hj hg hz hs hnext hr ho hse hlen hx4 hx5 hev hstep hx0 hk1 hf1 hx1 hk2 hf2 hx2 hk3 hf3 hx3 hk4 hf4 hn hk5 hf5
      go_wp2_with fail
      (with_reducible refine (cAt_any g k L f _ (HRd.out.ext (by repeat (first | with_reducible exact Ext.refl _ | with_reducible refine Ext.drew ?_ | with_reducible refine Ext.drewN ?_ _ | with_reducible refine Ext.alloc ?_ _ | with_reducible refine Ext.setCell ?_ (by first | omega | (simp; done) | (simp; omega)) _)))).mono ?_)
      rintro e w_1 ⟨rfl, rfl⟩
      go_wp2_with fail
      (with_reducible refine (cRN_e g k k1 L f f1 0 63 x0 (by decide) (by decide) (by decide) (by decide) hL Gx0.out.1 Gx0.out.2.1 Gx0.out.2.2 _ (HRd.out.ext (by repeat (first | with_reducible exact Ext.refl _ | with_reducible refine Ext.drew ?_ | with_reducible refine Ext.drewN ?_ _ | with_reducible refine Ext.alloc ?_ _ | with_reducible refine Ext.setCell ?_ (by first | omega | (simp; done) | (simp; omega)) _)))).mono ?_)
      rintro e w51 ⟨rfl, hRd, hx51⟩
      have hsz51 := hx51.size
      try simp at hsz51
      replace y_0f : w51.frozen? ⟨w.heap.size, 0, none⟩ = false := hx51.froz (by show ¬ _ = _; first | assumption | omega) (v := .int .i64 0) (by first | exact y_0 | (simp [go_sem, World.cell?_alloc_past, y_0, y_0f, y_1, y_1f]; done)) (by first | exact y_0f | (simp [go_sem, World.cell?_alloc_past, y_0, y_0f, y_1, y_1f]; done))
      replace y_1f : w51.frozen? ⟨w.heap.size, 1, none⟩ = false := hx51.froz (by show ¬ _ = _; first | assumption | omega) (v := .int .i64 0) (by first | exact y_1 | (simp [go_sem, World.cell?_alloc_past, y_0, y_0f, y_1, y_1f]; done)) (by first | exact y_1f | (simp [go_sem, World.cell?_alloc_past, y_0, y_0f, y_1, y_1f]; done))
      replace y_0 : w51.cell? ⟨w.heap.size, 0, none⟩ = some (.int .i64 0) := hx51.has (by show ¬ _ = _; first | assumption | omega) (by first | exact y_0 | (simp [go_sem, World.cell?_alloc_past, y_0, y_0f, y_1, y_1f]; done))
      replace y_1 : w51.cell? ⟨w.heap.size, 1, none⟩ = some (.int .i64 0) := hx51.has (by show ¬ _ = _; first | assumption | omega) (by first | exact y_1 | (simp [go_sem, World.cell?_alloc_past, y_0, y_0f, y_1, y_1f]; done))
      have z51 := hx51.size
      try simp at z51
      have ry : w.heap.size < w51.heap.size := by omega
      have rya : w.heap.size < w51.heap.size + 1 := by omega
      have ryb : w.heap.size < w51.heap.size + 1 + 1 := by omega
      have ryc : w.heap.size < w51.heap.size + 1 + 1 + 1 := by omega
      have ryn : ¬ w.heap.size = w51.heap.size := by omega
      have X51 : Hid (Ext w w51) := Lib.hid (have hX := (show Ext w _ from (by repeat (first | with_reducible exact XR.out | with_reducible refine Ext.drew ?_ | with_reducible refine Ext.drewN ?_ _ | with_reducible refine Ext.alloc ?_ _ | with_reducible refine Ext.setCell ?_ (by first | omega | (simp; done) | (simp; omega)) _))); Below.trans hX (hx51.below (Ext.size hX) (fun k hk hh => by have hh2 : k = g := hh; omega)))
      replace HO := Lib.hid (OwnR.but (OwnR.butN HO.out (by repeat (first | with_reducible exact But.refl _ _ | with_reducible refine But.drew ?_ | with_reducible refine But.drewN ?_ _ | with_reducible refine But.alloc ?_ _ | with_reducible refine But.setCell ?_ (by first | exact Nat.le_refl _ | (dsimp only; omega)) _ | with_reducible refine But.setNew ?_ (by first | omega | (simp; done) | (simp; omega)) _))) hx51 (by intro j h1 h2 hh; have h3 : j = g := hh; omega))
      replace HSe := Lib.hid (Seen.but (Seen.butN HSe.out (by repeat (first | with_reducible exact But.refl _ _ | with_reducible refine But.drew ?_ | with_reducible refine But.drewN ?_ _ | with_reducible refine But.alloc ?_ _ | with_reducible refine But.setCell ?_ (by first | exact Nat.le_refl _ | (dsimp only; omega)) _ | with_reducible refine But.setNew ?_ (by first | omega | (simp; done) | (simp; omega)) _))) hx51 (by show ¬ w1.heap.size = g; omega))
      clear HRd
      have HRd := Lib.hid hRd
      clear hsz51 XR hx51 z51 hRd
      go_wp2_with fail
      (with_reducible refine (cU_e g k1 k2 L f1 f2 x1 hL Gx1.out.1 Gx1.out.2.1 Gx1.out.2.2 _ (HRd.out.ext (by repeat (first | with_reducible exact Ext.refl _ | with_reducible refine Ext.drew ?_ | with_reducible refine Ext.drewN ?_ _ | with_reducible refine Ext.alloc ?_ _ | with_reducible refine Ext.setCell ?_ (by first | omega | (simp; done) | (simp; omega)) _)))).mono ?_)
      rintro e w52 ⟨rfl, hRd, hx52⟩
      have hsz52 := hx52.size
      try simp at hsz52
      replace y_0f : w52.frozen? ⟨w.heap.size, 0, none⟩ = false := hx52.froz (by show ¬ _ = _; first | assumption | omega) (v := .int .i64 0) (by first | exact y_0 | (simp [go_sem, World.cell?_alloc_past, y_0f, y_1f, y_0, y_1, ry, rya, ryb, ryc, ryn]; done)) (by first | exact y_0f | (simp [go_sem, World.cell?_alloc_past, y_0f, y_1f, y_0, y_1, ry, rya, ryb, ryc, ryn]; done))
      replace y_1f : w52.frozen? ⟨w.heap.size, 1, none⟩ = false := hx52.froz (by show ¬ _ = _; first | assumption | omega) (v := .int .i64 0) (by first | exact y_1 | (simp [go_sem, World.cell?_alloc_past, y_0f, y_1f, y_0, y_1, ry, rya, ryb, ryc, ryn]; done)) (by first | exact y_1f | (simp [go_sem, World.cell?_alloc_past, y_0f, y_1f, y_0, y_1, ry, rya, ryb, ryc, ryn]; done))
      replace y_0 : w52.cell? ⟨w.heap.size, 0, none⟩ = some (.int .i64 0) := hx52.has (by show ¬ _ = _; first | assumption | omega) (by first | exact y_0 | (simp [go_sem, World.cell?_alloc_past, y_0f, y_1f, y_0, y_1, ry, rya, ryb, ryc, ryn]; done))
      replace y_1 : w52.cell? ⟨w.heap.size, 1, none⟩ = some (.int .i64 0) := hx52.has (by show ¬ _ = _; first | assumption | omega) (by first | exact y_1 | (simp [go_sem, World.cell?_alloc_past, y_0f, y_1f, y_0, y_1, ry, rya, ryb, ryc, ryn]; done))
      have z52 := hx52.size
      try simp at z52
      replace ry : w.heap.size < w52.heap.size := by omega
      replace rya : w.heap.size < w52.heap.size + 1 := by omega
      replace ryb : w.heap.size < w52.heap.size + 1 + 1 := by omega
      replace ryc : w.heap.size < w52.heap.size + 1 + 1 + 1 := by omega
      replace ryn : ¬ w.heap.size = w52.heap.size := by omega
      have X52 : Hid (Ext w w52) := Lib.hid (have hX := (show Ext w _ from (by repeat (first | with_reducible exact X51.out | with_reducible refine Ext.drew ?_ | with_reducible refine Ext.drewN ?_ _ | with_reducible refine Ext.alloc ?_ _ | with_reducible refine Ext.setCell ?_ (by first | omega | (simp; done) | (simp; omega)) _))); Below.trans hX (hx52.below (Ext.size hX) (fun k hk hh => by have hh2 : k = g := hh; omega)))
      replace HO := Lib.hid (OwnR.but (OwnR.butN HO.out (by repeat (first | with_reducible exact But.refl _ _ | with_reducible refine But.drew ?_ | with_reducible refine But.drewN ?_ _ | with_reducible refine But.alloc ?_ _ | with_reducible refine But.setCell ?_ (by first | exact Nat.le_refl _ | (dsimp only; omega)) _ | with_reducible refine But.setNew ?_ (by first | omega | (simp; done) | (simp; omega)) _))) hx52 (by intro j h1 h2 hh; have h3 : j = g := hh; omega))
      replace HSe := Lib.hid (Seen.but (Seen.butN HSe.out (by repeat (first | with_reducible exact But.refl _ _ | with_reducible refine But.drew ?_ | with_reducible refine But.drewN ?_ _ | with_reducible refine But.alloc ?_ _ | with_reducible refine But.setCell ?_ (by first | exact Nat.le_refl _ | (dsimp only; omega)) _ | with_reducible refine But.setNew ?_ (by first | omega | (simp; done) | (simp; omega)) _))) hx52 (by show ¬ w1.heap.size = g; omega))
      clear HRd
      have HRd := Lib.hid hRd
      clear hsz52 X51 hx52 z52 hRd
      go_wp2_with fail
      (with_reducible refine (cRN_e g k2 k3 L f2 f3 1 4 x2 (by decide) (by decide) (by decide) (by decide) hL Gx2.out.1 Gx2.out.2.1 Gx2.out.2.2 _ (HRd.out.ext (by repeat (first | with_reducible exact Ext.refl _ | with_reducible refine Ext.drew ?_ | with_reducible refine Ext.drewN ?_ _ | with_reducible refine Ext.alloc ?_ _ | with_reducible refine Ext.setCell ?_ (by first | omega | (simp; done) | (simp; omega)) _)))).mono ?_)
      rintro e w53 ⟨rfl, hRd, hx53⟩
      have hsz53 := hx53.size
      try simp at hsz53
      replace y_0f : w53.frozen? ⟨w.heap.size, 0, none⟩ = false := hx53.froz (by show ¬ _ = _; first | assumption | omega) (v := .int .i64 0) (by first | exact y_0 | (simp [go_sem, World.cell?_alloc_past, y_0f, y_1f, y_0, y_1, ry, rya, ryb, ryc, ryn]; done)) (by first | exact y_0f | (simp [go_sem, World.cell?_alloc_past, y_0f, y_1f, y_0, y_1, ry, rya, ryb, ryc, ryn]; done))
      replace y_1f : w53.frozen? ⟨w.heap.size, 1, none⟩ = false := hx53.froz (by show ¬ _ = _; first | assumption | omega) (v := .int .i64 0) (by first | exact y_1 | (simp [go_sem, World.cell?_alloc_past, y_0f, y_1f, y_0, y_1, ry, rya, ryb, ryc, ryn]; done)) (by first | exact y_1f | (simp [go_sem, World.cell?_alloc_past, y_0f, y_1f, y_0, y_1, ry, rya, ryb, ryc, ryn]; done))
      replace y_0 : w53.cell? ⟨w.heap.size, 0, none⟩ = some (.int .i64 0) := hx53.has (by show ¬ _ = _; first | assumption | omega) (by first | exact y_0 | (simp [go_sem, World.cell?_alloc_past, y_0f, y_1f, y_0, y_1, ry, rya, ryb, ryc, ryn]; done))
      replace y_1 : w53.cell? ⟨w.heap.size, 1, none⟩ = some (.int .i64 0) := hx53.has (by show ¬ _ = _; first | assumption | omega) (by first | exact y_1 | (simp [go_sem, World.cell?_alloc_past, y_0f, y_1f, y_0, y_1, ry, rya, ryb, ryc, ryn]; done))
      have z53 := hx53.size
      try simp at z53
      replace ry : w.heap.size < w53.heap.size := by omega
      replace rya : w.heap.size < w53.heap.size + 1 := by omega
      replace ryb : w.heap.size < w53.heap.size + 1 + 1 := by omega
      replace ryc : w.heap.size < w53.heap.size + 1 + 1 + 1 := by omega
      replace ryn : ¬ w.heap.size = w53.heap.size := by omega
      have X53 : Hid (Ext w w53) := Lib.hid (have hX := (show Ext w _ from (by repeat (first | with_reducible exact X52.out | with_reducible refine Ext.drew ?_ | with_reducible refine Ext.drewN ?_ _ | with_reducible refine Ext.alloc ?_ _ | with_reducible refine Ext.setCell ?_ (by first | omega | (simp; done) | (simp; omega)) _))); Below.trans hX (hx53.below (Ext.size hX) (fun k hk hh => by have hh2 : k = g := hh; omega)))
      replace HO := Lib.hid (OwnR.but (OwnR.butN HO.out (by repeat (first | with_reducible exact But.refl _ _ | with_reducible refine But.drew ?_ | with_reducible refine But.drewN ?_ _ | with_reducible refine But.alloc ?_ _ | with_reducible refine But.setCell ?_ (by first | exact Nat.le_refl _ | (dsimp only; omega)) _ | with_reducible refine But.setNew ?_ (by first | omega | (simp; done) | (simp; omega)) _))) hx53 (by intro j h1 h2 hh; have h3 : j = g := hh; omega))
      replace HSe := Lib.hid (Seen.but (Seen.butN HSe.out (by repeat (first | with_reducible exact But.refl _ _ | with_reducible refine But.drew ?_ | with_reducible refine But.drewN ?_ _ | with_reducible refine But.alloc ?_ _ | with_reducible refine But.setCell ?_ (by first | exact Nat.le_refl _ | (dsimp only; omega)) _ | with_reducible refine But.setNew ?_ (by first | omega | (simp; done) | (simp; omega)) _))) hx53 (by show ¬ w1.heap.size = g; omega))
      clear HRd
      have HRd := Lib.hid hRd
      clear hsz53 X52 hx53 z53 hRd
      go_wp2_with fail
      (with_reducible refine (cRN_e g k3 k4 L f3 f4 0 4296015872 x3 (by decide) (by decide) (by decide) (by decide) hL Gx3.out.1 Gx3.out.2.1 Gx3.out.2.2 _ (HRd.out.ext (by repeat (first | with_reducible exact Ext.refl _ | with_reducible refine Ext.drew ?_ | with_reducible refine Ext.drewN ?_ _ | with_reducible refine Ext.alloc ?_ _ | with_reducible refine Ext.setCell ?_ (by first | omega | (simp; done) | (simp; omega)) _)))).mono ?_)
      rintro e w54 ⟨rfl, hRd, hx54⟩
      have hsz54 := hx54.size
      try simp at hsz54
      replace y_0f : w54.frozen? ⟨w.heap.size, 0, none⟩ = false := hx54.froz (by show ¬ _ = _; first | assumption | omega) (v := .int .i64 0) (by first | exact y_0 | (simp [go_sem, World.cell?_alloc_past, y_0f, y_1f, y_0, y_1, ry, rya, ryb, ryc, ryn]; done)) (by first | exact y_0f | (simp [go_sem, World.cell?_alloc_past, y_0f, y_1f, y_0, y_1, ry, rya, ryb, ryc, ryn]; done))
      replace y_1f : w54.frozen? ⟨w.heap.size, 1, none⟩ = false := hx54.froz (by show ¬ _ = _; first | assumption | omega) (v := .int .i64 0) (by first | exact y_1 | (simp [go_sem, World.cell?_alloc_past, y_0f, y_1f, y_0, y_1, ry, rya, ryb, ryc, ryn]; done)) (by first | exact y_1f | (simp [go_sem, World.cell?_alloc_past, y_0f, y_1f, y_0, y_1, ry, rya, ryb, ryc, ryn]; done))
      replace y_0 : w54.cell? ⟨w.heap.size, 0, none⟩ = some (.int .i64 0) := hx54.has (by show ¬ _ = _; first | assumption | omega) (by first | exact y_0 | (simp [go_sem, World.cell?_alloc_past, y_0f, y_1f, y_0, y_1, ry, rya, ryb, ryc, ryn]; done))
      replace y_1 : w54.cell? ⟨w.heap.size, 1, none⟩ = some (.int .i64 0) := hx54.has (by show ¬ _ = _; first | assumption | omega) (by first | exact y_1 | (simp [go_sem, World.cell?_alloc_past, y_0f, y_1f, y_0, y_1, ry, rya, ryb, ryc, ryn]; done))
      have z54 := hx54.size
      try simp at z54
      replace ry : w.heap.size < w54.heap.size := by omega
      replace rya : w.heap.size < w54.heap.size + 1 := by omega
      replace ryb : w.heap.size < w54.heap.size + 1 + 1 := by omega
      replace ryc : w.heap.size < w54.heap.size + 1 + 1 + 1 := by omega
      replace ryn : ¬ w.heap.size = w54.heap.size := by omega
      have X54 : Hid (Ext w w54) := Lib.hid (have hX := (show Ext w _ from (by repeat (first | with_reducible exact X53.out | with_reducible refine Ext.drew ?_ | with_reducible refine Ext.drewN ?_ _ | with_reducible refine Ext.alloc ?_ _ | with_reducible refine Ext.setCell ?_ (by first | omega | (simp; done) | (simp; omega)) _))); Below.trans hX (hx54.below (Ext.size hX) (fun k hk hh => by have hh2 : k = g := hh; omega)))
      replace HO := Lib.hid (OwnR.but (OwnR.butN HO.out (by repeat (first | with_reducible exact But.refl _ _ | with_reducible refine But.drew ?_ | with_reducible refine But.drewN ?_ _ | with_reducible refine But.alloc ?_ _ | with_reducible refine But.setCell ?_ (by first | exact Nat.le_refl _ | (dsimp only; omega)) _ | with_reducible refine But.setNew ?_ (by first | omega | (simp; done) | (simp; omega)) _))) hx54 (by intro j h1 h2 hh; have h3 : j = g := hh; omega))
      replace HSe := Lib.hid (Seen.but (Seen.butN HSe.out (by repeat (first | with_reducible exact But.refl _ _ | with_reducible refine But.drew ?_ | with_reducible refine But.drewN ?_ _ | with_reducible refine But.alloc ?_ _ | with_reducible refine But.setCell ?_ (by first | exact Nat.le_refl _ | (dsimp only; omega)) _ | with_reducible refine But.setNew ?_ (by first | omega | (simp; done) | (simp; omega)) _))) hx54 (by show ¬ w1.heap.size = g; omega))
      clear HRd
      have HRd := Lib.hid hRd
      clear hsz54 X53 hx54 z54 hRd
      have hgl4 := HRd.out.lt
      have hbl4 := HSe.out.lt
      replace HO := Lib.hid HO.out.raise
      go_wp2_with fail
      (with_reducible refine (cRN_Te (w54.heap.size) g k4 k5 L f4 f5 0 3 n (by decide) (by decide) (by decide) (by decide) hL Gn.out.1 Gn.out.2.1 Gn.out.2.2 _ (RdT.new HRd.out _ _ (by decide))).mono ?_)
      rintro e w55 ⟨rfl, hRd, hx55⟩
      have hsz55 := hx55.size
      try simp at hsz55
      replace y_0f : w55.frozen? ⟨w.heap.size, 0, none⟩ = false := hx55.froz (by show ¬ _ = _; first | assumption | omega) (v := .int .i64 0) (by first | exact y_0 | (simp [go_sem, World.cell?_alloc_past, y_0f, y_1f, y_0, y_1, ry, rya, ryb, ryc, ryn]; done)) (by first | exact y_0f | (simp [go_sem, World.cell?_alloc_past, y_0f, y_1f, y_0, y_1, ry, rya, ryb, ryc, ryn]; done))
      replace y_1f : w55.frozen? ⟨w.heap.size, 1, none⟩ = false := hx55.froz (by show ¬ _ = _; first | assumption | omega) (v := .int .i64 0) (by first | exact y_1 | (simp [go_sem, World.cell?_alloc_past, y_0f, y_1f, y_0, y_1, ry, rya, ryb, ryc, ryn]; done)) (by first | exact y_1f | (simp [go_sem, World.cell?_alloc_past, y_0f, y_1f, y_0, y_1, ry, rya, ryb, ryc, ryn]; done))
      replace y_0 : w55.cell? ⟨w.heap.size, 0, none⟩ = some (.int .i64 0) := hx55.has (by show ¬ _ = _; first | assumption | omega) (by first | exact y_0 | (simp [go_sem, World.cell?_alloc_past, y_0f, y_1f, y_0, y_1, ry, rya, ryb, ryc, ryn]; done))
      replace y_1 : w55.cell? ⟨w.heap.size, 1, none⟩ = some (.int .i64 0) := hx55.has (by show ¬ _ = _; first | assumption | omega) (by first | exact y_1 | (simp [go_sem, World.cell?_alloc_past, y_0f, y_1f, y_0, y_1, ry, rya, ryb, ryc, ryn]; done))
      have c0_4f : w55.frozen? ⟨w54.heap.size, 4, none⟩ = false := hx55.froz (by show ¬ _ = _; first | assumption | omega) (v := .bool false) (by first | fail | (simp [go_sem, World.cell?_alloc_past, y_0f, y_1f, y_0, y_1, ry, rya, ryb, ryc, ryn]; done)) (by first | fail | (simp [go_sem, World.cell?_alloc_past, y_0f, y_1f, y_0, y_1, ry, rya, ryb, ryc, ryn]; done))
      have c0_5f : w55.frozen? ⟨w54.heap.size, 5, none⟩ = false := hx55.froz (by show ¬ _ = _; first | assumption | omega) (v := .bool false) (by first | fail | (simp [go_sem, World.cell?_alloc_past, y_0f, y_1f, y_0, y_1, ry, rya, ryb, ryc, ryn]; done)) (by first | fail | (simp [go_sem, World.cell?_alloc_past, y_0f, y_1f, y_0, y_1, ry, rya, ryb, ryc, ryn]; done))
      have c0_0 : w55.cell? ⟨w54.heap.size, 0, none⟩ = some (.int .i64 x0) := hx55.has (by show ¬ _ = _; first | assumption | omega) (by first | fail | (simp [go_sem, World.cell?_alloc_past, y_0f, y_1f, y_0, y_1, ry, rya, ryb, ryc, ryn]; done))
      have c0_1 : w55.cell? ⟨w54.heap.size, 1, none⟩ = some (.int .u64 x1) := hx55.has (by show ¬ _ = _; first | assumption | omega) (by first | fail | (simp [go_sem, World.cell?_alloc_past, y_0f, y_1f, y_0, y_1, ry, rya, ryb, ryc, ryn]; done))
      have c0_2 : w55.cell? ⟨w54.heap.size, 2, none⟩ = some (.int .i64 x2) := hx55.has (by show ¬ _ = _; first | assumption | omega) (by first | fail | (simp [go_sem, World.cell?_alloc_past, y_0f, y_1f, y_0, y_1, ry, rya, ryb, ryc, ryn]; done))
      have c0_3 : w55.cell? ⟨w54.heap.size, 3, none⟩ = some (.int .i64 x3) := hx55.has (by show ¬ _ = _; first | assumption | omega) (by first | fail | (simp [go_sem, World.cell?_alloc_past, y_0f, y_1f, y_0, y_1, ry, rya, ryb, ryc, ryn]; done))
      have c0_4 : w55.cell? ⟨w54.heap.size, 4, none⟩ = some (.bool false) := hx55.has (by show ¬ _ = _; first | assumption | omega) (by first | fail | (simp [go_sem, World.cell?_alloc_past, y_0f, y_1f, y_0, y_1, ry, rya, ryb, ryc, ryn]; done))
      have c0_5 : w55.cell? ⟨w54.heap.size, 5, none⟩ = some (.bool false) := hx55.has (by show ¬ _ = _; first | assumption | omega) (by first | fail | (simp [go_sem, World.cell?_alloc_past, y_0f, y_1f, y_0, y_1, ry, rya, ryb, ryc, ryn]; done))
      have z55 := hx55.size
      try simp at z55
      have lt_y_c0 : w.heap.size < w54.heap.size := by omega
      have ne_y_c0 : ¬ w.heap.size = w54.heap.size := by omega
      have ne_c0_y : ¬ w54.heap.size = w.heap.size := by omega
      replace ry : w.heap.size < w55.heap.size := by omega
      replace rya : w.heap.size < w55.heap.size + 1 := by omega
      replace ryb : w.heap.size < w55.heap.size + 1 + 1 := by omega
      replace ryc : w.heap.size < w55.heap.size + 1 + 1 + 1 := by omega
      replace ryn : ¬ w.heap.size = w55.heap.size := by omega
      have rc0 : w54.heap.size < w55.heap.size := by omega
      have rc0a : w54.heap.size < w55.heap.size + 1 := by omega
      have rc0b : w54.heap.size < w55.heap.size + 1 + 1 := by omega
      have rc0c : w54.heap.size < w55.heap.size + 1 + 1 + 1 := by omega
      have rc0n : ¬ w54.heap.size = w55.heap.size := by omega
      have X55 : Hid (Ext w w55) := Lib.hid (have hX := (show Ext w _ from (by repeat (first | with_reducible exact X54.out | with_reducible refine Ext.drew ?_ | with_reducible refine Ext.drewN ?_ _ | with_reducible refine Ext.alloc ?_ _ | with_reducible refine Ext.setCell ?_ (by first | omega | (simp; done) | (simp; omega)) _))); Below.trans hX (hx55.below (Ext.size hX) (fun k hk hh => by have hh2 : k = g := hh; omega)))
      replace HO := Lib.hid (OwnR.but (OwnR.butN HO.out (by repeat (first | with_reducible exact But.refl _ _ | with_reducible refine But.drew ?_ | with_reducible refine But.drewN ?_ _ | with_reducible refine But.alloc ?_ _ | with_reducible refine But.setCell ?_ (by first | exact Nat.le_refl _ | (dsimp only; omega)) _ | with_reducible refine But.setNew ?_ (by first | omega | (simp; done) | (simp; omega)) _))) hx55 (by intro j h1 h2 hh; have h3 : j = g := hh; omega))
      replace HSe := Lib.hid (Seen.but (Seen.butN HSe.out (by repeat (first | with_reducible exact But.refl _ _ | with_reducible refine But.drew ?_ | with_reducible refine But.drewN ?_ _ | with_reducible refine But.alloc ?_ _ | with_reducible refine But.setCell ?_ (by first | exact Nat.le_refl _ | (dsimp only; omega)) _ | with_reducible refine But.setNew ?_ (by first | omega | (simp; done) | (simp; omega)) _))) hx55 (by show ¬ w1.heap.size = g; omega))
      have HT := Lib.hid hRd
      clear HRd hsz55 X54 hx55 z55 hRd
      go_wp2_with fail
      (with_reducible refine (rosOne_ev ev x0 x1 x2 x3 x4 x5 w1.heap.size _ _ (Seen.butN HSe.out (by repeat (first | with_reducible exact But.refl _ _ | with_reducible refine But.drew ?_ | with_reducible refine But.drewN ?_ _ | with_reducible refine But.alloc ?_ _ | with_reducible refine But.setCell ?_ (by first | exact Nat.le_refl _ | (dsimp only; omega)) _ | with_reducible refine But.setNew ?_ (by first | omega | (simp; done) | (simp; omega)) _))) hwf GE.out).mono ?_)
      rintro e w56 ⟨rfl, hx56⟩
      replace y_0f : w56.frozen? ⟨w.heap.size, 0, none⟩ = false := hx56.froz (v := .int .i64 0) (by first | exact y_0 | (simp [go_sem, World.cell?_alloc_past, y_0f, y_1f, y_0, y_1, c0_4f, c0_5f, c0_0, c0_1, c0_2, c0_3, c0_4, c0_5, ne_y_c0, ne_c0_y, ry, rya, ryb, ryc, ryn, rc0, rc0a, rc0b, rc0c, rc0n]; done)) (by first | exact y_0f | (simp [go_sem, World.cell?_alloc_past, y_0f, y_1f, y_0, y_1, c0_4f, c0_5f, c0_0, c0_1, c0_2, c0_3, c0_4, c0_5, ne_y_c0, ne_c0_y, ry, rya, ryb, ryc, ryn, rc0, rc0a, rc0b, rc0c, rc0n]; done))
      replace y_1f : w56.frozen? ⟨w.heap.size, 1, none⟩ = false := hx56.froz (v := .int .i64 0) (by first | exact y_1 | (simp [go_sem, World.cell?_alloc_past, y_0f, y_1f, y_0, y_1, c0_4f, c0_5f, c0_0, c0_1, c0_2, c0_3, c0_4, c0_5, ne_y_c0, ne_c0_y, ry, rya, ryb, ryc, ryn, rc0, rc0a, rc0b, rc0c, rc0n]; done)) (by first | exact y_1f | (simp [go_sem, World.cell?_alloc_past, y_0f, y_1f, y_0, y_1, c0_4f, c0_5f, c0_0, c0_1, c0_2, c0_3, c0_4, c0_5, ne_y_c0, ne_c0_y, ry, rya, ryb, ryc, ryn, rc0, rc0a, rc0b, rc0c, rc0n]; done))
      replace y_0 : w56.cell? ⟨w.heap.size, 0, none⟩ = some (.int .i64 0) := hx56.has (by first | exact y_0 | (simp [go_sem, World.cell?_alloc_past, y_0f, y_1f, y_0, y_1, c0_4f, c0_5f, c0_0, c0_1, c0_2, c0_3, c0_4, c0_5, ne_y_c0, ne_c0_y, ry, rya, ryb, ryc, ryn, rc0, rc0a, rc0b, rc0c, rc0n]; done))
      replace y_1 : w56.cell? ⟨w.heap.size, 1, none⟩ = some (.int .i64 0) := hx56.has (by first | exact y_1 | (simp [go_sem, World.cell?_alloc_past, y_0f, y_1f, y_0, y_1, c0_4f, c0_5f, c0_0, c0_1, c0_2, c0_3, c0_4, c0_5, ne_y_c0, ne_c0_y, ry, rya, ryb, ryc, ryn, rc0, rc0a, rc0b, rc0c, rc0n]; done))
      replace c0_0 : w56.cell? ⟨w54.heap.size, 0, none⟩ = some (.int .i64 x0) := hx56.has (by first | exact c0_0 | (simp [go_sem, World.cell?_alloc_past, y_0f, y_1f, y_0, y_1, c0_4f, c0_5f, c0_0, c0_1, c0_2, c0_3, c0_4, c0_5, ne_y_c0, ne_c0_y, ry, rya, ryb, ryc, ryn, rc0, rc0a, rc0b, rc0c, rc0n]; done))
      replace c0_1 : w56.cell? ⟨w54.heap.size, 1, none⟩ = some (.int .u64 x1) := hx56.has (by first | exact c0_1 | (simp [go_sem, World.cell?_alloc_past, y_0f, y_1f, y_0, y_1, c0_4f, c0_5f, c0_0, c0_1, c0_2, c0_3, c0_4, c0_5, ne_y_c0, ne_c0_y, ry, rya, ryb, ryc, ryn, rc0, rc0a, rc0b, rc0c, rc0n]; done))
      replace c0_2 : w56.cell? ⟨w54.heap.size, 2, none⟩ = some (.int .i64 x2) := hx56.has (by first | exact c0_2 | (simp [go_sem, World.cell?_alloc_past, y_0f, y_1f, y_0, y_1, c0_4f, c0_5f, c0_0, c0_1, c0_2, c0_3, c0_4, c0_5, ne_y_c0, ne_c0_y, ry, rya, ryb, ryc, ryn, rc0, rc0a, rc0b, rc0c, rc0n]; done))
      replace c0_3 : w56.cell? ⟨w54.heap.size, 3, none⟩ = some (.int .i64 x3) := hx56.has (by first | exact c0_3 | (simp [go_sem, World.cell?_alloc_past, y_0f, y_1f, y_0, y_1, c0_4f, c0_5f, c0_0, c0_1, c0_2, c0_3, c0_4, c0_5, ne_y_c0, ne_c0_y, ry, rya, ryb, ryc, ryn, rc0, rc0a, rc0b, rc0c, rc0n]; done))
      replace c0_4 : w56.cell? ⟨w54.heap.size, 4, none⟩ = some (.bool x4) := hx56.has (by first | exact c0_4 | (simp [go_sem, World.cell?_alloc_past, y_0f, y_1f, y_0, y_1, c0_4f, c0_5f, c0_0, c0_1, c0_2, c0_3, c0_4, c0_5, ne_y_c0, ne_c0_y, ry, rya, ryb, ryc, ryn, rc0, rc0a, rc0b, rc0c, rc0n]; done))
      replace c0_5 : w56.cell? ⟨w54.heap.size, 5, none⟩ = some (.bool x5) := hx56.has (by first | exact c0_5 | (simp [go_sem, World.cell?_alloc_past, y_0f, y_1f, y_0, y_1, c0_4f, c0_5f, c0_0, c0_1, c0_2, c0_3, c0_4, c0_5, ne_y_c0, ne_c0_y, ry, rya, ryb, ryc, ryn, rc0, rc0a, rc0b, rc0c, rc0n]; done))
      have z56 := hx56.size
      try simp at z56
      replace ry : w.heap.size < w56.heap.size := by omega
      replace rya : w.heap.size < w56.heap.size + 1 := by omega
      replace ryb : w.heap.size < w56.heap.size + 1 + 1 := by omega
      replace ryc : w.heap.size < w56.heap.size + 1 + 1 + 1 := by omega
      replace ryn : ¬ w.heap.size = w56.heap.size := by omega
      replace rc0 : w54.heap.size < w56.heap.size := by omega
      replace rc0a : w54.heap.size < w56.heap.size + 1 := by omega
      replace rc0b : w54.heap.size < w56.heap.size + 1 + 1 := by omega
      replace rc0c : w54.heap.size < w56.heap.size + 1 + 1 + 1 := by omega
      replace rc0n : ¬ w54.heap.size = w56.heap.size := by omega
      replace HO := Lib.hid ((OwnR.butN HO.out (by repeat (first | with_reducible exact But.refl _ _ | with_reducible refine But.drew ?_ | with_reducible refine But.drewN ?_ _ | with_reducible refine But.alloc ?_ _ | with_reducible refine But.setCell ?_ (by first | exact Nat.le_refl _ | (dsimp only; omega)) _ | with_reducible refine But.setNew ?_ (by first | omega | (simp; done) | (simp; omega)) _))).ext hx56)
      replace HSe := Lib.hid ((Seen.butN HSe.out (by repeat (first | with_reducible exact But.refl _ _ | with_reducible refine But.drew ?_ | with_reducible refine But.drewN ?_ _ | with_reducible refine But.alloc ?_ _ | with_reducible refine But.setCell ?_ (by first | exact Nat.le_refl _ | (dsimp only; omega)) _ | with_reducible refine But.setNew ?_ (by first | omega | (simp; done) | (simp; omega)) _))).ext hx56)
      replace HT := Lib.hid ((RdT.set (RdT.set HT.out rfl _) rfl _).ext hx56)
      have X56 : Hid (Ext w w56) := Lib.hid (Ext.trans (by repeat (first | with_reducible exact X55.out | with_reducible refine Ext.drew ?_ | with_reducible refine Ext.drewN ?_ _ | with_reducible refine Ext.alloc ?_ _ | with_reducible refine Ext.setCell ?_ (by first | omega | (simp; done) | (simp; omega)) _)) hx56)
      clear c0_5f c0_4f X55 hx56 z56
      go_wp2_with fail
      (with_reducible refine (cFail_T (w54.heap.size) g k5 L f5 ev (atF f k) _ (HT.out.ext (by repeat (first | with_reducible exact Ext.refl _ | with_reducible refine Ext.drew ?_ | with_reducible refine Ext.drewN ?_ _ | with_reducible refine Ext.alloc ?_ _ | with_reducible refine Ext.setCell ?_ (by first | omega | (simp; done) | (simp; omega)) _)))).mono ?_)
      rintro e w57 ⟨⟨vv, rfl⟩, hRd, hx57⟩
      have hsz57 := hx57.size
      try simp at hsz57
      replace y_0f : w57.frozen? ⟨w.heap.size, 0, none⟩ = false := hx57.froz (by show ¬ _ = _; first | assumption | omega) (v := .int .i64 0) (by first | exact y_0 | (simp [go_sem, World.cell?_alloc_past, y_0f, y_1f, y_0, y_1, c0_0, c0_1, c0_2, c0_3, c0_4, c0_5, ne_y_c0, ne_c0_y, ry, rya, ryb, ryc, ryn, rc0, rc0a, rc0b, rc0c, rc0n]; done)) (by first | exact y_0f | (simp [go_sem, World.cell?_alloc_past, y_0f, y_1f, y_0, y_1, c0_0, c0_1, c0_2, c0_3, c0_4, c0_5, ne_y_c0, ne_c0_y, ry, rya, ryb, ryc, ryn, rc0, rc0a, rc0b, rc0c, rc0n]; done))
      replace y_1f : w57.frozen? ⟨w.heap.size, 1, none⟩ = false := hx57.froz (by show ¬ _ = _; first | assumption | omega) (v := .int .i64 0) (by first | exact y_1 | (simp [go_sem, World.cell?_alloc_past, y_0f, y_1f, y_0, y_1, c0_0, c0_1, c0_2, c0_3, c0_4, c0_5, ne_y_c0, ne_c0_y, ry, rya, ryb, ryc, ryn, rc0, rc0a, rc0b, rc0c, rc0n]; done)) (by first | exact y_1f | (simp [go_sem, World.cell?_alloc_past, y_0f, y_1f, y_0, y_1, c0_0, c0_1, c0_2, c0_3, c0_4, c0_5, ne_y_c0, ne_c0_y, ry, rya, ryb, ryc, ryn, rc0, rc0a, rc0b, rc0c, rc0n]; done))
      replace y_0 : w57.cell? ⟨w.heap.size, 0, none⟩ = some (.int .i64 0) := hx57.has (by show ¬ _ = _; first | assumption | omega) (by first | exact y_0 | (simp [go_sem, World.cell?_alloc_past, y_0f, y_1f, y_0, y_1, c0_0, c0_1, c0_2, c0_3, c0_4, c0_5, ne_y_c0, ne_c0_y, ry, rya, ryb, ryc, ryn, rc0, rc0a, rc0b, rc0c, rc0n]; done))
      replace y_1 : w57.cell? ⟨w.heap.size, 1, none⟩ = some (.int .i64 0) := hx57.has (by show ¬ _ = _; first | assumption | omega) (by first | exact y_1 | (simp [go_sem, World.cell?_alloc_past, y_0f, y_1f, y_0, y_1, c0_0, c0_1, c0_2, c0_3, c0_4, c0_5, ne_y_c0, ne_c0_y, ry, rya, ryb, ryc, ryn, rc0, rc0a, rc0b, rc0c, rc0n]; done))
      replace c0_0 : w57.cell? ⟨w54.heap.size, 0, none⟩ = some (.int .i64 x0) := hx57.has (by show ¬ _ = _; first | assumption | omega) (by first | exact c0_0 | (simp [go_sem, World.cell?_alloc_past, y_0f, y_1f, y_0, y_1, c0_0, c0_1, c0_2, c0_3, c0_4, c0_5, ne_y_c0, ne_c0_y, ry, rya, ryb, ryc, ryn, rc0, rc0a, rc0b, rc0c, rc0n]; done))
      replace c0_1 : w57.cell? ⟨w54.heap.size, 1, none⟩ = some (.int .u64 x1) := hx57.has (by show ¬ _ = _; first | assumption | omega) (by first | exact c0_1 | (simp [go_sem, World.cell?_alloc_past, y_0f, y_1f, y_0, y_1, c0_0, c0_1, c0_2, c0_3, c0_4, c0_5, ne_y_c0, ne_c0_y, ry, rya, ryb, ryc, ryn, rc0, rc0a, rc0b, rc0c, rc0n]; done))
      replace c0_2 : w57.cell? ⟨w54.heap.size, 2, none⟩ = some (.int .i64 x2) := hx57.has (by show ¬ _ = _; first | assumption | omega) (by first | exact c0_2 | (simp [go_sem, World.cell?_alloc_past, y_0f, y_1f, y_0, y_1, c0_0, c0_1, c0_2, c0_3, c0_4, c0_5, ne_y_c0, ne_c0_y, ry, rya, ryb, ryc, ryn, rc0, rc0a, rc0b, rc0c, rc0n]; done))
      replace c0_3 : w57.cell? ⟨w54.heap.size, 3, none⟩ = some (.int .i64 x3) := hx57.has (by show ¬ _ = _; first | assumption | omega) (by first | exact c0_3 | (simp [go_sem, World.cell?_alloc_past, y_0f, y_1f, y_0, y_1, c0_0, c0_1, c0_2, c0_3, c0_4, c0_5, ne_y_c0, ne_c0_y, ry, rya, ryb, ryc, ryn, rc0, rc0a, rc0b, rc0c, rc0n]; done))
      replace c0_4 : w57.cell? ⟨w54.heap.size, 4, none⟩ = some (.bool x4) := hx57.has (by show ¬ _ = _; first | assumption | omega) (by first | exact c0_4 | (simp [go_sem, World.cell?_alloc_past, y_0f, y_1f, y_0, y_1, c0_0, c0_1, c0_2, c0_3, c0_4, c0_5, ne_y_c0, ne_c0_y, ry, rya, ryb, ryc, ryn, rc0, rc0a, rc0b, rc0c, rc0n]; done))
      replace c0_5 : w57.cell? ⟨w54.heap.size, 5, none⟩ = some (.bool x5) := hx57.has (by show ¬ _ = _; first | assumption | omega) (by first | exact c0_5 | (simp [go_sem, World.cell?_alloc_past, y_0f, y_1f, y_0, y_1, c0_0, c0_1, c0_2, c0_3, c0_4, c0_5, ne_y_c0, ne_c0_y, ry, rya, ryb, ryc, ryn, rc0, rc0a, rc0b, rc0c, rc0n]; done))
      have z57 := hx57.size
      try simp at z57
      replace ry : w.heap.size < w57.heap.size := by omega
      replace rya : w.heap.size < w57.heap.size + 1 := by omega
      replace ryb : w.heap.size < w57.heap.size + 1 + 1 := by omega
      replace ryc : w.heap.size < w57.heap.size + 1 + 1 + 1 := by omega
      replace ryn : ¬ w.heap.size = w57.heap.size := by omega
      replace rc0 : w54.heap.size < w57.heap.size := by omega
      replace rc0a : w54.heap.size < w57.heap.size + 1 := by omega
      replace rc0b : w54.heap.size < w57.heap.size + 1 + 1 := by omega
      replace rc0c : w54.heap.size < w57.heap.size + 1 + 1 + 1 := by omega
      replace rc0n : ¬ w54.heap.size = w57.heap.size := by omega
      have X57 : Hid (Ext w w57) := Lib.hid (have hX := (show Ext w _ from (by repeat (first | with_reducible exact X56.out | with_reducible refine Ext.drew ?_ | with_reducible refine Ext.drewN ?_ _ | with_reducible refine Ext.alloc ?_ _ | with_reducible refine Ext.setCell ?_ (by first | omega | (simp; done) | (simp; omega)) _))); Below.trans hX (hx57.below (Ext.size hX) (fun k hk hh => by have hh2 : k = g := hh; omega)))
      replace HO := Lib.hid (OwnR.but (OwnR.butN HO.out (by repeat (first | with_reducible exact But.refl _ _ | with_reducible refine But.drew ?_ | with_reducible refine But.drewN ?_ _ | with_reducible refine But.alloc ?_ _ | with_reducible refine But.setCell ?_ (by first | exact Nat.le_refl _ | (dsimp only; omega)) _ | with_reducible refine But.setNew ?_ (by first | omega | (simp; done) | (simp; omega)) _))) hx57 (by intro j h1 h2 hh; have h3 : j = g := hh; omega))
      replace HSe := Lib.hid (Seen.but (Seen.butN HSe.out (by repeat (first | with_reducible exact But.refl _ _ | with_reducible refine But.drew ?_ | with_reducible refine But.drewN ?_ _ | with_reducible refine But.alloc ?_ _ | with_reducible refine But.setCell ?_ (by first | exact Nat.le_refl _ | (dsimp only; omega)) _ | with_reducible refine But.setNew ?_ (by first | omega | (simp; done) | (simp; omega)) _))) hx57 (by show ¬ w1.heap.size = g; omega))
      clear HT
      have HT := Lib.hid hRd
      clear hsz57 X56 hx57 z57 hRd
      obtain ⟨D, hd1, hd2, hd3⟩ := HSe.out
      have hln : (out.map (·.1)).length < 1000 := by have := GL.out; simp; omega
      have hbw := HSe.out
      have hbg : g < w1.heap.size + 1 := by omega
      go_wp2_with (first | (at_mapUpdate; refine wpList_mapUpdate_own _ rfl _ _ _ 111 rfl 3 3 rosLaw3 Try.underlying111 _ w1.heap.size _ D rfl hd1 (by unfold maxLen; omega) _ _ _ rfl rfl hkey _ [] (plainElem_int Try.underlying3 hwk) ?_; intro wm hownm hgrow; have hbm := But.ofGrown hgrow; replace c0_0 := hbm.has (by show ¬ some w1.heap.size = some _; intro hh; injection hh with hh; omega) c0_0; replace c0_1 := hbm.has (by show ¬ some w1.heap.size = some _; intro hh; injection hh with hh; omega) c0_1; replace c0_2 := hbm.has (by show ¬ some w1.heap.size = some _; intro hh; injection hh with hh; omega) c0_2; replace c0_3 := hbm.has (by show ¬ some w1.heap.size = some _; intro hh; injection hh with hh; omega) c0_3; replace c0_4 := hbm.has (by show ¬ some w1.heap.size = some _; intro hh; injection hh with hh; omega) c0_4; replace c0_5 := hbm.has (by show ¬ some w1.heap.size = some _; intro hh; injection hh with hh; omega) c0_5; have HSm := Lib.hid (Seen.put hownm hd2 hd3); have hbS : ∀ j : Nat, some w1.heap.size = some j → j = w1.heap.size := (fun j hj => by injection hj with hj; exact hj.symm); have HOm := Lib.hid (own_but HO.out.own hbm (fun j hj e => hbw.ne_own HO.out.own (by rw [hj]; exact e.symm))); have HRm := Lib.hid (HT.out.rd.butT hbm (fun j hj e => by have e2 := hbS j e; subst e2; exact ⟨by omega, fun cs z => hbw.cells cs _ z⟩)); have y2_0 := hbm.has (by show ¬ some w1.heap.size = some _; intro hh; injection hh with hh; omega) y_0; have y2_1 := hbm.has (by show ¬ some w1.heap.size = some _; intro hh; injection hh with hh; omega) y_1; have y2_0f := hbm.froz (by show ¬ some w1.heap.size = some _; intro hh; injection hh with hh; omega) y_0 y_0f; have y2_1f := hbm.froz (by show ¬ some w1.heap.size = some _; intro hh; injection hh with hh; omega) y_1 y_1f; have Xm : Hid (Ext w wm) := Lib.hid (Ext.grown X57.out hgrow (fun q hq => by injection hq with hq; omega)); have hzm := hbm.size; clear hbw hd1 hd2 hd3 hownm hgrow hbm hbS) | (at_builtin; refine wpList_append_slB (wm.alloc (.cells #[.int .i64 x0, .int .u64 x1, .int .i64 x2, .int .i64 x3, .bool x4, .bool x5] 96)) rfl _ _ 40 rfl (g + 1) 96 i0 (.agg #[.int .i64 0, .int .u64 0, .int .i64 0, .int .i64 0, .bool false, .bool false]) 6 40 Try.underlying40 hi0 hz0 hz1 hz2 rfl (by decide) u5 out.length _ (by rfl) (HOm.out.alloc _) (some ⟨wm.heap.size, 0, none⟩) 1 1 (valC (x0, x1, x2, x3, x4, x5)) (by rfl) (sl_new wm 96 6 #[.int .i64 x0, .int .u64 x1, .int .i64 x2, .int .i64 x3, .bool x4, .bool x5] 1 rfl (by decide)) (by intro u hu; simp [valC] at hu; rcases hu with rfl | rfl | rfl | rfl | rfl | rfl <;> rfl) (by have := GL.out; omega) (by decide) (by simp; omega) ?_; intro v2 wn hown2 hb2 hn2))
      have XA := (Ext.refl wm).alloc (.cells #[.int .i64 x0, .int .u64 x1, .int .i64 x2, .int .i64 x3, .bool x4, .bool x5] 96)
      have HOa := HOm.out.alloc (.cells #[.int .i64 x0, .int .u64 x1, .int .i64 x2, .int .i64 x3, .bool x4, .bool x5] 96)
      have hwb : ¬ u5.ownBlock = some w.heap.size := fun hh => by have := (own_block HOa hh).1; omega
      go_roundg (gk - 1)
      case measure => have := HK.out; omega
      case rel =>
        have e : N - (gk - 1) = j + 1 := by have := HK.out; omega
        rw [e, GS.out]
        refine ⟨by have := HK.out; omega, num_eq (by have := HK.out; omega), Lib.hid ?_, Lib.hid ?_, Lib.hid ?_, ⟨?_, ?_, ?_, ?_⟩, ?_⟩
        · exact (HRm.out.ext XA).butT hb2 (own_ne_fault HOa (by omega) (by decide))
        · simpa [List.flatMap_append] using hown2
        · simpa using (HSm.out.ext XA).but hb2 ((HSm.out.ext XA).ne_own HOa)
        · exact hb2.has hwb (XA.has y2_0)
        · exact hb2.has hwb (XA.has y2_1)
        · exact hb2.froz hwb (XA.has y2_0) (XA.froz y2_0 y2_0f)
        · exact hb2.froz hwb (XA.has y2_1) (XA.froz y2_1 y2_1f)
        · exact Below.trans (Ext.trans Xm.out XA) (hb2.below (Ext.trans Xm.out XA).size (fun k hk hh => by have := (own_block HOa hh).1; omega))
end Go.Proofs.Ytjdpgapmdmpjjaa
