/- law12: StampBytes returns true. Conditions: none. -/
import Derived.Test.YthaknigljjnnaaaStampQ
import Derived.Test.YthaknigljjnnaaaKitB
import Derived.Test.YthaknigljjnnaaaRef12
set_option linter.unusedVariables false
set_option linter.unusedSimpArgs false
namespace Go.Proofs.Ythaknigljjnnaaa
open Go.RowKit

/-- a row of bytes of one's own -/
def OwnN (w : World) (base : Nat) (v : Value) (n : Nat) (L : List Nat) : Prop := w.ownsRow base 5 1 v n (by_ L)
theorem OwnN.ext {w w' : World} {base n : Nat} {v : Value} {L : List Nat} (h : OwnN w base v n L) (hx : Ext w w') : OwnN w' base v n L := own_keep h hx
theorem OwnN.sl {w : World} {base n c : Nat} {A : Option Addr} {L : List Nat} (h : OwnN w base (.slice A n c) n L) : Sl w 1 A n c (by_ L) := Sl.own h
theorem OwnN.in_ {w : World} {base n c : Nat} {A : Option Addr} {L : List Nat} (h : OwnN w base (.slice A n c) n L) : ∀ k o s, A = some ⟨k, o, s⟩ → base ≤ k ∧ k < w.heap.size := by
  intro k o s e'
  subst e'
  exact World.ownsRow.lt h k rfl
theorem Sl.butS {w w' : World} {sz n c : Nat} {A : Option Addr} {xs : List Value} {S : Nat → Prop} (h : Sl w sz A n c xs) (hb : But S w w') (hne : 0 < n → ∀ b o s, A = some ⟨b, o, s⟩ → ¬ S b) : Sl w' sz A n c xs :=
  ⟨h.1, h.2.1, h.2.2.1, fun hn => by
    obtain ⟨b, o, e, hb2, hc⟩ := h.2.2.2 hn
    have := hb.size
    exact ⟨b, o, e, by omega, fun j u hu => (hb.cell hb2 (hne hn b o none e)).trans (hc j u hu)⟩⟩
theorem own_out {w : World} {L : List Nat} {E : Int} {r : Ending} {w' : World} (h : ByErr L E w r w') : ∃ A c, r = .returned (.tuple #[.slice A L.length c, .int .i64 E]) ∧ (A = none → c = 0) ∧ OwnN w' w.heap.size (.slice A L.length c) L.length L ∧ Ext w w' := by
  obtain ⟨v, rfl, hown, hx⟩ := h
  obtain ⟨A, c, rfl, h1, h2⟩ := own_parts2 hown
  exact ⟨A, c, rfl, h1, hown, hx⟩
theorem kOverBytes_own (A : Option Addr) (c : Nat) (L : List Nat) (hB : Byt L) (base : Nat) (w : World) (h : OwnN w base (.slice A L.length c) L.length L) :
    Calls Try.prog 33 #[.slice A L.length c] w fun r w' => (∃ v, r = .returned v) ∧ But (fun k => ∃ o s, A = some ⟨k, o, s⟩) w w' := by
  rcases h.2 with ⟨h', h0⟩ | ⟨g, cap, cur, h', hbg, _⟩
  · injection h' with h1 h2 h3
    subst h1; subst h3
    rw [h2]
    go_enter Try.func33, Try.ntmps33
    go_wp2
    go_loopg [2] 0 (fun gh i wx => i = .int .i64 0 ∧ wx = w)
    case atStart => exact ⟨rfl, rfl⟩
    case round =>
      obtain ⟨rfl, rfl⟩ := hrel
      go_wp2
      go_end0
      exact ⟨⟨_, rfl⟩, But.refl _ _⟩
  · injection h' with h1 h2 h3
    subst h1; subst h3
    refine (kOverBytes_some g c L hB base w h).mono ?_
    rintro r w' ⟨h1, h2⟩
    exact ⟨h1, h2.mono fun k _ hk => ⟨0, none, by have hk2 : k = g := hk; rw [hk2]⟩⟩
theorem kKeptBytes_own (g cap : Nat) (A : Option Addr) (c : Nat) (L : List Nat) (base : Nat) (w : World) (h : OwnN w base (.slice (some ⟨g, 0, none⟩) (L.length + 4) cap) (L.length + 4) (L ++ lentT)) (hb : Sl w 1 A L.length c (by_ L)) :
    Calls Try.prog 37 #[.slice (some ⟨g, 0, none⟩) L.length cap, .slice A L.length c] w fun r w' => r = .returned (.bool true) ∧ Ext w w' := kKeptBytes_any g cap A c L base w h hb
/-- what was lent reads as the bytes -/
theorem lent_sl {w : World} {base g cap : Nat} {L : List Nat} (h : OwnN w base (.slice (some ⟨g, 0, none⟩) (L.length + 4) cap) (L.length + 4) (L ++ lentT)) : Sl w 1 (some ⟨g, 0, none⟩) L.length cap (by_ L) := by
  have := (Sl.own h).take (m := L.length) (by omega)
  rw [Nat.mul_one] at this
  rwa [show (by_ (L ++ lentT)).take L.length = by_ L from by rw [← by_append, List.take_left' (by_len L)]] at this
set_option maxRecDepth 100000 in
set_option maxHeartbeats 8000000 in
theorem StampBytes_w (V S P F E a b c d e f : Int) (LB M : List Nat) (hLB : Byt LB) (hM : Byt M) (hMl : M.length ≤ 100) (A2 : Option Addr) (c2 : Nat) (w : World) (hS : Sl w 1 A2 M.length c2 (by_ M))
    (CB : Hid (∀ w, Calls Try.prog 31 #[.agg #[.int .i64 V, .int .i64 S, .int .i64 P, .int .i64 F]] w (ByErr LB E w))) (CB2 : Hid (∀ w, Calls Try.prog 32 #[.agg #[.int .i64 V, .int .i64 S, .int .i64 P, .int .i64 F]] w (ByErr LB E w)))
    (CR : Hid (∀ A q w, (A = none → q = 0) → Sl w 1 A M.length q (by_ M) → Calls Try.prog 35 #[.slice A M.length q] w fun r w' => r = .returned (.tuple #[.agg #[.int .i64 a, .int .i64 b, .int .i64 c, .int .i64 d], .agg #[.int .i64 e, .int .i64 f]]) ∧ Ext w w'))
    (CR2 : Hid (∀ w, Sl w 1 A2 M.length c2 (by_ M) → Calls Try.prog 36 #[.slice A2 M.length c2] w fun r w' => r = .returned (.tuple #[.agg #[.int .i64 a, .int .i64 b, .int .i64 c, .int .i64 d], .agg #[.int .i64 e, .int .i64 f]]) ∧ Ext w w')) :
    Calls Try.prog 4 #[.agg #[.int .i64 V, .int .i64 S, .int .i64 P, .int .i64 F], .slice A2 M.length c2] w fun r w' => r = .returned (.bool true) ∧ Ext w w' := by
  have hin : Hid (0 < M.length → ∀ b o s, A2 = some ⟨b, o, s⟩ → b < w.heap.size) := Lib.hid (fun hn b o s e => by
    obtain ⟨b', o', e', hb, _⟩ := hS.at_ hn
    rw [e] at e'
    injection e' with e'
    injection e' with e1
    omega)
  have HS := Lib.hid hS
  clear hS
  have hMd : ¬ (100 : Int) < (M.length : Int) := by omega
  go_enter Try.func4, Try.ntmps4
  go_wp2_with fail
  (with_reducible refine ((Calls.mono (CB.out _) fun r w' h => own_out h)).mono ?_)
  rintro e w1 ⟨A1, c1, rfl, hn1, ho1, hx1⟩
  have c0_0 : w1.cell? ⟨w.heap.size, 0, none⟩ = some (.int .i64 V) := hx1.has (by first | fail | (simp [go_sem, World.cell?_alloc_past]; done))
  have c0_1 : w1.cell? ⟨w.heap.size, 1, none⟩ = some (.int .i64 S) := hx1.has (by first | fail | (simp [go_sem, World.cell?_alloc_past]; done))
  have c0_2 : w1.cell? ⟨w.heap.size, 2, none⟩ = some (.int .i64 P) := hx1.has (by first | fail | (simp [go_sem, World.cell?_alloc_past]; done))
  have c0_3 : w1.cell? ⟨w.heap.size, 3, none⟩ = some (.int .i64 F) := hx1.has (by first | fail | (simp [go_sem, World.cell?_alloc_past]; done))
  have z1 := hx1.size
  try simp at z1
  have rc0 : w.heap.size < w1.heap.size := by omega
  have rc0a : w.heap.size < w1.heap.size + 1 := by omega
  have rc0b : w.heap.size < w1.heap.size + 1 + 1 := by omega
  have rc0c : w.heap.size < w1.heap.size + 1 + 1 + 1 := by omega
  have rc0n : ¬ w.heap.size = w1.heap.size := by omega
  replace HS := Lib.hid (HS.out.ext (Ext.trans (by repeat (first | with_reducible exact Ext.refl _ | with_reducible refine Ext.drew ?_ | with_reducible refine Ext.drewN ?_ _ | with_reducible refine Ext.alloc ?_ _ | with_reducible refine Ext.setCell ?_ (by first | omega | (simp; done) | (simp; omega)) _)) hx1))
  have X1 : Hid (Ext w w1) := Lib.hid (Ext.trans (by repeat (first | with_reducible exact Ext.refl w | with_reducible refine Ext.drew ?_ | with_reducible refine Ext.drewN ?_ _ | with_reducible refine Ext.alloc ?_ _ | with_reducible refine Ext.setCell ?_ (by first | omega | (simp; done) | (simp; omega)) _)) hx1)
  have HX := Lib.hid ho1
  clear hx1 z1 ho1
  have hA1 : Hid (∀ k o s, A1 = some ⟨k, o, s⟩ → w.heap.size + 1 ≤ k ∧ k < w1.heap.size) := Lib.hid (fun k o s e => by have h := HX.out.in_ k o s e; simp at h; omega)
  clear hn1
  go_wp2_with fail
  (with_reducible refine ((Calls.mono (CB2.out _) fun r w' h => own_out h)).mono ?_)
  rintro e w2 ⟨B1, d1, rfl, hn2, ho2, hx2⟩
  replace c0_0 : w2.cell? ⟨w.heap.size, 0, none⟩ = some (.int .i64 V) := hx2.has (by first | exact c0_0 | (simp [go_sem, World.cell?_alloc_past, c0_0, c0_1, c0_2, c0_3, rc0, rc0a, rc0b, rc0c, rc0n]; done))
  replace c0_1 : w2.cell? ⟨w.heap.size, 1, none⟩ = some (.int .i64 S) := hx2.has (by first | exact c0_1 | (simp [go_sem, World.cell?_alloc_past, c0_0, c0_1, c0_2, c0_3, rc0, rc0a, rc0b, rc0c, rc0n]; done))
  replace c0_2 : w2.cell? ⟨w.heap.size, 2, none⟩ = some (.int .i64 P) := hx2.has (by first | exact c0_2 | (simp [go_sem, World.cell?_alloc_past, c0_0, c0_1, c0_2, c0_3, rc0, rc0a, rc0b, rc0c, rc0n]; done))
  replace c0_3 : w2.cell? ⟨w.heap.size, 3, none⟩ = some (.int .i64 F) := hx2.has (by first | exact c0_3 | (simp [go_sem, World.cell?_alloc_past, c0_0, c0_1, c0_2, c0_3, rc0, rc0a, rc0b, rc0c, rc0n]; done))
  have z2 := hx2.size
  try simp at z2
  replace rc0 : w.heap.size < w2.heap.size := by omega
  replace rc0a : w.heap.size < w2.heap.size + 1 := by omega
  replace rc0b : w.heap.size < w2.heap.size + 1 + 1 := by omega
  replace rc0c : w.heap.size < w2.heap.size + 1 + 1 + 1 := by omega
  replace rc0n : ¬ w.heap.size = w2.heap.size := by omega
  replace HS := Lib.hid (HS.out.ext (Ext.trans (by repeat (first | with_reducible exact Ext.refl _ | with_reducible refine Ext.drew ?_ | with_reducible refine Ext.drewN ?_ _ | with_reducible refine Ext.alloc ?_ _ | with_reducible refine Ext.setCell ?_ (by first | omega | (simp; done) | (simp; omega)) _)) hx2))
  replace HX := Lib.hid (HX.out.ext (Ext.trans (by repeat (first | with_reducible exact Ext.refl _ | with_reducible refine Ext.drew ?_ | with_reducible refine Ext.drewN ?_ _ | with_reducible refine Ext.alloc ?_ _ | with_reducible refine Ext.setCell ?_ (by first | omega | (simp; done) | (simp; omega)) _)) hx2))
  have X2 : Hid (Ext w w2) := Lib.hid (Ext.trans (by repeat (first | with_reducible exact X1.out | with_reducible refine Ext.drew ?_ | with_reducible refine Ext.drewN ?_ _ | with_reducible refine Ext.alloc ?_ _ | with_reducible refine Ext.setCell ?_ (by first | omega | (simp; done) | (simp; omega)) _)) hx2)
  have HY0 := Lib.hid ho2
  clear X1 hx2 z2 ho2
  have hB1 := Lib.hid HY0.out.in_
  have HY := Lib.hid HY0.out.sl
  clear hn2 HY0
  go_wp2_with fail
  (with_reducible refine ((kSameBytes_eq _ _ _ _ _ _ LB hLB _ (HX.out.ext (by repeat (first | with_reducible exact Ext.refl _ | with_reducible refine Ext.drew ?_ | with_reducible refine Ext.drewN ?_ _ | with_reducible refine Ext.alloc ?_ _ | with_reducible refine Ext.setCell ?_ (by first | omega | (simp; done) | (simp; omega)) _))).sl (HY.out.ext (by repeat (first | with_reducible exact Ext.refl _ | with_reducible refine Ext.drew ?_ | with_reducible refine Ext.drewN ?_ _ | with_reducible refine Ext.alloc ?_ _ | with_reducible refine Ext.setCell ?_ (by first | omega | (simp; done) | (simp; omega)) _))))).mono ?_)
  rintro e w_1 ⟨rfl, rfl⟩
  go_wp2_with fail
  (with_reducible refine ((kOverBytes_own _ _ LB hLB _ _ (HX.out.ext (by repeat (first | with_reducible exact Ext.refl _ | with_reducible refine Ext.drew ?_ | with_reducible refine Ext.drewN ?_ _ | with_reducible refine Ext.alloc ?_ _ | with_reducible refine Ext.setCell ?_ (by first | omega | (simp; done) | (simp; omega)) _))))).mono ?_)
  rintro e w3 ⟨⟨v, rfl⟩, hx3⟩
  have hsz3 := hx3.size
  try simp at hsz3
  replace c0_0 : w3.cell? ⟨w.heap.size, 0, none⟩ = some (.int .i64 V) := hx3.has (fun hh => by obtain ⟨o, s, hh⟩ := hh; have := hA1.out _ _ _ hh; omega) (by first | exact c0_0 | (simp [go_sem, World.cell?_alloc_past, c0_0, c0_1, c0_2, c0_3, rc0, rc0a, rc0b, rc0c, rc0n]; done))
  replace c0_1 : w3.cell? ⟨w.heap.size, 1, none⟩ = some (.int .i64 S) := hx3.has (fun hh => by obtain ⟨o, s, hh⟩ := hh; have := hA1.out _ _ _ hh; omega) (by first | exact c0_1 | (simp [go_sem, World.cell?_alloc_past, c0_0, c0_1, c0_2, c0_3, rc0, rc0a, rc0b, rc0c, rc0n]; done))
  replace c0_2 : w3.cell? ⟨w.heap.size, 2, none⟩ = some (.int .i64 P) := hx3.has (fun hh => by obtain ⟨o, s, hh⟩ := hh; have := hA1.out _ _ _ hh; omega) (by first | exact c0_2 | (simp [go_sem, World.cell?_alloc_past, c0_0, c0_1, c0_2, c0_3, rc0, rc0a, rc0b, rc0c, rc0n]; done))
  replace c0_3 : w3.cell? ⟨w.heap.size, 3, none⟩ = some (.int .i64 F) := hx3.has (fun hh => by obtain ⟨o, s, hh⟩ := hh; have := hA1.out _ _ _ hh; omega) (by first | exact c0_3 | (simp [go_sem, World.cell?_alloc_past, c0_0, c0_1, c0_2, c0_3, rc0, rc0a, rc0b, rc0c, rc0n]; done))
  have z3 := hx3.size
  try simp at z3
  replace rc0 : w.heap.size < w3.heap.size := by omega
  replace rc0a : w.heap.size < w3.heap.size + 1 := by omega
  replace rc0b : w.heap.size < w3.heap.size + 1 + 1 := by omega
  replace rc0c : w.heap.size < w3.heap.size + 1 + 1 + 1 := by omega
  replace rc0n : ¬ w.heap.size = w3.heap.size := by omega
  have X3 : Hid (Ext w w3) := Lib.hid (have hX := (show Ext w _ from (by repeat (first | with_reducible exact X2.out | with_reducible refine Ext.drew ?_ | with_reducible refine Ext.drewN ?_ _ | with_reducible refine Ext.alloc ?_ _ | with_reducible refine Ext.setCell ?_ (by first | omega | (simp; done) | (simp; omega)) _))); Below.trans hX (hx3.below (Ext.size hX) (fun k hk hh => by obtain ⟨o, s, hh⟩ := hh; have := hA1.out _ _ _ hh; omega)))
  have HY2 := Lib.hid (HY.out.butS hx3 (fun _ b o s e hh => by obtain ⟨o2, s2, hh⟩ := hh; have h1 := hA1.out _ _ _ hh; have h2 := hB1.out _ _ _ e; omega))
  have HS2 := Lib.hid (HS.out.butS hx3 (fun hn b o s e hh => by obtain ⟨o2, s2, hh⟩ := hh; have h1 := hA1.out _ _ _ hh; have h2 := hin.out hn _ _ _ e; omega))
  clear HX HY HS hsz3 X2 hx3 z3
  go_wp2_with fail
  (with_reducible refine ((kLentBytes_any _ _ M _ (HS2.out.ext (by repeat (first | with_reducible exact Ext.refl _ | with_reducible refine Ext.drew ?_ | with_reducible refine Ext.drewN ?_ _ | with_reducible refine Ext.alloc ?_ _ | with_reducible refine Ext.setCell ?_ (by first | omega | (simp; done) | (simp; omega)) _))) (by omega))).mono ?_)
  rintro e w4 ⟨p, rfl, hk, hx4⟩
  replace c0_0 : w4.cell? ⟨w.heap.size, 0, none⟩ = some (.int .i64 V) := hx4.has (by first | exact c0_0 | (simp [go_sem, World.cell?_alloc_past, c0_0, c0_1, c0_2, c0_3, rc0, rc0a, rc0b, rc0c, rc0n]; done))
  replace c0_1 : w4.cell? ⟨w.heap.size, 1, none⟩ = some (.int .i64 S) := hx4.has (by first | exact c0_1 | (simp [go_sem, World.cell?_alloc_past, c0_0, c0_1, c0_2, c0_3, rc0, rc0a, rc0b, rc0c, rc0n]; done))
  replace c0_2 : w4.cell? ⟨w.heap.size, 2, none⟩ = some (.int .i64 P) := hx4.has (by first | exact c0_2 | (simp [go_sem, World.cell?_alloc_past, c0_0, c0_1, c0_2, c0_3, rc0, rc0a, rc0b, rc0c, rc0n]; done))
  replace c0_3 : w4.cell? ⟨w.heap.size, 3, none⟩ = some (.int .i64 F) := hx4.has (by first | exact c0_3 | (simp [go_sem, World.cell?_alloc_past, c0_0, c0_1, c0_2, c0_3, rc0, rc0a, rc0b, rc0c, rc0n]; done))
  have z4 := hx4.size
  try simp at z4
  replace rc0 : w.heap.size < w4.heap.size := by omega
  replace rc0a : w.heap.size < w4.heap.size + 1 := by omega
  replace rc0b : w.heap.size < w4.heap.size + 1 + 1 := by omega
  replace rc0c : w.heap.size < w4.heap.size + 1 + 1 + 1 := by omega
  replace rc0n : ¬ w.heap.size = w4.heap.size := by omega
  replace HY2 := Lib.hid (HY2.out.ext (Ext.trans (by repeat (first | with_reducible exact Ext.refl _ | with_reducible refine Ext.drew ?_ | with_reducible refine Ext.drewN ?_ _ | with_reducible refine Ext.alloc ?_ _ | with_reducible refine Ext.setCell ?_ (by first | omega | (simp; done) | (simp; omega)) _)) hx4))
  replace HS2 := Lib.hid (HS2.out.ext (Ext.trans (by repeat (first | with_reducible exact Ext.refl _ | with_reducible refine Ext.drew ?_ | with_reducible refine Ext.drewN ?_ _ | with_reducible refine Ext.alloc ?_ _ | with_reducible refine Ext.setCell ?_ (by first | omega | (simp; done) | (simp; omega)) _)) hx4))
  have X4 : Hid (Ext w w4) := Lib.hid (Ext.trans (by repeat (first | with_reducible exact X3.out | with_reducible refine Ext.drew ?_ | with_reducible refine Ext.drewN ?_ _ | with_reducible refine Ext.alloc ?_ _ | with_reducible refine Ext.setCell ?_ (by first | omega | (simp; done) | (simp; omega)) _)) hx4)
  have HK := Lib.hid (show OwnN _ _ _ _ _ from hk)
  clear X3 hx4 z4
  clear hk
  go_wp2_with fail
  (with_reducible refine (CR.out (some ⟨p.1, 0, none⟩) p.2 _ (by intro hh; cases hh) (lent_sl (HK.out.ext (by repeat (first | with_reducible exact Ext.refl _ | with_reducible refine Ext.drew ?_ | with_reducible refine Ext.drewN ?_ _ | with_reducible refine Ext.alloc ?_ _ | with_reducible refine Ext.setCell ?_ (by first | omega | (simp; done) | (simp; omega)) _))))).mono ?_)
  rintro e w5 ⟨rfl, hx5⟩
  replace c0_0 : w5.cell? ⟨w.heap.size, 0, none⟩ = some (.int .i64 V) := hx5.has (by first | exact c0_0 | (simp [go_sem, World.cell?_alloc_past, c0_0, c0_1, c0_2, c0_3, rc0, rc0a, rc0b, rc0c, rc0n]; done))
  replace c0_1 : w5.cell? ⟨w.heap.size, 1, none⟩ = some (.int .i64 S) := hx5.has (by first | exact c0_1 | (simp [go_sem, World.cell?_alloc_past, c0_0, c0_1, c0_2, c0_3, rc0, rc0a, rc0b, rc0c, rc0n]; done))
  replace c0_2 : w5.cell? ⟨w.heap.size, 2, none⟩ = some (.int .i64 P) := hx5.has (by first | exact c0_2 | (simp [go_sem, World.cell?_alloc_past, c0_0, c0_1, c0_2, c0_3, rc0, rc0a, rc0b, rc0c, rc0n]; done))
  replace c0_3 : w5.cell? ⟨w.heap.size, 3, none⟩ = some (.int .i64 F) := hx5.has (by first | exact c0_3 | (simp [go_sem, World.cell?_alloc_past, c0_0, c0_1, c0_2, c0_3, rc0, rc0a, rc0b, rc0c, rc0n]; done))
  have z5 := hx5.size
  try simp at z5
  replace rc0 : w.heap.size < w5.heap.size := by omega
  replace rc0a : w.heap.size < w5.heap.size + 1 := by omega
  replace rc0b : w.heap.size < w5.heap.size + 1 + 1 := by omega
  replace rc0c : w.heap.size < w5.heap.size + 1 + 1 + 1 := by omega
  replace rc0n : ¬ w.heap.size = w5.heap.size := by omega
  replace HY2 := Lib.hid (HY2.out.ext (Ext.trans (by repeat (first | with_reducible exact Ext.refl _ | with_reducible refine Ext.drew ?_ | with_reducible refine Ext.drewN ?_ _ | with_reducible refine Ext.alloc ?_ _ | with_reducible refine Ext.setCell ?_ (by first | omega | (simp; done) | (simp; omega)) _)) hx5))
  replace HS2 := Lib.hid (HS2.out.ext (Ext.trans (by repeat (first | with_reducible exact Ext.refl _ | with_reducible refine Ext.drew ?_ | with_reducible refine Ext.drewN ?_ _ | with_reducible refine Ext.alloc ?_ _ | with_reducible refine Ext.setCell ?_ (by first | omega | (simp; done) | (simp; omega)) _)) hx5))
  replace HK := Lib.hid (HK.out.ext (Ext.trans (by repeat (first | with_reducible exact Ext.refl _ | with_reducible refine Ext.drew ?_ | with_reducible refine Ext.drewN ?_ _ | with_reducible refine Ext.alloc ?_ _ | with_reducible refine Ext.setCell ?_ (by first | omega | (simp; done) | (simp; omega)) _)) hx5))
  have X5 : Hid (Ext w w5) := Lib.hid (Ext.trans (by repeat (first | with_reducible exact X4.out | with_reducible refine Ext.drew ?_ | with_reducible refine Ext.drewN ?_ _ | with_reducible refine Ext.alloc ?_ _ | with_reducible refine Ext.setCell ?_ (by first | omega | (simp; done) | (simp; omega)) _)) hx5)
  clear X4 hx5 z5
  go_wp2_with fail
  (with_reducible refine (CR2.out _ (HS2.out.ext (by repeat (first | with_reducible exact Ext.refl _ | with_reducible refine Ext.drew ?_ | with_reducible refine Ext.drewN ?_ _ | with_reducible refine Ext.alloc ?_ _ | with_reducible refine Ext.setCell ?_ (by first | omega | (simp; done) | (simp; omega)) _)))).mono ?_)
  rintro e w6 ⟨rfl, hx6⟩
  replace c0_0 : w6.cell? ⟨w.heap.size, 0, none⟩ = some (.int .i64 V) := hx6.has (by first | exact c0_0 | (simp [go_sem, World.cell?_alloc_past, c0_0, c0_1, c0_2, c0_3, rc0, rc0a, rc0b, rc0c, rc0n]; done))
  replace c0_1 : w6.cell? ⟨w.heap.size, 1, none⟩ = some (.int .i64 S) := hx6.has (by first | exact c0_1 | (simp [go_sem, World.cell?_alloc_past, c0_0, c0_1, c0_2, c0_3, rc0, rc0a, rc0b, rc0c, rc0n]; done))
  replace c0_2 : w6.cell? ⟨w.heap.size, 2, none⟩ = some (.int .i64 P) := hx6.has (by first | exact c0_2 | (simp [go_sem, World.cell?_alloc_past, c0_0, c0_1, c0_2, c0_3, rc0, rc0a, rc0b, rc0c, rc0n]; done))
  replace c0_3 : w6.cell? ⟨w.heap.size, 3, none⟩ = some (.int .i64 F) := hx6.has (by first | exact c0_3 | (simp [go_sem, World.cell?_alloc_past, c0_0, c0_1, c0_2, c0_3, rc0, rc0a, rc0b, rc0c, rc0n]; done))
  have c1_0 : w6.cell? ⟨w5.heap.size, 0, none⟩ = some (.int .i64 a) := hx6.has (by first | fail | (simp [go_sem, World.cell?_alloc_past, c0_0, c0_1, c0_2, c0_3, rc0, rc0a, rc0b, rc0c, rc0n]; done))
  have c1_1 : w6.cell? ⟨w5.heap.size, 1, none⟩ = some (.int .i64 b) := hx6.has (by first | fail | (simp [go_sem, World.cell?_alloc_past, c0_0, c0_1, c0_2, c0_3, rc0, rc0a, rc0b, rc0c, rc0n]; done))
  have c1_2 : w6.cell? ⟨w5.heap.size, 2, none⟩ = some (.int .i64 c) := hx6.has (by first | fail | (simp [go_sem, World.cell?_alloc_past, c0_0, c0_1, c0_2, c0_3, rc0, rc0a, rc0b, rc0c, rc0n]; done))
  have c1_3 : w6.cell? ⟨w5.heap.size, 3, none⟩ = some (.int .i64 d) := hx6.has (by first | fail | (simp [go_sem, World.cell?_alloc_past, c0_0, c0_1, c0_2, c0_3, rc0, rc0a, rc0b, rc0c, rc0n]; done))
  have c2_0 : w6.cell? ⟨w5.heap.size + 1, 0, none⟩ = some (.int .i64 e) := hx6.has (by first | fail | (simp [go_sem, World.cell?_alloc_past, c0_0, c0_1, c0_2, c0_3, rc0, rc0a, rc0b, rc0c, rc0n]; done))
  have c2_1 : w6.cell? ⟨w5.heap.size + 1, 1, none⟩ = some (.int .i64 f) := hx6.has (by first | fail | (simp [go_sem, World.cell?_alloc_past, c0_0, c0_1, c0_2, c0_3, rc0, rc0a, rc0b, rc0c, rc0n]; done))
  have z6 := hx6.size
  try simp at z6
  have lt_c0_c1 : w.heap.size < w5.heap.size := by omega
  have ne_c0_c1 : ¬ w.heap.size = w5.heap.size := by omega
  have lt_c0_c2 : w.heap.size < w5.heap.size + 1 := by omega
  have ne_c0_c2 : ¬ w.heap.size = w5.heap.size + 1 := by omega
  have ne_c1_c0 : ¬ w5.heap.size = w.heap.size := by omega
  have lt_c1_c2 : w5.heap.size < w5.heap.size + 1 := by omega
  have ne_c1_c2 : ¬ w5.heap.size = w5.heap.size + 1 := by omega
  have ne_c2_c0 : ¬ w5.heap.size + 1 = w.heap.size := by omega
  have ne_c2_c1 : ¬ w5.heap.size + 1 = w5.heap.size := by omega
  replace rc0 : w.heap.size < w6.heap.size := by omega
  replace rc0a : w.heap.size < w6.heap.size + 1 := by omega
  replace rc0b : w.heap.size < w6.heap.size + 1 + 1 := by omega
  replace rc0c : w.heap.size < w6.heap.size + 1 + 1 + 1 := by omega
  replace rc0n : ¬ w.heap.size = w6.heap.size := by omega
  have rc1 : w5.heap.size < w6.heap.size := by omega
  have rc1a : w5.heap.size < w6.heap.size + 1 := by omega
  have rc1b : w5.heap.size < w6.heap.size + 1 + 1 := by omega
  have rc1c : w5.heap.size < w6.heap.size + 1 + 1 + 1 := by omega
  have rc1n : ¬ w5.heap.size = w6.heap.size := by omega
  have rc2 : w5.heap.size + 1 < w6.heap.size := by omega
  have rc2a : w5.heap.size + 1 < w6.heap.size + 1 := by omega
  have rc2b : w5.heap.size + 1 < w6.heap.size + 1 + 1 := by omega
  have rc2c : w5.heap.size + 1 < w6.heap.size + 1 + 1 + 1 := by omega
  have rc2n : ¬ w5.heap.size + 1 = w6.heap.size := by omega
  replace HY2 := Lib.hid (HY2.out.ext (Ext.trans (by repeat (first | with_reducible exact Ext.refl _ | with_reducible refine Ext.drew ?_ | with_reducible refine Ext.drewN ?_ _ | with_reducible refine Ext.alloc ?_ _ | with_reducible refine Ext.setCell ?_ (by first | omega | (simp; done) | (simp; omega)) _)) hx6))
  replace HS2 := Lib.hid (HS2.out.ext (Ext.trans (by repeat (first | with_reducible exact Ext.refl _ | with_reducible refine Ext.drew ?_ | with_reducible refine Ext.drewN ?_ _ | with_reducible refine Ext.alloc ?_ _ | with_reducible refine Ext.setCell ?_ (by first | omega | (simp; done) | (simp; omega)) _)) hx6))
  replace HK := Lib.hid (HK.out.ext (Ext.trans (by repeat (first | with_reducible exact Ext.refl _ | with_reducible refine Ext.drew ?_ | with_reducible refine Ext.drewN ?_ _ | with_reducible refine Ext.alloc ?_ _ | with_reducible refine Ext.setCell ?_ (by first | omega | (simp; done) | (simp; omega)) _)) hx6))
  have X6 : Hid (Ext w w6) := Lib.hid (Ext.trans (by repeat (first | with_reducible exact X5.out | with_reducible refine Ext.drew ?_ | with_reducible refine Ext.drewN ?_ _ | with_reducible refine Ext.alloc ?_ _ | with_reducible refine Ext.setCell ?_ (by first | omega | (simp; done) | (simp; omega)) _)) hx6)
  clear X5 hx6 z6
  go_wp2_with fail
  (with_reducible refine ((Calls.mono (CB.out _) fun r w' h => own_out h)).mono ?_)
  rintro e w7 ⟨A3, c3, rfl, hn3, ho3, hx7⟩
  replace c1_0 : w7.cell? ⟨w5.heap.size, 0, none⟩ = some (.int .i64 a) := hx7.has (by first | exact c1_0 | (simp [go_sem, World.cell?_alloc_past, c0_0, c0_1, c0_2, c0_3, c1_0, c1_1, c1_2, c1_3, c2_0, c2_1, ne_c0_c1, ne_c0_c2, ne_c1_c0, ne_c1_c2, ne_c2_c0, ne_c2_c1, rc0, rc0a, rc0b, rc0c, rc0n, rc1, rc1a, rc1b, rc1c, rc1n, rc2, rc2a, rc2b, rc2c, rc2n]; done))
  replace c1_1 : w7.cell? ⟨w5.heap.size, 1, none⟩ = some (.int .i64 b) := hx7.has (by first | exact c1_1 | (simp [go_sem, World.cell?_alloc_past, c0_0, c0_1, c0_2, c0_3, c1_0, c1_1, c1_2, c1_3, c2_0, c2_1, ne_c0_c1, ne_c0_c2, ne_c1_c0, ne_c1_c2, ne_c2_c0, ne_c2_c1, rc0, rc0a, rc0b, rc0c, rc0n, rc1, rc1a, rc1b, rc1c, rc1n, rc2, rc2a, rc2b, rc2c, rc2n]; done))
  replace c1_2 : w7.cell? ⟨w5.heap.size, 2, none⟩ = some (.int .i64 c) := hx7.has (by first | exact c1_2 | (simp [go_sem, World.cell?_alloc_past, c0_0, c0_1, c0_2, c0_3, c1_0, c1_1, c1_2, c1_3, c2_0, c2_1, ne_c0_c1, ne_c0_c2, ne_c1_c0, ne_c1_c2, ne_c2_c0, ne_c2_c1, rc0, rc0a, rc0b, rc0c, rc0n, rc1, rc1a, rc1b, rc1c, rc1n, rc2, rc2a, rc2b, rc2c, rc2n]; done))
  replace c1_3 : w7.cell? ⟨w5.heap.size, 3, none⟩ = some (.int .i64 d) := hx7.has (by first | exact c1_3 | (simp [go_sem, World.cell?_alloc_past, c0_0, c0_1, c0_2, c0_3, c1_0, c1_1, c1_2, c1_3, c2_0, c2_1, ne_c0_c1, ne_c0_c2, ne_c1_c0, ne_c1_c2, ne_c2_c0, ne_c2_c1, rc0, rc0a, rc0b, rc0c, rc0n, rc1, rc1a, rc1b, rc1c, rc1n, rc2, rc2a, rc2b, rc2c, rc2n]; done))
  replace c2_0 : w7.cell? ⟨w5.heap.size + 1, 0, none⟩ = some (.int .i64 e) := hx7.has (by first | exact c2_0 | (simp [go_sem, World.cell?_alloc_past, c0_0, c0_1, c0_2, c0_3, c1_0, c1_1, c1_2, c1_3, c2_0, c2_1, ne_c0_c1, ne_c0_c2, ne_c1_c0, ne_c1_c2, ne_c2_c0, ne_c2_c1, rc0, rc0a, rc0b, rc0c, rc0n, rc1, rc1a, rc1b, rc1c, rc1n, rc2, rc2a, rc2b, rc2c, rc2n]; done))
  replace c2_1 : w7.cell? ⟨w5.heap.size + 1, 1, none⟩ = some (.int .i64 f) := hx7.has (by first | exact c2_1 | (simp [go_sem, World.cell?_alloc_past, c0_0, c0_1, c0_2, c0_3, c1_0, c1_1, c1_2, c1_3, c2_0, c2_1, ne_c0_c1, ne_c0_c2, ne_c1_c0, ne_c1_c2, ne_c2_c0, ne_c2_c1, rc0, rc0a, rc0b, rc0c, rc0n, rc1, rc1a, rc1b, rc1c, rc1n, rc2, rc2a, rc2b, rc2c, rc2n]; done))
  have c3_0 : w7.cell? ⟨w6.heap.size, 0, none⟩ = some (.int .i64 a) := hx7.has (by first | fail | (simp [go_sem, World.cell?_alloc_past, c0_0, c0_1, c0_2, c0_3, c1_0, c1_1, c1_2, c1_3, c2_0, c2_1, ne_c0_c1, ne_c0_c2, ne_c1_c0, ne_c1_c2, ne_c2_c0, ne_c2_c1, rc0, rc0a, rc0b, rc0c, rc0n, rc1, rc1a, rc1b, rc1c, rc1n, rc2, rc2a, rc2b, rc2c, rc2n]; done))
  have c3_1 : w7.cell? ⟨w6.heap.size, 1, none⟩ = some (.int .i64 b) := hx7.has (by first | fail | (simp [go_sem, World.cell?_alloc_past, c0_0, c0_1, c0_2, c0_3, c1_0, c1_1, c1_2, c1_3, c2_0, c2_1, ne_c0_c1, ne_c0_c2, ne_c1_c0, ne_c1_c2, ne_c2_c0, ne_c2_c1, rc0, rc0a, rc0b, rc0c, rc0n, rc1, rc1a, rc1b, rc1c, rc1n, rc2, rc2a, rc2b, rc2c, rc2n]; done))
  have c3_2 : w7.cell? ⟨w6.heap.size, 2, none⟩ = some (.int .i64 c) := hx7.has (by first | fail | (simp [go_sem, World.cell?_alloc_past, c0_0, c0_1, c0_2, c0_3, c1_0, c1_1, c1_2, c1_3, c2_0, c2_1, ne_c0_c1, ne_c0_c2, ne_c1_c0, ne_c1_c2, ne_c2_c0, ne_c2_c1, rc0, rc0a, rc0b, rc0c, rc0n, rc1, rc1a, rc1b, rc1c, rc1n, rc2, rc2a, rc2b, rc2c, rc2n]; done))
  have c3_3 : w7.cell? ⟨w6.heap.size, 3, none⟩ = some (.int .i64 d) := hx7.has (by first | fail | (simp [go_sem, World.cell?_alloc_past, c0_0, c0_1, c0_2, c0_3, c1_0, c1_1, c1_2, c1_3, c2_0, c2_1, ne_c0_c1, ne_c0_c2, ne_c1_c0, ne_c1_c2, ne_c2_c0, ne_c2_c1, rc0, rc0a, rc0b, rc0c, rc0n, rc1, rc1a, rc1b, rc1c, rc1n, rc2, rc2a, rc2b, rc2c, rc2n]; done))
  have c4_0 : w7.cell? ⟨w6.heap.size + 1, 0, none⟩ = some (.int .i64 e) := hx7.has (by first | fail | (simp [go_sem, World.cell?_alloc_past, c0_0, c0_1, c0_2, c0_3, c1_0, c1_1, c1_2, c1_3, c2_0, c2_1, ne_c0_c1, ne_c0_c2, ne_c1_c0, ne_c1_c2, ne_c2_c0, ne_c2_c1, rc0, rc0a, rc0b, rc0c, rc0n, rc1, rc1a, rc1b, rc1c, rc1n, rc2, rc2a, rc2b, rc2c, rc2n]; done))
  have c4_1 : w7.cell? ⟨w6.heap.size + 1, 1, none⟩ = some (.int .i64 f) := hx7.has (by first | fail | (simp [go_sem, World.cell?_alloc_past, c0_0, c0_1, c0_2, c0_3, c1_0, c1_1, c1_2, c1_3, c2_0, c2_1, ne_c0_c1, ne_c0_c2, ne_c1_c0, ne_c1_c2, ne_c2_c0, ne_c2_c1, rc0, rc0a, rc0b, rc0c, rc0n, rc1, rc1a, rc1b, rc1c, rc1n, rc2, rc2a, rc2b, rc2c, rc2n]; done))
  have z7 := hx7.size
  try simp at z7
  have lt_c1_c3 : w5.heap.size < w6.heap.size := by omega
  have ne_c1_c3 : ¬ w5.heap.size = w6.heap.size := by omega
  have lt_c1_c4 : w5.heap.size < w6.heap.size + 1 := by omega
  have ne_c1_c4 : ¬ w5.heap.size = w6.heap.size + 1 := by omega
  have lt_c2_c3 : w5.heap.size + 1 < w6.heap.size := by omega
  have ne_c2_c3 : ¬ w5.heap.size + 1 = w6.heap.size := by omega
  have lt_c2_c4 : w5.heap.size + 1 < w6.heap.size + 1 := by omega
  have ne_c2_c4 : ¬ w5.heap.size + 1 = w6.heap.size + 1 := by omega
  have ne_c3_c1 : ¬ w6.heap.size = w5.heap.size := by omega
  have ne_c3_c2 : ¬ w6.heap.size = w5.heap.size + 1 := by omega
  have lt_c3_c4 : w6.heap.size < w6.heap.size + 1 := by omega
  have ne_c3_c4 : ¬ w6.heap.size = w6.heap.size + 1 := by omega
  have ne_c4_c1 : ¬ w6.heap.size + 1 = w5.heap.size := by omega
  have ne_c4_c2 : ¬ w6.heap.size + 1 = w5.heap.size + 1 := by omega
  have ne_c4_c3 : ¬ w6.heap.size + 1 = w6.heap.size := by omega
  replace rc1 : w5.heap.size < w7.heap.size := by omega
  replace rc1a : w5.heap.size < w7.heap.size + 1 := by omega
  replace rc1b : w5.heap.size < w7.heap.size + 1 + 1 := by omega
  replace rc1c : w5.heap.size < w7.heap.size + 1 + 1 + 1 := by omega
  replace rc1n : ¬ w5.heap.size = w7.heap.size := by omega
  replace rc2 : w5.heap.size + 1 < w7.heap.size := by omega
  replace rc2a : w5.heap.size + 1 < w7.heap.size + 1 := by omega
  replace rc2b : w5.heap.size + 1 < w7.heap.size + 1 + 1 := by omega
  replace rc2c : w5.heap.size + 1 < w7.heap.size + 1 + 1 + 1 := by omega
  replace rc2n : ¬ w5.heap.size + 1 = w7.heap.size := by omega
  have rc3 : w6.heap.size < w7.heap.size := by omega
  have rc3a : w6.heap.size < w7.heap.size + 1 := by omega
  have rc3b : w6.heap.size < w7.heap.size + 1 + 1 := by omega
  have rc3c : w6.heap.size < w7.heap.size + 1 + 1 + 1 := by omega
  have rc3n : ¬ w6.heap.size = w7.heap.size := by omega
  have rc4 : w6.heap.size + 1 < w7.heap.size := by omega
  have rc4a : w6.heap.size + 1 < w7.heap.size + 1 := by omega
  have rc4b : w6.heap.size + 1 < w7.heap.size + 1 + 1 := by omega
  have rc4c : w6.heap.size + 1 < w7.heap.size + 1 + 1 + 1 := by omega
  have rc4n : ¬ w6.heap.size + 1 = w7.heap.size := by omega
  replace HY2 := Lib.hid (HY2.out.ext (Ext.trans (by repeat (first | with_reducible exact Ext.refl _ | with_reducible refine Ext.drew ?_ | with_reducible refine Ext.drewN ?_ _ | with_reducible refine Ext.alloc ?_ _ | with_reducible refine Ext.setCell ?_ (by first | omega | (simp; done) | (simp; omega)) _)) hx7))
  replace HS2 := Lib.hid (HS2.out.ext (Ext.trans (by repeat (first | with_reducible exact Ext.refl _ | with_reducible refine Ext.drew ?_ | with_reducible refine Ext.drewN ?_ _ | with_reducible refine Ext.alloc ?_ _ | with_reducible refine Ext.setCell ?_ (by first | omega | (simp; done) | (simp; omega)) _)) hx7))
  replace HK := Lib.hid (HK.out.ext (Ext.trans (by repeat (first | with_reducible exact Ext.refl _ | with_reducible refine Ext.drew ?_ | with_reducible refine Ext.drewN ?_ _ | with_reducible refine Ext.alloc ?_ _ | with_reducible refine Ext.setCell ?_ (by first | omega | (simp; done) | (simp; omega)) _)) hx7))
  have X7 : Hid (Ext w w7) := Lib.hid (Ext.trans (by repeat (first | with_reducible exact X6.out | with_reducible refine Ext.drew ?_ | with_reducible refine Ext.drewN ?_ _ | with_reducible refine Ext.alloc ?_ _ | with_reducible refine Ext.setCell ?_ (by first | omega | (simp; done) | (simp; omega)) _)) hx7)
  have HX3 := Lib.hid ho3
  clear c0_3 c0_0 c0_1 c0_2 rc0 rc0a rc0b rc0c rc0n X6 hx7 z7 ho3
  clear hn3
  go_wp2_with fail
  (with_reducible refine ((kKeptBytes_own p.1 p.2 A2 c2 M _ _ (HK.out.ext (by repeat (first | with_reducible exact Ext.refl _ | with_reducible refine Ext.drew ?_ | with_reducible refine Ext.drewN ?_ _ | with_reducible refine Ext.alloc ?_ _ | with_reducible refine Ext.setCell ?_ (by first | omega | (simp; done) | (simp; omega)) _))) (HS2.out.ext (by repeat (first | with_reducible exact Ext.refl _ | with_reducible refine Ext.drew ?_ | with_reducible refine Ext.drewN ?_ _ | with_reducible refine Ext.alloc ?_ _ | with_reducible refine Ext.setCell ?_ (by first | omega | (simp; done) | (simp; omega)) _))))).mono ?_)
  rintro e w8 ⟨rfl, hx8⟩
  have z8 := hx8.size
  try simp at z8
  replace HY2 := Lib.hid (HY2.out.ext (Ext.trans (by repeat (first | with_reducible exact Ext.refl _ | with_reducible refine Ext.drew ?_ | with_reducible refine Ext.drewN ?_ _ | with_reducible refine Ext.alloc ?_ _ | with_reducible refine Ext.setCell ?_ (by first | omega | (simp; done) | (simp; omega)) _)) hx8))
  replace HS2 := Lib.hid (HS2.out.ext (Ext.trans (by repeat (first | with_reducible exact Ext.refl _ | with_reducible refine Ext.drew ?_ | with_reducible refine Ext.drewN ?_ _ | with_reducible refine Ext.alloc ?_ _ | with_reducible refine Ext.setCell ?_ (by first | omega | (simp; done) | (simp; omega)) _)) hx8))
  replace HK := Lib.hid (HK.out.ext (Ext.trans (by repeat (first | with_reducible exact Ext.refl _ | with_reducible refine Ext.drew ?_ | with_reducible refine Ext.drewN ?_ _ | with_reducible refine Ext.alloc ?_ _ | with_reducible refine Ext.setCell ?_ (by first | omega | (simp; done) | (simp; omega)) _)) hx8))
  replace HX3 := Lib.hid (HX3.out.ext (Ext.trans (by repeat (first | with_reducible exact Ext.refl _ | with_reducible refine Ext.drew ?_ | with_reducible refine Ext.drewN ?_ _ | with_reducible refine Ext.alloc ?_ _ | with_reducible refine Ext.setCell ?_ (by first | omega | (simp; done) | (simp; omega)) _)) hx8))
  have X8 : Hid (Ext w w8) := Lib.hid (Ext.trans (by repeat (first | with_reducible exact X7.out | with_reducible refine Ext.drew ?_ | with_reducible refine Ext.drewN ?_ _ | with_reducible refine Ext.alloc ?_ _ | with_reducible refine Ext.setCell ?_ (by first | omega | (simp; done) | (simp; omega)) _)) hx8)
  clear c1_3 c1_0 c1_2 c1_1 c2_1 c2_0 c3_0 c3_1 c3_3 c3_2 c4_0 c4_1 rc2 rc2a rc2b rc2c rc2n rc4 rc4a rc4b rc4c rc4n rc3 rc3a rc3b rc3c rc3n rc1 rc1a rc1b rc1c rc1n X7 hx8 z8
  go_wp2_with fail
  (with_reducible refine ((kSameBytes_eq _ _ _ _ _ _ LB hLB _ (HX3.out.ext (by repeat (first | with_reducible exact Ext.refl _ | with_reducible refine Ext.drew ?_ | with_reducible refine Ext.drewN ?_ _ | with_reducible refine Ext.alloc ?_ _ | with_reducible refine Ext.setCell ?_ (by first | omega | (simp; done) | (simp; omega)) _))).sl (HY2.out.ext (by repeat (first | with_reducible exact Ext.refl _ | with_reducible refine Ext.drew ?_ | with_reducible refine Ext.drewN ?_ _ | with_reducible refine Ext.alloc ?_ _ | with_reducible refine Ext.setCell ?_ (by first | omega | (simp; done) | (simp; omega)) _))))).mono ?_)
  rintro e w_2 ⟨rfl, rfl⟩
  go_wp2_with fail
  (with_reducible refine (awake12_any _).mono ?_)
  rintro e w9 ⟨rfl, hx9⟩
  have z9 := hx9.size
  try simp at z9
  replace HY2 := Lib.hid (HY2.out.ext (Ext.trans (by repeat (first | with_reducible exact Ext.refl _ | with_reducible refine Ext.drew ?_ | with_reducible refine Ext.drewN ?_ _ | with_reducible refine Ext.alloc ?_ _ | with_reducible refine Ext.setCell ?_ (by first | omega | (simp; done) | (simp; omega)) _)) hx9))
  replace HS2 := Lib.hid (HS2.out.ext (Ext.trans (by repeat (first | with_reducible exact Ext.refl _ | with_reducible refine Ext.drew ?_ | with_reducible refine Ext.drewN ?_ _ | with_reducible refine Ext.alloc ?_ _ | with_reducible refine Ext.setCell ?_ (by first | omega | (simp; done) | (simp; omega)) _)) hx9))
  replace HK := Lib.hid (HK.out.ext (Ext.trans (by repeat (first | with_reducible exact Ext.refl _ | with_reducible refine Ext.drew ?_ | with_reducible refine Ext.drewN ?_ _ | with_reducible refine Ext.alloc ?_ _ | with_reducible refine Ext.setCell ?_ (by first | omega | (simp; done) | (simp; omega)) _)) hx9))
  replace HX3 := Lib.hid (HX3.out.ext (Ext.trans (by repeat (first | with_reducible exact Ext.refl _ | with_reducible refine Ext.drew ?_ | with_reducible refine Ext.drewN ?_ _ | with_reducible refine Ext.alloc ?_ _ | with_reducible refine Ext.setCell ?_ (by first | omega | (simp; done) | (simp; omega)) _)) hx9))
  have X9 : Hid (Ext w w9) := Lib.hid (Ext.trans (by repeat (first | with_reducible exact X8.out | with_reducible refine Ext.drew ?_ | with_reducible refine Ext.drewN ?_ _ | with_reducible refine Ext.alloc ?_ _ | with_reducible refine Ext.setCell ?_ (by first | omega | (simp; done) | (simp; omega)) _)) hx9)
  clear X8 hx9 z9
  go_wp2_with fail
  go_ret
  exact ⟨rfl, (by repeat (first | with_reducible exact X9.out | with_reducible refine Ext.drew ?_ | with_reducible refine Ext.drewN ?_ _ | with_reducible refine Ext.alloc ?_ _ | with_reducible refine Ext.setCell ?_ (by first | omega | (simp; done) | (simp; omega)) _))⟩
theorem StampBytes_any (V S P F : Int) (_ : Fits .i64 V) (_ : Fits .i64 S) (_ : Fits .i64 P) (_ : Fits .i64 F) (A2 : Option Addr) (c2 : Nat) (M : List Nat) (w : World) (hS : Sl w 1 A2 M.length c2 (by_ M)) (hM : Byt M) (hnil : A2 = none → c2 = 0) :
    Calls Try.prog 4 #[.agg #[.int .i64 V, .int .i64 S, .int .i64 P, .int .i64 F], .slice A2 M.length c2] w fun r w' => r = .returned (.bool true) ∧ Ext w w' := by
  by_cases hl : M.length ≤ 100
  · exact StampBytes_w V S P F (chkS V S P F) (rdZ M (tkA M (0, none))) (rdZ M (tkB M (0, none))) (rdZ M (tkC M (0, none) - 1)) (rdZ M (tkD M (0, none))) (rdS M).1 (if (rdS M).1 = 0 then 0 else (rdS M).2) (stB V S P F) M (byt_stB _ _ _ _) hM hl A2 c2 w hS (Lib.hid fun w => tBytes_any V S P F w) (Lib.hid fun w => rBytes12_any V S P F w)
      (Lib.hid fun A c w hn h => tRead_any A c M hM (by omega) hn w h) (Lib.hid fun w h => rRead12_any A2 c2 M hM (by omega) w h)
  · have hMd : (100 : Int) < (M.length : Int) := by omega
    have hs := hS.small
    clear hl hS
    go_enter Try.func4, Try.ntmps4
    go_wp2_with fail
    (with_reducible refine (awake12_any _).mono ?_)
    rintro e w1 ⟨rfl, hx1⟩
    have X := Lib.hid hx1
    clear hx1
    go_wp2_with fail
    go_ret
    exact ⟨rfl, Ext.trans ((Ext.refl w).alloc _) X.out⟩
end Go.Proofs.Ythaknigljjnnaaa
