/- law15: HopFull returns true, whatever comes in. Conditions: none but those of the arguments' types. -/
import Derived.Test.YtjdpgapmdmpjjaaHopListsW
import Derived.Test.YtjdpgapmdmpjjaaHop12
import Derived.Test.YtjdpgapmdmpjjaaKitC
import Derived.Test.YtjdpgapmdmpjjaaBytesM
import Derived.Test.YtjdpgapmdmpjjaaPick
set_option linter.unusedVariables false
set_option linter.unusedSimpArgs false
namespace Go.Proofs.Ytjdpgapmdmpjjaa
open Go.RowKit Go.ChangeShapes Go.WideShapes Go.Deep Go.Joins

theorem OwnN.but {S : Nat → Prop} {w w' : World} {base n c m : Nat} {A : Option Addr} {L : List Nat} (h : OwnN w base (.slice A m c) n L) (hx : But S w w') (hS : ∀ k o s, A = some ⟨k, o, s⟩ → ¬ S k) : OwnN w' base (.slice A m c) n L := by
  refine own_but h hx (fun j hj => ?_)
  cases A with
  | none => cases hj
  | some a => obtain ⟨b, o, s⟩ := a
              injection hj with hj
              have hj2 : b = j := hj
              subst hj2
              exact hS b o s rfl
theorem byt_num (l : List Int) : Byt (numB l) := byt_flat (fun x _ => byt_put x.toNat)
theorem byt_lst (l : List (Int × Int × Int × Int)) : Byt (lstB l) := by
  unfold lstB
  split
  · exact byt_append (byt_put _) (byt_flat (fun x _ => byt_num _))
  · exact byt_nil
theorem hopBytes_ev (A : Option Addr) (c : Nat) (l : List (Int × Int × Int × Int)) (L : List Nat) (E : Int) (w : World) (hs : Sl w 4 A l.length c (l.flatMap hopC)) (hw : ∀ x ∈ l, FitsH x) (hL : L = lstB l) (hE : E = (chkH l).1) : Calls Try.prog 51 #[.slice A l.length c] w fun r w' => ∃ A c, r = .returned (.tuple #[.slice A L.length c, .int .i64 E]) ∧ (A = none → c = 0) ∧ OwnN w' w.heap.size (.slice A L.length c) L.length L ∧ Ext w w' := by
  subst hL hE
  exact (hopBytes_any A c l w hs hw).mono fun r w' h => own_out h
theorem rBytes15_ev (A : Option Addr) (c : Nat) (l : List (Int × Int × Int × Int)) (L : List Nat) (E : Int) (w : World) (hs : Sl w 4 A l.length c (l.flatMap hopC)) (hw : ∀ x ∈ l, FitsH x) (hL : L = lstB l) (hE : E = (chkH l).1) : Calls Try.prog 52 #[.slice A l.length c] w fun r w' => ∃ A c, r = .returned (.tuple #[.slice A L.length c, .int .i64 E]) ∧ (A = none → c = 0) ∧ OwnN w' w.heap.size (.slice A L.length c) L.length L ∧ Ext w w' := by
  subst hL hE
  exact (rBytes15_any A c l w hs hw).mono fun r w' h => own_out h
/-- the hop of a number -/
def fullX (i : Nat) : (Int × Int × Int × Int) := ((i : Int) % 64, (i : Int) / 64 % 2, 2 + (i : Int) / 128 % 30, 1 + (i : Int) / 500)
def fullL (n : Nat) : List (Int × Int × Int × Int) := (List.range n).map fullX
theorem fullL_len (n : Nat) : (fullL n).length = n := by unfold fullL; simp
theorem fullL_next (n : Nat) : fullL (n + 1) = fullL n ++ [fullX n] := by unfold fullL; rw [List.range_succ, List.map_append]; rfl
theorem small_fits {y : Int} (h0 : 0 ≤ y) (h : y < 10000) : Fits .i64 y := by
  unfold Fits
  simp [Lit.wf, IntKind.min, IntKind.max, IntKind.bits, IntKind.signed]
  omega
theorem full_fits {n : Nat} (hn : n ≤ 5000) : ∀ x ∈ fullL n, FitsH x := by
  intro x hx
  obtain ⟨i, hi, rfl⟩ := List.mem_map.1 hx
  have hi2 : i < n := List.mem_range.1 hi
  unfold fullX
  refine ⟨small_fits ?_ ?_, small_fits ?_ ?_, small_fits ?_ ?_, small_fits ?_ ?_⟩ <;> dsimp only <;> omega
set_option maxRecDepth 100000 in
set_option maxHeartbeats 4000000 in
theorem HopFull_main (n p : Int) (N : Nat) (x0 x1 x2 x3 mo : Int) (w : World) (hp : Calls Try.prog 50 #[.int .i64 n, .int .i64 9] (w.alloc (.cells #[.int .i64 x0, .int .i64 x1, .int .i64 x2, .int .i64 x3] 24)) fun e w' => e = .returned (.int .i64 p) ∧ (w.alloc (.cells #[.int .i64 x0, .int .i64 x1, .int .i64 x2, .int .i64 x3] 24)) = w') (hN : (N : Int) = 4090 + p) (hN1 : N ≤ 4099) (hfx : FitsH (x0, x1, x2, x3)) :
    Calls Try.prog 5 #[.int .i64 n, .agg #[.int .i64 x0, .int .i64 x1, .int .i64 x2, .int .i64 x3], .int .i64 mo] w fun r w' => r = .returned (.bool true) ∧ Ext w w' := by
  have HP := Lib.hid hp
  have HX := Lib.hid hfx
  have hwr : IntKind.i64.wrap (4090 + p) = (N : Int) := by rw [IntWalk.i64_in _ (by omega)]; omega
  have hwr2 : Go.RowKit.wrap64 (4090 + p) = (N : Int) := by rw [← IntWalk.i64_left]; exact hwr
  have hwr3 : 4090 + p = (N : Int) := by omega
  obtain ⟨i0, hi0, hz0, hz1, hz2⟩ := info_parts hop_info
  clear hp hfx hN
  go_enter Try.func5, Try.ntmps5
  go_wp2_with fail
  refine (HP.out).mono ?_
  rintro e w1 ⟨rfl, rfl⟩
  clear HP
  go_wp2_with fail
  clear hwr hwr2 hwr3
  go_loopg [7, 8] N (fun gh q i wx => gh ≤ N ∧ i = .int .i64 ((N - gh : Nat) : Int) ∧ Hid (OwnHop wx (w.heap.size + 1) q (N - gh) (fullL (N - gh))) ∧ Ext (w.alloc (.cells #[.int .i64 x0, .int .i64 x1, .int .i64 x2, .int .i64 x3] 24)) wx)
  case atStart => exact ⟨Nat.le_refl _, by simp, Lib.hid (by rw [Nat.sub_self]; exact OwnHop.nil _ _), Ext.refl _⟩
  case round =>
    obtain ⟨hg, hi, ho, hx⟩ := hrel
    obtain ⟨k, hk⟩ : ∃ k, k = N - gk := ⟨_, rfl⟩
    rw [← hk] at hi ho
    subst hi
    have hrm := Ext.size hx
    simp at hrm
    by_cases hz : gk = 0
    · have hkn : ¬ (k : Int) < N := by omega
      obtain rfl : k = N := by omega
      obtain ⟨A, c, rfl, hnil, _⟩ := own_parts2 ho.out
      obtain ⟨l, hl⟩ : ∃ l, l = fullL k := ⟨_, rfl⟩
      have hfl : ∀ x ∈ l, FitsH x := by rw [hl]; exact full_fits (by omega)
      have hlen : l.length = k := by rw [hl, fullL_len]
      rw [← hl] at ho
      subst hlen
      have c0_0 : wr.cell? ⟨w.heap.size, 0, none⟩ = some (.int .i64 x0) := hx.has (by simp [go_sem])
      have c0_1 : wr.cell? ⟨w.heap.size, 1, none⟩ = some (.int .i64 x1) := hx.has (by simp [go_sem])
      have c0_2 : wr.cell? ⟨w.heap.size, 2, none⟩ = some (.int .i64 x2) := hx.has (by simp [go_sem])
      have c0_3 : wr.cell? ⟨w.heap.size, 3, none⟩ = some (.int .i64 x3) := hx.has (by simp [go_sem])
      have rc0 : w.heap.size < wr.heap.size := by omega
      have rc0a : w.heap.size < wr.heap.size + 1 := by omega
      have rc0b : w.heap.size < wr.heap.size + 1 + 1 := by omega
      have rc0c : w.heap.size < wr.heap.size + 1 + 1 + 1 := by omega
      have rc0n : ¬ w.heap.size = wr.heap.size := by omega
      have XR : Hid (Ext w wr) := Lib.hid (Ext.trans (Ext.alloc (Ext.refl w) _) hx)
      have HO := ho
      have HN := Lib.hid hnil
      have HW := Lib.hid hfl
      obtain ⟨⟨f1, f2⟩, hf⟩ : ∃ F, F = chkH l := ⟨_, rfl⟩
      obtain ⟨⟨LA, ea⟩, ha⟩ : ∃ F, F = addV l (x0, x1, x2, x3) mo := ⟨_, rfl⟩
      obtain ⟨LB, hb⟩ : ∃ L, L = lstB l := ⟨_, rfl⟩
      have F1 := Lib.hid hf
      have F4 := Lib.hid ha
      have F7 := Lib.hid hb
      have F8 : Hid (f1 = (chkH l).1) := Lib.hid (by rw [← hf])
      have HBY : Hid (Byt LB) := Lib.hid (by rw [hb]; exact byt_lst l)
      clear hx hk hg hz hl hfl hnil ho hf ha hb
      have HOi : Hid (∀ k o s, A = some ⟨k, o, s⟩ → k < wr.heap.size) := Lib.hid (fun k o s e => (HO.out.in_ k o s e).2)
      go_wp2_with fail
      (with_reducible refine (hopCheck_ev A l.length c l f1 f2 _ (HO.out.ext (by repeat (first | with_reducible exact Ext.refl _ | with_reducible refine Ext.drew ?_ | with_reducible refine Ext.drewN ?_ _ | with_reducible refine Ext.alloc ?_ _ | with_reducible refine Ext.setCell ?_ (by first | omega | (simp; done) | (simp; omega)) _))).sl (fits_t HW.out) F1.out).mono ?_)
      rintro e w21 ⟨rfl, hx21⟩
      replace c0_0 : w21.cell? ⟨w.heap.size, 0, none⟩ = some (.int .i64 x0) := hx21.has (by first | exact c0_0 | (simp [go_sem, World.cell?_alloc_past, c0_0, c0_1, c0_2, c0_3, rc0, rc0a, rc0b, rc0c, rc0n]; done))
      replace c0_1 : w21.cell? ⟨w.heap.size, 1, none⟩ = some (.int .i64 x1) := hx21.has (by first | exact c0_1 | (simp [go_sem, World.cell?_alloc_past, c0_0, c0_1, c0_2, c0_3, rc0, rc0a, rc0b, rc0c, rc0n]; done))
      replace c0_2 : w21.cell? ⟨w.heap.size, 2, none⟩ = some (.int .i64 x2) := hx21.has (by first | exact c0_2 | (simp [go_sem, World.cell?_alloc_past, c0_0, c0_1, c0_2, c0_3, rc0, rc0a, rc0b, rc0c, rc0n]; done))
      replace c0_3 : w21.cell? ⟨w.heap.size, 3, none⟩ = some (.int .i64 x3) := hx21.has (by first | exact c0_3 | (simp [go_sem, World.cell?_alloc_past, c0_0, c0_1, c0_2, c0_3, rc0, rc0a, rc0b, rc0c, rc0n]; done))
      have z21 := hx21.size
      try simp at z21
      replace rc0 : w.heap.size < w21.heap.size := by omega
      replace rc0a : w.heap.size < w21.heap.size + 1 := by omega
      replace rc0b : w.heap.size < w21.heap.size + 1 + 1 := by omega
      replace rc0c : w.heap.size < w21.heap.size + 1 + 1 + 1 := by omega
      replace rc0n : ¬ w.heap.size = w21.heap.size := by omega
      replace HO := Lib.hid (HO.out.ext (Ext.trans (by repeat (first | with_reducible exact Ext.refl _ | with_reducible refine Ext.drew ?_ | with_reducible refine Ext.drewN ?_ _ | with_reducible refine Ext.alloc ?_ _ | with_reducible refine Ext.setCell ?_ (by first | omega | (simp; done) | (simp; omega)) _)) hx21))
      have X21 : Hid (Ext w w21) := Lib.hid (Ext.trans (by repeat (first | with_reducible exact XR.out | with_reducible refine Ext.drew ?_ | with_reducible refine Ext.drewN ?_ _ | with_reducible refine Ext.alloc ?_ _ | with_reducible refine Ext.setCell ?_ (by first | omega | (simp; done) | (simp; omega)) _)) hx21)
      clear XR hx21
      go_wp2_with fail
      (with_reducible refine (rCheck15_ev A l.length c l f1 f2 _ (HO.out.ext (by repeat (first | with_reducible exact Ext.refl _ | with_reducible refine Ext.drew ?_ | with_reducible refine Ext.drewN ?_ _ | with_reducible refine Ext.alloc ?_ _ | with_reducible refine Ext.setCell ?_ (by first | omega | (simp; done) | (simp; omega)) _))).sl (fits_t HW.out) F1.out).mono ?_)
      rintro e w22 ⟨rfl, hx22⟩
      replace c0_0 : w22.cell? ⟨w.heap.size, 0, none⟩ = some (.int .i64 x0) := hx22.has (by first | exact c0_0 | (simp [go_sem, World.cell?_alloc_past, c0_0, c0_1, c0_2, c0_3, rc0, rc0a, rc0b, rc0c, rc0n]; done))
      replace c0_1 : w22.cell? ⟨w.heap.size, 1, none⟩ = some (.int .i64 x1) := hx22.has (by first | exact c0_1 | (simp [go_sem, World.cell?_alloc_past, c0_0, c0_1, c0_2, c0_3, rc0, rc0a, rc0b, rc0c, rc0n]; done))
      replace c0_2 : w22.cell? ⟨w.heap.size, 2, none⟩ = some (.int .i64 x2) := hx22.has (by first | exact c0_2 | (simp [go_sem, World.cell?_alloc_past, c0_0, c0_1, c0_2, c0_3, rc0, rc0a, rc0b, rc0c, rc0n]; done))
      replace c0_3 : w22.cell? ⟨w.heap.size, 3, none⟩ = some (.int .i64 x3) := hx22.has (by first | exact c0_3 | (simp [go_sem, World.cell?_alloc_past, c0_0, c0_1, c0_2, c0_3, rc0, rc0a, rc0b, rc0c, rc0n]; done))
      have z22 := hx22.size
      try simp at z22
      replace rc0 : w.heap.size < w22.heap.size := by omega
      replace rc0a : w.heap.size < w22.heap.size + 1 := by omega
      replace rc0b : w.heap.size < w22.heap.size + 1 + 1 := by omega
      replace rc0c : w.heap.size < w22.heap.size + 1 + 1 + 1 := by omega
      replace rc0n : ¬ w.heap.size = w22.heap.size := by omega
      replace HO := Lib.hid (HO.out.ext (Ext.trans (by repeat (first | with_reducible exact Ext.refl _ | with_reducible refine Ext.drew ?_ | with_reducible refine Ext.drewN ?_ _ | with_reducible refine Ext.alloc ?_ _ | with_reducible refine Ext.setCell ?_ (by first | omega | (simp; done) | (simp; omega)) _)) hx22))
      have X22 : Hid (Ext w w22) := Lib.hid (Ext.trans (by repeat (first | with_reducible exact X21.out | with_reducible refine Ext.drew ?_ | with_reducible refine Ext.drewN ?_ _ | with_reducible refine Ext.alloc ?_ _ | with_reducible refine Ext.setCell ?_ (by first | omega | (simp; done) | (simp; omega)) _)) hx22)
      clear X21 hx22
      go_wp2_with fail
      (with_reducible refine (hopAdd_ev A l.length c l LA x0 x1 x2 x3 mo ea _ (HO.out.ext (by repeat (first | with_reducible exact Ext.refl _ | with_reducible refine Ext.drew ?_ | with_reducible refine Ext.drewN ?_ _ | with_reducible refine Ext.alloc ?_ _ | with_reducible refine Ext.setCell ?_ (by first | omega | (simp; done) | (simp; omega)) _))).sl (by omega) HW.out HX.out HN.out F4.out).mono ?_)
      rintro e w23 ⟨A2, c2, rfl, _, hO2, hx23⟩
      replace c0_0 : w23.cell? ⟨w.heap.size, 0, none⟩ = some (.int .i64 x0) := hx23.has (by first | exact c0_0 | (simp [go_sem, World.cell?_alloc_past, c0_0, c0_1, c0_2, c0_3, rc0, rc0a, rc0b, rc0c, rc0n]; done))
      replace c0_1 : w23.cell? ⟨w.heap.size, 1, none⟩ = some (.int .i64 x1) := hx23.has (by first | exact c0_1 | (simp [go_sem, World.cell?_alloc_past, c0_0, c0_1, c0_2, c0_3, rc0, rc0a, rc0b, rc0c, rc0n]; done))
      replace c0_2 : w23.cell? ⟨w.heap.size, 2, none⟩ = some (.int .i64 x2) := hx23.has (by first | exact c0_2 | (simp [go_sem, World.cell?_alloc_past, c0_0, c0_1, c0_2, c0_3, rc0, rc0a, rc0b, rc0c, rc0n]; done))
      replace c0_3 : w23.cell? ⟨w.heap.size, 3, none⟩ = some (.int .i64 x3) := hx23.has (by first | exact c0_3 | (simp [go_sem, World.cell?_alloc_past, c0_0, c0_1, c0_2, c0_3, rc0, rc0a, rc0b, rc0c, rc0n]; done))
      have z23 := hx23.size
      try simp at z23
      replace rc0 : w.heap.size < w23.heap.size := by omega
      replace rc0a : w.heap.size < w23.heap.size + 1 := by omega
      replace rc0b : w.heap.size < w23.heap.size + 1 + 1 := by omega
      replace rc0c : w.heap.size < w23.heap.size + 1 + 1 + 1 := by omega
      replace rc0n : ¬ w.heap.size = w23.heap.size := by omega
      replace HO := Lib.hid (HO.out.ext (Ext.trans (by repeat (first | with_reducible exact Ext.refl _ | with_reducible refine Ext.drew ?_ | with_reducible refine Ext.drewN ?_ _ | with_reducible refine Ext.alloc ?_ _ | with_reducible refine Ext.setCell ?_ (by first | omega | (simp; done) | (simp; omega)) _)) hx23))
      have X23 : Hid (Ext w w23) := Lib.hid (Ext.trans (by repeat (first | with_reducible exact X22.out | with_reducible refine Ext.drew ?_ | with_reducible refine Ext.drewN ?_ _ | with_reducible refine Ext.alloc ?_ _ | with_reducible refine Ext.setCell ?_ (by first | omega | (simp; done) | (simp; omega)) _)) hx23)
      have HA := Lib.hid hO2
      clear X22 hx23 hO2
      have HAi : Hid (∀ k o s, A2 = some ⟨k, o, s⟩ → w22.heap.size ≤ k ∧ k < w23.heap.size) := Lib.hid (fun k o s e => by have h := HA.out.in_ k o s e; (try simp at h); omega)
      go_wp2_with fail
      (with_reducible refine (rAdd15_ev A l.length c l LA x0 x1 x2 x3 mo ea _ (HO.out.ext (by repeat (first | with_reducible exact Ext.refl _ | with_reducible refine Ext.drew ?_ | with_reducible refine Ext.drewN ?_ _ | with_reducible refine Ext.alloc ?_ _ | with_reducible refine Ext.setCell ?_ (by first | omega | (simp; done) | (simp; omega)) _))).sl (by omega) HW.out F4.out).mono ?_)
      rintro e w24 ⟨A3, c3, rfl, _, hO3, hx24⟩
      have z24 := hx24.size
      try simp at z24
      replace HO := Lib.hid (HO.out.ext (Ext.trans (by repeat (first | with_reducible exact Ext.refl _ | with_reducible refine Ext.drew ?_ | with_reducible refine Ext.drewN ?_ _ | with_reducible refine Ext.alloc ?_ _ | with_reducible refine Ext.setCell ?_ (by first | omega | (simp; done) | (simp; omega)) _)) hx24))
      replace HA := Lib.hid (HA.out.ext (Ext.trans (by repeat (first | with_reducible exact Ext.refl _ | with_reducible refine Ext.drew ?_ | with_reducible refine Ext.drewN ?_ _ | with_reducible refine Ext.alloc ?_ _ | with_reducible refine Ext.setCell ?_ (by first | omega | (simp; done) | (simp; omega)) _)) hx24))
      have X24 : Hid (Ext w w24) := Lib.hid (Ext.trans (by repeat (first | with_reducible exact X23.out | with_reducible refine Ext.drew ?_ | with_reducible refine Ext.drewN ?_ _ | with_reducible refine Ext.alloc ?_ _ | with_reducible refine Ext.setCell ?_ (by first | omega | (simp; done) | (simp; omega)) _)) hx24)
      have HB := Lib.hid hO3
      clear c0_2 c0_3 c0_1 c0_0 rc0 rc0a rc0b rc0c rc0n X23 hx24 hO3
      have HBi : Hid (∀ k o s, A3 = some ⟨k, o, s⟩ → w23.heap.size ≤ k ∧ k < w24.heap.size) := Lib.hid (fun k o s e => by have h := HB.out.in_ k o s e; (try simp at h); omega)
      go_wp2_with fail
      (with_reducible refine (hopBytes_ev A c l LB f1 _ (HO.out.ext (by repeat (first | with_reducible exact Ext.refl _ | with_reducible refine Ext.drew ?_ | with_reducible refine Ext.drewN ?_ _ | with_reducible refine Ext.alloc ?_ _ | with_reducible refine Ext.setCell ?_ (by first | omega | (simp; done) | (simp; omega)) _))).sl HW.out F7.out F8.out).mono ?_)
      rintro e w25 ⟨A4, c4, rfl, _, hO4, hx25⟩
      have z25 := hx25.size
      try simp at z25
      replace HO := Lib.hid (HO.out.ext (Ext.trans (by repeat (first | with_reducible exact Ext.refl _ | with_reducible refine Ext.drew ?_ | with_reducible refine Ext.drewN ?_ _ | with_reducible refine Ext.alloc ?_ _ | with_reducible refine Ext.setCell ?_ (by first | omega | (simp; done) | (simp; omega)) _)) hx25))
      replace HA := Lib.hid (HA.out.ext (Ext.trans (by repeat (first | with_reducible exact Ext.refl _ | with_reducible refine Ext.drew ?_ | with_reducible refine Ext.drewN ?_ _ | with_reducible refine Ext.alloc ?_ _ | with_reducible refine Ext.setCell ?_ (by first | omega | (simp; done) | (simp; omega)) _)) hx25))
      replace HB := Lib.hid (HB.out.ext (Ext.trans (by repeat (first | with_reducible exact Ext.refl _ | with_reducible refine Ext.drew ?_ | with_reducible refine Ext.drewN ?_ _ | with_reducible refine Ext.alloc ?_ _ | with_reducible refine Ext.setCell ?_ (by first | omega | (simp; done) | (simp; omega)) _)) hx25))
      have X25 : Hid (Ext w w25) := Lib.hid (Ext.trans (by repeat (first | with_reducible exact X24.out | with_reducible refine Ext.drew ?_ | with_reducible refine Ext.drewN ?_ _ | with_reducible refine Ext.alloc ?_ _ | with_reducible refine Ext.setCell ?_ (by first | omega | (simp; done) | (simp; omega)) _)) hx25)
      have HY := Lib.hid hO4
      clear X24 hx25 hO4
      have HYi : Hid (∀ k o s, A4 = some ⟨k, o, s⟩ → w24.heap.size ≤ k ∧ k < w25.heap.size) := Lib.hid (fun k o s e => by have h := HY.out.in_ k o s e; (try simp at h); omega)
      go_wp2_with fail
      (with_reducible refine (rBytes15_ev A c l LB f1 _ (HO.out.ext (by repeat (first | with_reducible exact Ext.refl _ | with_reducible refine Ext.drew ?_ | with_reducible refine Ext.drewN ?_ _ | with_reducible refine Ext.alloc ?_ _ | with_reducible refine Ext.setCell ?_ (by first | omega | (simp; done) | (simp; omega)) _))).sl HW.out F7.out F8.out).mono ?_)
      rintro e w26 ⟨A5, c5, rfl, _, hO5, hx26⟩
      have z26 := hx26.size
      try simp at z26
      replace HO := Lib.hid (HO.out.ext (Ext.trans (by repeat (first | with_reducible exact Ext.refl _ | with_reducible refine Ext.drew ?_ | with_reducible refine Ext.drewN ?_ _ | with_reducible refine Ext.alloc ?_ _ | with_reducible refine Ext.setCell ?_ (by first | omega | (simp; done) | (simp; omega)) _)) hx26))
      replace HA := Lib.hid (HA.out.ext (Ext.trans (by repeat (first | with_reducible exact Ext.refl _ | with_reducible refine Ext.drew ?_ | with_reducible refine Ext.drewN ?_ _ | with_reducible refine Ext.alloc ?_ _ | with_reducible refine Ext.setCell ?_ (by first | omega | (simp; done) | (simp; omega)) _)) hx26))
      replace HB := Lib.hid (HB.out.ext (Ext.trans (by repeat (first | with_reducible exact Ext.refl _ | with_reducible refine Ext.drew ?_ | with_reducible refine Ext.drewN ?_ _ | with_reducible refine Ext.alloc ?_ _ | with_reducible refine Ext.setCell ?_ (by first | omega | (simp; done) | (simp; omega)) _)) hx26))
      replace HY := Lib.hid (HY.out.ext (Ext.trans (by repeat (first | with_reducible exact Ext.refl _ | with_reducible refine Ext.drew ?_ | with_reducible refine Ext.drewN ?_ _ | with_reducible refine Ext.alloc ?_ _ | with_reducible refine Ext.setCell ?_ (by first | omega | (simp; done) | (simp; omega)) _)) hx26))
      have X26 : Hid (Ext w w26) := Lib.hid (Ext.trans (by repeat (first | with_reducible exact X25.out | with_reducible refine Ext.drew ?_ | with_reducible refine Ext.drewN ?_ _ | with_reducible refine Ext.alloc ?_ _ | with_reducible refine Ext.setCell ?_ (by first | omega | (simp; done) | (simp; omega)) _)) hx26)
      have HZ := Lib.hid hO5
      clear X25 hx26 hO5
      have HZi : Hid (∀ k o s, A5 = some ⟨k, o, s⟩ → w25.heap.size ≤ k ∧ k < w26.heap.size) := Lib.hid (fun k o s e => by have h := HZ.out.in_ k o s e; (try simp at h); omega)
      go_wp2_with fail
      (with_reducible refine (told15_eq A2 A3 _ c2 _ c3 _ LA _ (HA.out.ext (by repeat (first | with_reducible exact Ext.refl _ | with_reducible refine Ext.drew ?_ | with_reducible refine Ext.drewN ?_ _ | with_reducible refine Ext.alloc ?_ _ | with_reducible refine Ext.setCell ?_ (by first | omega | (simp; done) | (simp; omega)) _))) (HB.out.ext (by repeat (first | with_reducible exact Ext.refl _ | with_reducible refine Ext.drew ?_ | with_reducible refine Ext.drewN ?_ _ | with_reducible refine Ext.alloc ?_ _ | with_reducible refine Ext.setCell ?_ (by first | omega | (simp; done) | (simp; omega)) _))).sl).mono ?_)
      rintro e w27 ⟨rfl, hx27⟩
      have hsz27 := hx27.size
      try simp at hsz27
      have z27 := hx27.size
      try simp at z27
      have X27 : Hid (Ext w w27) := Lib.hid (have hX := (show Ext w _ from (by repeat (first | with_reducible exact X26.out | with_reducible refine Ext.drew ?_ | with_reducible refine Ext.drewN ?_ _ | with_reducible refine Ext.alloc ?_ _ | with_reducible refine Ext.setCell ?_ (by first | omega | (simp; done) | (simp; omega)) _))); Below.trans hX (hx27.below (Ext.size hX) (fun k hk hh => by obtain ⟨o2, s2, e2⟩ := hh; have h2 := HAi.out _ o2 s2 e2; omega)))
      replace HO := Lib.hid ((HO.out.ext (by repeat (first | with_reducible exact Ext.refl _ | with_reducible refine Ext.drew ?_ | with_reducible refine Ext.drewN ?_ _ | with_reducible refine Ext.alloc ?_ _ | with_reducible refine Ext.setCell ?_ (by first | omega | (simp; done) | (simp; omega)) _))).but hx27 (fun k o s e hk => by obtain ⟨o2, s2, e2⟩ := hk; have h1 := HOi.out k o s e; have h2 := HAi.out k o2 s2 e2; omega))
      replace HY := Lib.hid ((HY.out.ext (by repeat (first | with_reducible exact Ext.refl _ | with_reducible refine Ext.drew ?_ | with_reducible refine Ext.drewN ?_ _ | with_reducible refine Ext.alloc ?_ _ | with_reducible refine Ext.setCell ?_ (by first | omega | (simp; done) | (simp; omega)) _))).but hx27 (fun k o s e hk => by obtain ⟨o2, s2, e2⟩ := hk; have h1 := HYi.out k o s e; have h2 := HAi.out k o2 s2 e2; omega))
      replace HZ := Lib.hid ((HZ.out.ext (by repeat (first | with_reducible exact Ext.refl _ | with_reducible refine Ext.drew ?_ | with_reducible refine Ext.drewN ?_ _ | with_reducible refine Ext.alloc ?_ _ | with_reducible refine Ext.setCell ?_ (by first | omega | (simp; done) | (simp; omega)) _))).but hx27 (fun k o s e hk => by obtain ⟨o2, s2, e2⟩ := hk; have h1 := HZi.out k o s e; have h2 := HAi.out k o2 s2 e2; omega))
      clear HA HB hsz27 X26 hx27
      go_wp2_with fail
      (with_reducible refine (kSameBytes_eq A4 A5 _ c4 _ c5 LB HBY.out _ (HY.out.ext (by repeat (first | with_reducible exact Ext.refl _ | with_reducible refine Ext.drew ?_ | with_reducible refine Ext.drewN ?_ _ | with_reducible refine Ext.alloc ?_ _ | with_reducible refine Ext.setCell ?_ (by first | omega | (simp; done) | (simp; omega)) _))).sl (HZ.out.ext (by repeat (first | with_reducible exact Ext.refl _ | with_reducible refine Ext.drew ?_ | with_reducible refine Ext.drewN ?_ _ | with_reducible refine Ext.alloc ?_ _ | with_reducible refine Ext.setCell ?_ (by first | omega | (simp; done) | (simp; omega)) _))).sl).mono ?_)
      rintro e w_1 ⟨rfl, rfl⟩
      go_wp2_with fail
      (with_reducible refine (awake15_any _).mono ?_)
      rintro e w28 ⟨rfl, hx28⟩
      have z28 := hx28.size
      try simp at z28
      replace HO := Lib.hid (HO.out.ext (Ext.trans (by repeat (first | with_reducible exact Ext.refl _ | with_reducible refine Ext.drew ?_ | with_reducible refine Ext.drewN ?_ _ | with_reducible refine Ext.alloc ?_ _ | with_reducible refine Ext.setCell ?_ (by first | omega | (simp; done) | (simp; omega)) _)) hx28))
      replace HY := Lib.hid (HY.out.ext (Ext.trans (by repeat (first | with_reducible exact Ext.refl _ | with_reducible refine Ext.drew ?_ | with_reducible refine Ext.drewN ?_ _ | with_reducible refine Ext.alloc ?_ _ | with_reducible refine Ext.setCell ?_ (by first | omega | (simp; done) | (simp; omega)) _)) hx28))
      replace HZ := Lib.hid (HZ.out.ext (Ext.trans (by repeat (first | with_reducible exact Ext.refl _ | with_reducible refine Ext.drew ?_ | with_reducible refine Ext.drewN ?_ _ | with_reducible refine Ext.alloc ?_ _ | with_reducible refine Ext.setCell ?_ (by first | omega | (simp; done) | (simp; omega)) _)) hx28))
      have X28 : Hid (Ext w w28) := Lib.hid (Ext.trans (by repeat (first | with_reducible exact X27.out | with_reducible refine Ext.drew ?_ | with_reducible refine Ext.drewN ?_ _ | with_reducible refine Ext.alloc ?_ _ | with_reducible refine Ext.setCell ?_ (by first | omega | (simp; done) | (simp; omega)) _)) hx28)
      clear X27 hx28
      go_wp2_with fail
      go_ret
      exact ⟨rfl, (by repeat (first | with_reducible exact X28.out | with_reducible refine Ext.drew ?_ | with_reducible refine Ext.drewN ?_ _ | with_reducible refine Ext.alloc ?_ _ | with_reducible refine Ext.setCell ?_ (by first | omega | (simp; done) | (simp; omega)) _))⟩
    · have hkn : (k : Int) < N := by omega
      have HX1 := Lib.hid hx
      have HK := Lib.hid (And.intro hk (And.intro hg hz))
      have hkl : k < 1099511627776 := by omega
      have k0 : (0 : Int) ≤ (k : Int) := by omega
      have k1 : (k : Int) < 5000 := by omega
      clear hx hk hg hz
      go_wp2_with (at_builtin; refine wpList_append_new wr rfl _ _ 22 rfl (w.heap.size + 1) 24 i0 (.agg #[.int .i64 0, .int .i64 0, .int .i64 0, .int .i64 0]) 4 32 Try.underlying22 hi0 hz0 hz1 hz2 rfl (by decide) u7 _ _ (by rfl) ho.out (hopC (fullX k)).toArray 1 (by first | rfl | (simp [Act.eval]; done) | (simp [Act.eval, go_sem]; done)) rfl (by intro u hu; simp [hopC] at hu; rcases hu with rfl | rfl | rfl | rfl <;> rfl) hkl (by decide) hrm ?_; intro v1 w1 hown1 hb1)
      go_roundg (gk - 1)
      case measure => have := HK.out; omega
      case rel =>
        refine ⟨by have := HK.out; omega, num_eq (by have := HK.out; omega), Lib.hid ?_, Below.trans HX1.out (by simpa using hb1)⟩
        rw [show N - (gk - 1) = k + 1 from by have := HK.out; omega, fullL_next]
        unfold OwnHop
        rw [List.flatMap_append]
        exact hown1
theorem HopFull_any (n : Int) (hn : Fits .i64 n) (x0 x1 x2 x3 : Int) (g0 : Fits .i64 x0) (g1 : Fits .i64 x1) (g2 : Fits .i64 x2) (g3 : Fits .i64 x3) (mo : Int) (_ : Fits .i64 mo) (w : World) :
    Calls Try.prog 5 #[.int .i64 n, .agg #[.int .i64 x0, .int .i64 x1, .int .i64 x2, .int .i64 x3], .int .i64 mo] w fun r w' => r = .returned (.bool true) ∧ Ext w w' := by
  have hm0 := Int.emod_nonneg n (by decide : (9 : Int) ≠ 0)
  have hm1 := Int.emod_lt_of_pos n (by decide : (0 : Int) < 9)
  exact HopFull_main n (n % 9) (4090 + n % 9).toNat x0 x1 x2 x3 mo w (kPick_any n 9 hn.i64.1 hn.i64.2 (by decide) (by decide) _) (by omega) (by omega) ⟨g0, g1, g2, g3⟩
end Go.Proofs.Ytjdpgapmdmpjjaa
