/- roster: why a roster may not be, what is refused. Conditions stand in each lemma. -/
import Derived.Test.YtjdpgapmdmpjjaaRos2
set_option linter.unusedVariables false
set_option linter.unusedSimpArgs false
namespace Go.Proofs.Ytjdpgapmdmpjjaa
open Go.RowKit Go.ChangeShapes Go.WideShapes Go.Deep Go.Joins Go.Maps

theorem rosOne_ev (ev x0 x1 x2 x3 : Int) (x4 x5 : Bool) (bm : Nat) (os : List Int) (w : World) (hs : Seen w bm os) (hw : (Lit.int .i64 x0).wf = true) (he : ev = oneV x0 x1 x2 x3 x4 x5 (decide (x0 ∈ os))) :
    Calls Try.prog 98 #[.agg #[.int .i64 x0, .int .u64 x1, .int .i64 x2, .int .i64 x3, .bool x4, .bool x5], .map (some bm)] w fun e w' => e = .returned (.int .i64 ev) ∧ Ext w w' := by
  rw [he]
  exact rosOne_any x0 x1 x2 x3 x4 x5 bm os w hs hw
/-- what is bad about the k-th -/
def badV (l : List (Int × Int × Int × Int × Bool × Bool)) (k : Nat) : Int := match l[k]? with | some x => oneV x.1 x.2.1 x.2.2.1 x.2.2.2.1 x.2.2.2.2.1 x.2.2.2.2.2 (decide (x.1 ∈ (l.take k).map (·.1))) | none => 0
/-- why a roster may not be, and where -/
def chkV (l : List (Int × Int × Int × Int × Bool × Bool)) : Int × Int := if 32 < l.length then (4, 32) else match (List.range l.length).find? (fun k => badV l k != 0) with | some k => (badV l k, ((k : Nat) : Int)) | none => (0, 0)
theorem chkV_long {l : List (Int × Int × Int × Int × Bool × Bool)} (h : 32 < l.length) : chkV l = (4, 32) := by unfold chkV; rw [if_pos h]
theorem chkV_bad {l : List (Int × Int × Int × Int × Bool × Bool)} {k : Nat} (hl : ¬ 32 < l.length) (hk : k < l.length) (hb : badV l k ≠ 0) (hp : ∀ j, j < k → badV l j = 0) : chkV l = (badV l k, ((k : Nat) : Int)) := by
  have : (List.range l.length).find? (fun k => badV l k != 0) = some k := by
    rw [List.find?_range_eq_some]
    exact ⟨by simpa using hb, by simpa using hk, fun j hj => by simpa using hp j hj⟩
  unfold chkV
  rw [if_neg hl, this]
theorem chkV_ok {l : List (Int × Int × Int × Int × Bool × Bool)} (hl : ¬ 32 < l.length) (hp : ∀ j, j < l.length → badV l j = 0) : chkV l = (0, 0) := by
  have : (List.range l.length).find? (fun k => badV l k != 0) = none := by
    rw [List.find?_range_eq_none]
    intro j hj
    simpa using hp j hj
  unfold chkV
  rw [if_neg hl, this]
theorem chkV_zero {l : List (Int × Int × Int × Int × Bool × Bool)} (h : (chkV l).1 = 0) : chkV l = (0, 0) ∧ l.length ≤ 32 ∧ ∀ j, j < l.length → badV l j = 0 := by
  by_cases hl : 32 < l.length
  · rw [chkV_long hl] at h; simp at h
  by_cases hp : ∀ j, j < l.length → badV l j = 0
  · exact ⟨chkV_ok hl hp, by omega, hp⟩
  · exfalso
    unfold chkV at h
    rw [if_neg hl] at h
    split at h
    · rename_i k hk
      have := List.find?_some hk
      simp at this h
      exact this h
    · rename_i hk
      rw [List.find?_range_eq_none] at hk
      apply hp
      intro j hj
      simpa using hk j hj
set_option maxRecDepth 100000 in
set_option maxHeartbeats 2000000 in
theorem rosCheck_any (A : Option Addr) (n c : Nat) (l : List (Int × Int × Int × Int × Bool × Bool)) (w : World) (h : Sl w 6 A n c (l.flatMap valC)) (hw : ∀ x ∈ l, (Lit.int .i64 x.1).wf = true) :
    Calls Try.prog 37 #[.slice A n c] w fun e w' => e = .returned (.tuple #[.int .i64 (chkV l).1, .int .i64 (chkV l).2]) ∧ Ext w w' := by
  have hl := h.rlen valC_len (by decide)
  have s1 := h.small
  have HS := Lib.hid h
  have HL := Lib.hid hl
  have HW := Lib.hid hw
  obtain ⟨⟨f1, f2⟩, hF⟩ : ∃ F, F = chkV l := ⟨_, rfl⟩
  rw [← hF]
  have HF := Lib.hid hF
  have hmm := @run_makeMap Try.prog
  by_cases h32 : 32 < l.length
  · have hff : (f1, f2) = (4, 32) := by rw [hF]; exact chkV_long h32
    obtain ⟨rfl, rfl⟩ := Prod.mk.inj hff
    have e0 : (n : Int) > 32 := by omega
    clear h hl hF hff h32
    go_enter Try.func37, Try.ntmps37
    go_wp2
    refine bodyPost_ret (v := .tuple #[.int .i64 4, .int .i64 32]) (by simp [results, Try.results37]; try rfl) rfl ⟨rfl, Ext.refl _⟩
  have e0 : ¬ (n : Int) > 32 := by omega
  have HN := Lib.hid h32
  clear h hl hF h32 hw
  go_enter Try.func37, Try.ntmps37
  go_wp2
  go_loopg [14] n (fun gh i wx => gh ≤ n ∧ i = .int .i64 ((n - gh : Nat) : Int) ∧ Hid (∀ j, j < n - gh → badV l j = 0) ∧ Hid (Seen wx w.heap.size ((l.take (n - gh)).map (·.1))) ∧ Ext w wx)
  case atStart => exact ⟨Nat.le_refl _, by simp, Lib.hid (by intro j hj; omega), Lib.hid (by rw [Nat.sub_self]; exact Seen.made w), (Ext.refl _).alloc _⟩
  case round =>
    obtain ⟨hg, hi, hp, hse, hx⟩ := hrel
    obtain ⟨k, hk⟩ : ∃ k, k = n - gk := ⟨_, rfl⟩
    rw [← hk] at hi hp hse
    subst hi
    have XR := Lib.hid hx
    by_cases hz : gk = 0
    · have hkn : ¬ (k : Int) < n := by omega
      have hff : (f1, f2) = (0, 0) := by
        rw [HF.out]
        exact chkV_ok HN.out (fun j hj => hp.out j (by have := HL.out; omega))
      obtain ⟨rfl, rfl⟩ := Prod.mk.inj hff
      clear hx hk hg hz hff
      go_wp2
      refine bodyPost_ret (v := .tuple #[.int .i64 0, .int .i64 0]) (by simp [results, Try.results37]; try rfl) rfl ⟨rfl, XR.out⟩
    · have HSe := hse
      have hbm := hse.out.lt
      have hrm := Ext.size hx
      clear hse
      have hkn : (k : Int) < n := by omega
      have hk1 : k < l.length := by have := HL.out; omega
      obtain ⟨b1, o1, rfl, hb1, hc1⟩ := HS.out.rec_ valC_len (show 0 < n from by omega)
      have x_0 := XR.out.has (hc1 k _ (List.getElem?_eq_getElem hk1) 0 _ rfl)
      have x_1 := XR.out.has (hc1 k _ (List.getElem?_eq_getElem hk1) 1 _ rfl)
      have x_2 := XR.out.has (hc1 k _ (List.getElem?_eq_getElem hk1) 2 _ rfl)
      have x_3 := XR.out.has (hc1 k _ (List.getElem?_eq_getElem hk1) 3 _ rfl)
      have x_4 := XR.out.has (hc1 k _ (List.getElem?_eq_getElem hk1) 4 _ rfl)
      have x_5 := XR.out.has (hc1 k _ (List.getElem?_eq_getElem hk1) 5 _ rfl)
      obtain ⟨x, hxx⟩ : ∃ x, x = l[k] := ⟨_, rfl⟩
      have hlk : l[k]? = some x := by rw [hxx]; exact List.getElem?_eq_getElem hk1
      rw [← hxx] at x_0 x_1 x_2 x_3 x_4 x_5
      obtain ⟨x0, x1, x2, x3, x4, x5⟩ := x
      simp only at x_0 x_1 x_2 x_3 x_4 x_5
      rw [Nat.add_zero] at x_0
      rw [← Nat.add_assoc] at x_1 x_2 x_3 x_4 x_5
      have HQ := Lib.hid hlk
      have HK := Lib.hid (And.intro hk (And.intro hg hz))
      have hwf : (Lit.int .i64 x0).wf = true := HW.out _ (List.mem_of_getElem? hlk)
      obtain ⟨ev, hev⟩ : ∃ e, e = oneV x0 x1 x2 x3 x4 x5 (decide (x0 ∈ (l.take k).map (·.1))) := ⟨_, rfl⟩
      have hbv : badV l k = ev := by unfold badV; rw [hlk]; exact hev.symm
      have HEV := Lib.hid hev
      have HBV := Lib.hid hbv
      by_cases hE : ev = 0
      · subst hE
        clear hx hk hg hz hc1 hxx hk1 hlk hev hbv
        go_wp2_with fail
        (with_reducible refine (rosOne_ev 0 x0 x1 x2 x3 x4 x5 w.heap.size _ _ (HSe.out.ext (by repeat (first | with_reducible exact Ext.refl _ | with_reducible refine Ext.drew ?_ | with_reducible refine Ext.drewN ?_ _ | with_reducible refine Ext.alloc ?_ _ | with_reducible refine Ext.setCell ?_ (by first | omega | (simp; done) | (simp; omega)) _))) hwf HEV.out).mono ?_)
        rintro e w11 ⟨rfl, hx11⟩
        have c0_0 : w11.cell? ⟨wr.heap.size, 0, none⟩ = some (.int .i64 x0) := hx11.has (by first | fail | (simp [go_sem, World.cell?_alloc_past, x_0, x_1, x_2, x_3, x_4, x_5]; done))
        have z11 := hx11.size
        try simp at z11
        have rc0 : wr.heap.size < w11.heap.size := by omega
        have rc0a : wr.heap.size < w11.heap.size + 1 := by omega
        have rc0b : wr.heap.size < w11.heap.size + 1 + 1 := by omega
        have rc0c : wr.heap.size < w11.heap.size + 1 + 1 + 1 := by omega
        have rc0n : ¬ wr.heap.size = w11.heap.size := by omega
        replace HSe := Lib.hid (HSe.out.ext (Ext.trans (by repeat (first | with_reducible exact Ext.refl _ | with_reducible refine Ext.drew ?_ | with_reducible refine Ext.drewN ?_ _ | with_reducible refine Ext.alloc ?_ _ | with_reducible refine Ext.setCell ?_ (by first | omega | (simp; done) | (simp; omega)) _)) hx11))
        have X11 : Hid (Ext w w11) := Lib.hid (Ext.trans (by repeat (first | with_reducible exact XR.out | with_reducible refine Ext.drew ?_ | with_reducible refine Ext.drewN ?_ _ | with_reducible refine Ext.alloc ?_ _ | with_reducible refine Ext.setCell ?_ (by first | omega | (simp; done) | (simp; omega)) _)) hx11)
        clear x_5 x_4 x_1 x_3 x_0 x_2 XR hx11 z11
        obtain ⟨D, hd1, hd2, hd3⟩ := HSe.out
        have hln : ((l.take k).map (·.1)).length < 1000 := by have := HL.out; have := HN.out; simp; omega
        have hwk : (Lit.int .i64 (k : Int)).wf = true := by simp [Lit.wf, IntKind.min, IntKind.max, IntKind.bits, IntKind.signed]; have := HK.out; have := HL.out; have := HN.out; omega
        have hkey : keyOf Try.prog 3 (.int .i64 x0) = some (.int .i64 x0) := keyOf_int_mk Try.underlying3 hwf
        go_wp2_with (at_mapUpdate; refine wpList_mapUpdate_own _ rfl _ _ _ 111 rfl 3 3 rosLaw3 Try.underlying111 _ w.heap.size _ D rfl hd1 (by unfold maxLen; omega) _ _ _ rfl rfl hkey _ [] (plainElem_int Try.underlying3 hwk) ?_; intro w1 hown1 hgrow1)
        go_roundg (gk - 1)
        case measure => have := HK.out; omega
        case rel =>
          refine ⟨by have := HK.out; omega, num_eq (by have := HK.out; omega), Lib.hid ?_, Lib.hid ?_, Ext.grown X11.out hgrow1 (fun q hq => by cases hq; exact Nat.le_refl _)⟩
          · intro j hj
            rcases Nat.lt_or_ge j k with h | h
            · exact hp.out j h
            · have e : j = k := by have := HK.out; omega
              subst e
              exact HBV.out
          · have e : n - (gk - 1) = k + 1 := by have := HK.out; omega
            rw [e, valC_take HQ.out, List.map_append]
            exact Seen.put hown1 hd2 hd3
      · have hff : (f1, f2) = (ev, ((k : Nat) : Int)) := by
          rw [HF.out, ← hbv]
          exact chkV_bad HN.out hk1 (by rw [hbv]; exact hE) hp.out
        obtain ⟨rfl, rfl⟩ := Prod.mk.inj hff
        have e7 : (f1 != 0) = true := by simpa using hE
        have e8 : (f1 == 0) = false := by simpa using hE
        clear hx hk hg hz hc1 hxx hk1 hlk hev hbv hE hff
        go_wp2_with fail
        (with_reducible refine (rosOne_ev f1 x0 x1 x2 x3 x4 x5 w.heap.size _ _ (HSe.out.ext (by repeat (first | with_reducible exact Ext.refl _ | with_reducible refine Ext.drew ?_ | with_reducible refine Ext.drewN ?_ _ | with_reducible refine Ext.alloc ?_ _ | with_reducible refine Ext.setCell ?_ (by first | omega | (simp; done) | (simp; omega)) _))) hwf HEV.out).mono ?_)
        rintro e w11 ⟨rfl, hx11⟩
        have z11 := hx11.size
        try simp at z11
        replace HSe := Lib.hid (HSe.out.ext (Ext.trans (by repeat (first | with_reducible exact Ext.refl _ | with_reducible refine Ext.drew ?_ | with_reducible refine Ext.drewN ?_ _ | with_reducible refine Ext.alloc ?_ _ | with_reducible refine Ext.setCell ?_ (by first | omega | (simp; done) | (simp; omega)) _)) hx11))
        have X11 : Hid (Ext w w11) := Lib.hid (Ext.trans (by repeat (first | with_reducible exact XR.out | with_reducible refine Ext.drew ?_ | with_reducible refine Ext.drewN ?_ _ | with_reducible refine Ext.alloc ?_ _ | with_reducible refine Ext.setCell ?_ (by first | omega | (simp; done) | (simp; omega)) _)) hx11)
        clear x_5 x_4 x_1 x_3 x_0 x_2 XR hx11 z11
        go_wp2_with fail
        refine bodyPost_ret (v := .tuple #[.int .i64 f1, .int .i64 (k : Int)]) (by simp [results, Try.results37]; try rfl) rfl ⟨rfl, ?_⟩
        exact (by repeat (first | with_reducible exact X11.out | with_reducible refine Ext.drew ?_ | with_reducible refine Ext.drewN ?_ _ | with_reducible refine Ext.alloc ?_ _ | with_reducible refine Ext.setCell ?_ (by first | omega | (simp; done) | (simp; omega)) _))
end Go.Proofs.Ytjdpgapmdmpjjaa
