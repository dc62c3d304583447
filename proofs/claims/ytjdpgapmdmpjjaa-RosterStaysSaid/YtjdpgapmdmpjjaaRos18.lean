/- roster: the reference's Choose, Jail. Conditions stand in each lemma. -/
import Derived.Test.YtjdpgapmdmpjjaaRos17
set_option linter.unusedVariables false
set_option linter.unusedSimpArgs false
namespace Go.Proofs.Ytjdpgapmdmpjjaa
open Go.RowKit Go.ChangeShapes Go.WideShapes Go.Deep Go.Joins

theorem own_step2 {w : World} {base g n c k : Nat} {l : List (Int × Int × Int × Int × Bool × Bool)} {act : List Bool} {x : (Int × Int × Int × Int × Bool × Bool)} {a : Bool} {s : Int} {u : Value} (h : OwnVal w base (.slice (some ⟨g, 0, none⟩) n c) n (choUp l act k)) (h1 : l[k]? = some x) (h2 : act[k]? = some a) (he : choOne x a = setSt x s) :
    OwnVal ((w.setCell ⟨g, k * 6 + 2, none⟩ u).setCell ⟨g, k * 6 + 2, none⟩ (.int .i64 s)) base (.slice (some ⟨g, 0, none⟩) n c) n (choUp l act (k + 1)) := by
  obtain ⟨pre, post, e1, e2, e3⟩ := choUp_succ h1 h2
  have h3 := (World.ownsRow.stored (World.ownsRow.stored h (k * 6 + 2) u).1 (k * 6 + 2) (.int .i64 s)).1
  rw [List.set_set] at h3
  rw [e1, ← e3, val_set] at h3
  unfold OwnVal
  rw [e2, he]
  rw [e3] at h3
  exact h3
theorem rFree16_n (A : Option Addr) (c : Nat) (l : List (Int × Int × Int × Int × Bool × Bool)) (w : World) (h : Sl w 6 A l.length c (l.flatMap valC)) (hn : l.length < 1099511627776) :
    Calls Try.prog 43 #[.slice A l.length c] w fun e w' => ∃ A' c', e = .returned (.slice A' l.length c') ∧ OwnB w' w.heap.size (.slice A' l.length c') l.length (freeV l) ∧ Ext w w' := by
  refine (rFree16_any A l.length c l w h hn).mono ?_
  rintro e w' ⟨A', c', h1, _, h2, h3⟩
  have e2 : (freeV l).length = l.length := by simp [freeV]
  rw [e2] at h1 h2
  exact ⟨A', c', h1, h2, h3⟩
set_option maxRecDepth 100000 in
set_option maxHeartbeats 2000000 in
theorem rChoose16_chk (A A1 : Option Addr) (c n1 c1 : Nat) (l : List (Int × Int × Int × Int × Bool × Bool)) (act : List Bool) (f1 f2 : Int) (w : World) (h : Sl w 6 A l.length c (l.flatMap valC)) (ha : Sl w 1 A1 n1 c1 (act.map Value.bool)) (hf : (f1, f2) = chkV l) (hc : f1 ≠ 0) :
    Calls Try.prog 55 #[.slice A l.length c, .slice A1 n1 c1] w (RetV (choV l act).1 [.int .i64 (choV l act).2] w) := by
  have s1 := h.small
  have s2 := ha.small
  have hal : act.length = n1 := by have := ha.len; simpa using this
  have hv : choV l act = ([], f1) := by
    unfold choV
    rw [← hf]
    dsimp only
    rw [if_pos hc]
  rw [hv]
  dsimp only
  have e7 : (f1 != 0) = true := by simpa using hc
  have HS := Lib.hid h
  have HF := Lib.hid hf
  clear h ha hf hv
  go_enter Try.func55, Try.ntmps55
  go_wp2_with fail
  (with_reducible refine (rCheck16_ev A l.length c l f1 f2 _ (HS.out.ext (by repeat (first | with_reducible exact Ext.refl _ | with_reducible refine Ext.drew ?_ | with_reducible refine Ext.drewN ?_ _ | with_reducible refine Ext.alloc ?_ _ | with_reducible refine Ext.setCell ?_ (by first | omega | (simp; done) | (simp; omega)) _))) HF.out).mono ?_)
  rintro e w1 ⟨rfl, hx1⟩
  have z1 := hx1.size
  try simp at z1
  replace HS := Lib.hid (HS.out.ext (Ext.trans (by repeat (first | with_reducible exact Ext.refl _ | with_reducible refine Ext.drew ?_ | with_reducible refine Ext.drewN ?_ _ | with_reducible refine Ext.alloc ?_ _ | with_reducible refine Ext.setCell ?_ (by first | omega | (simp; done) | (simp; omega)) _)) hx1))
  have X1 : Hid (Ext w w1) := Lib.hid (Ext.trans (by repeat (first | with_reducible exact Ext.refl w | with_reducible refine Ext.drew ?_ | with_reducible refine Ext.drewN ?_ _ | with_reducible refine Ext.alloc ?_ _ | with_reducible refine Ext.setCell ?_ (by first | omega | (simp; done) | (simp; omega)) _)) hx1)
  clear hx1 z1
  go_wp2_with fail
  refine bodyPost_ret (v := .tuple #[.slice none 0 0, .int .i64 f1]) (by simp [results, Try.results55, go_sem, World.cell?_alloc_past]; try rfl) rfl (RetV.nil (xs := [.int .i64 f1]) ?_)
  exact (by repeat (first | with_reducible exact X1.out | with_reducible refine Ext.drew ?_ | with_reducible refine Ext.drewN ?_ _ | with_reducible refine Ext.alloc ?_ _ | with_reducible refine Ext.setCell ?_ (by first | omega | (simp; done) | (simp; omega)) _))
set_option maxRecDepth 100000 in
set_option maxHeartbeats 2000000 in
theorem rChoose16_len (A A1 : Option Addr) (c n1 c1 : Nat) (l : List (Int × Int × Int × Int × Bool × Bool)) (act : List Bool) (f1 f2 : Int) (w : World) (h : Sl w 6 A l.length c (l.flatMap valC)) (ha : Sl w 1 A1 n1 c1 (act.map Value.bool)) (hf : (f1, f2) = chkV l) (hc : f1 = 0) (hn1 : n1 ≠ l.length) :
    Calls Try.prog 55 #[.slice A l.length c, .slice A1 n1 c1] w (RetV (choV l act).1 [.int .i64 (choV l act).2] w) := by
  have s1 := h.small
  have s2 := ha.small
  have hal : act.length = n1 := by have := ha.len; simpa using this
  have hv : choV l act = ([], 2) := by
    unfold choV
    rw [← hf]
    dsimp only
    rw [if_neg (by simpa using hc), if_pos (by omega)]
  rw [hv]
  dsimp only
  subst hc
  have e7 : ((n1 : Int) != (l.length : Int)) = true := by simp; omega
  have HS := Lib.hid h
  have HF := Lib.hid hf
  clear h ha hf hv
  go_enter Try.func55, Try.ntmps55
  go_wp2_with fail
  (with_reducible refine (rCheck16_ev A l.length c l 0 f2 _ (HS.out.ext (by repeat (first | with_reducible exact Ext.refl _ | with_reducible refine Ext.drew ?_ | with_reducible refine Ext.drewN ?_ _ | with_reducible refine Ext.alloc ?_ _ | with_reducible refine Ext.setCell ?_ (by first | omega | (simp; done) | (simp; omega)) _))) HF.out).mono ?_)
  rintro e w1 ⟨rfl, hx1⟩
  have z1 := hx1.size
  try simp at z1
  replace HS := Lib.hid (HS.out.ext (Ext.trans (by repeat (first | with_reducible exact Ext.refl _ | with_reducible refine Ext.drew ?_ | with_reducible refine Ext.drewN ?_ _ | with_reducible refine Ext.alloc ?_ _ | with_reducible refine Ext.setCell ?_ (by first | omega | (simp; done) | (simp; omega)) _)) hx1))
  have X1 : Hid (Ext w w1) := Lib.hid (Ext.trans (by repeat (first | with_reducible exact Ext.refl w | with_reducible refine Ext.drew ?_ | with_reducible refine Ext.drewN ?_ _ | with_reducible refine Ext.alloc ?_ _ | with_reducible refine Ext.setCell ?_ (by first | omega | (simp; done) | (simp; omega)) _)) hx1)
  clear hx1 z1
  go_wp2_with fail
  refine bodyPost_ret (v := .tuple #[.slice none 0 0, .int .i64 2]) (by simp [results, Try.results55, go_sem, World.cell?_alloc_past]; try rfl) rfl (RetV.nil (xs := [.int .i64 2]) ?_)
  exact (by repeat (first | with_reducible exact X1.out | with_reducible refine Ext.drew ?_ | with_reducible refine Ext.drewN ?_ _ | with_reducible refine Ext.alloc ?_ _ | with_reducible refine Ext.setCell ?_ (by first | omega | (simp; done) | (simp; omega)) _))
set_option maxRecDepth 100000 in
set_option maxHeartbeats 2000000 in
theorem rChoose16_main (A A1 : Option Addr) (c n1 c1 : Nat) (l : List (Int × Int × Int × Int × Bool × Bool)) (act : List Bool) (f1 f2 : Int) (w : World) (h : Sl w 6 A l.length c (l.flatMap valC)) (ha : Sl w 1 A1 n1 c1 (act.map Value.bool)) (hf : (f1, f2) = chkV l) (hc : f1 = 0) (hn1 : n1 = l.length) (h32 : l.length ≤ 32) :
    Calls Try.prog 55 #[.slice A l.length c, .slice A1 n1 c1] w (RetV (choV l act).1 [.int .i64 (choV l act).2] w) := by
  have s1 := h.small
  have s2 := ha.small
  have hal : act.length = n1 := by have := ha.len; simpa using this
  subst hc
  subst hn1
  have e7 : ((l.length : Int) != (l.length : Int)) = false := by simp
  have HS := Lib.hid h
  have HA := Lib.hid ha
  have HF := Lib.hid hf
  have hch : (chkV l).1 = 0 := by rw [← hf]
  have HC := Lib.hid (And.intro hch hal)
  obtain ⟨⟨R, re⟩, hR⟩ : ∃ R, R = choV l act := ⟨_, rfl⟩
  rw [← hR]
  dsimp only
  have HR := Lib.hid hR
  clear h ha hf hch hal hR
  go_enter Try.func55, Try.ntmps55
  go_wp2_with fail
  (with_reducible refine (rCheck16_ev A l.length c l 0 f2 _ (HS.out.ext (by repeat (first | with_reducible exact Ext.refl _ | with_reducible refine Ext.drew ?_ | with_reducible refine Ext.drewN ?_ _ | with_reducible refine Ext.alloc ?_ _ | with_reducible refine Ext.setCell ?_ (by first | omega | (simp; done) | (simp; omega)) _))) HF.out).mono ?_)
  rintro e w1 ⟨rfl, hx1⟩
  have z1 := hx1.size
  try simp at z1
  replace HS := Lib.hid (HS.out.ext (Ext.trans (by repeat (first | with_reducible exact Ext.refl _ | with_reducible refine Ext.drew ?_ | with_reducible refine Ext.drewN ?_ _ | with_reducible refine Ext.alloc ?_ _ | with_reducible refine Ext.setCell ?_ (by first | omega | (simp; done) | (simp; omega)) _)) hx1))
  have X1 : Hid (Ext w w1) := Lib.hid (Ext.trans (by repeat (first | with_reducible exact Ext.refl w | with_reducible refine Ext.drew ?_ | with_reducible refine Ext.drewN ?_ _ | with_reducible refine Ext.alloc ?_ _ | with_reducible refine Ext.setCell ?_ (by first | omega | (simp; done) | (simp; omega)) _)) hx1)
  clear hx1 z1
  go_wp2_with fail
  have hrm1 := Ext.size X1.out
  (with_reducible refine (kCopyVals_any A c l _ (HS.out.ext (by repeat (first | with_reducible exact Ext.refl _ | with_reducible refine Ext.drew ?_ | with_reducible refine Ext.drewN ?_ _ | with_reducible refine Ext.alloc ?_ _ | with_reducible refine Ext.setCell ?_ (by first | omega | (simp; done) | (simp; omega)) _))) (by omega)).mono ?_)
  rintro e w2 ⟨A3, c3, rfl, hA3, hO3, hx2⟩
  have z2 := hx2.size
  try simp at z2
  replace HS := Lib.hid (HS.out.ext (Ext.trans (by repeat (first | with_reducible exact Ext.refl _ | with_reducible refine Ext.drew ?_ | with_reducible refine Ext.drewN ?_ _ | with_reducible refine Ext.alloc ?_ _ | with_reducible refine Ext.setCell ?_ (by first | omega | (simp; done) | (simp; omega)) _)) hx2))
  have X2 : Hid (Ext w w2) := Lib.hid (Ext.trans (by repeat (first | with_reducible exact X1.out | with_reducible refine Ext.drew ?_ | with_reducible refine Ext.drewN ?_ _ | with_reducible refine Ext.alloc ?_ _ | with_reducible refine Ext.setCell ?_ (by first | omega | (simp; done) | (simp; omega)) _)) hx2)
  have HO := Lib.hid (OwnVal.lower hO3 hrm1)
  clear X1 hx2 z2
  go_wp2_with fail
  have hin3 := Lib.hid (OwnVal.in_ HO.out)
  (with_reducible refine (rFree16_n A c l _ (HS.out.ext (by repeat (first | with_reducible exact Ext.refl _ | with_reducible refine Ext.drew ?_ | with_reducible refine Ext.drewN ?_ _ | with_reducible refine Ext.alloc ?_ _ | with_reducible refine Ext.setCell ?_ (by first | omega | (simp; done) | (simp; omega)) _))) (by omega)).mono ?_)
  rintro e w3 ⟨A4, c4, rfl, hO4, hx3⟩
  have z3 := hx3.size
  try simp at z3
  replace HS := Lib.hid (HS.out.ext (Ext.trans (by repeat (first | with_reducible exact Ext.refl _ | with_reducible refine Ext.drew ?_ | with_reducible refine Ext.drewN ?_ _ | with_reducible refine Ext.alloc ?_ _ | with_reducible refine Ext.setCell ?_ (by first | omega | (simp; done) | (simp; omega)) _)) hx3))
  replace HO := Lib.hid (HO.out.ext (Ext.trans (by repeat (first | with_reducible exact Ext.refl _ | with_reducible refine Ext.drew ?_ | with_reducible refine Ext.drewN ?_ _ | with_reducible refine Ext.alloc ?_ _ | with_reducible refine Ext.setCell ?_ (by first | omega | (simp; done) | (simp; omega)) _)) hx3))
  have X3 : Hid (Ext w w3) := Lib.hid (Ext.trans (by repeat (first | with_reducible exact X2.out | with_reducible refine Ext.drew ?_ | with_reducible refine Ext.drewN ?_ _ | with_reducible refine Ext.alloc ?_ _ | with_reducible refine Ext.setCell ?_ (by first | omega | (simp; done) | (simp; omega)) _)) hx3)
  have HB := Lib.hid hO4
  clear X2 hx3 z3 hO4
  have HD := Lib.hid (show ∀ b o s, A4 = some ⟨b, o, s⟩ → ∀ b' o' s', A3 = some ⟨b', o', s'⟩ → b ≠ b' from by
    intro b o s e b' o' s' e'
    subst e
    have h1 := World.ownsRow.lt HB.out b rfl
    have h2 := hin3.out b' o' s' e'
    omega)
  have HB2 := Lib.hid (OwnB.sl HB.out)
  go_wp2_with fail
  go_loopg [10] l.length (fun gh i wx => gh ≤ l.length ∧ i = .int .i64 ((l.length - gh : Nat) : Int) ∧ Hid (OwnVal wx w.heap.size (.slice A3 l.length c3) l.length (choUp l act (l.length - gh))) ∧ Hid (Sl wx 1 A4 l.length c4 ((freeV l).map Value.bool)) ∧ Hid (∀ (j : Nat) (x : (Int × Int × Int × Int × Bool × Bool)) (a : Bool), j < l.length - gh → l[j]? = some x → act[j]? = some a → choBad x a = false) ∧ Ext w wx)
  case atStart => exact ⟨Nat.le_refl _, by simp, Lib.hid (by rw [Nat.sub_self]; simpa [choUp] using HO.out), HB2, Lib.hid (by intro j x a hj; omega), X3.out⟩
  case round =>
    obtain ⟨hg, hi, ho, hb4, hp, hx⟩ := hrel
    obtain ⟨k, hk⟩ : ∃ k, k = l.length - gk := ⟨_, rfl⟩
    rw [← hk] at hi ho hp
    subst hi
    have XR := Lib.hid hx
    by_cases hz : gk = 0
    · have hkn : ¬ (k : Int) < l.length := by omega
      have hkl : k = l.length := by omega
      have hff : (R, re) = (choUp l act l.length, 0) := by
        rw [HR.out]
        refine cho_ok HC.out.1 HC.out.2 (fun j x a h1 h2 => hp.out j x a ?_ h1 h2)
        have := (List.getElem?_eq_some_iff.1 h1).1
        omega
      obtain ⟨rfl, rfl⟩ := Prod.mk.inj hff
      have HOO := Lib.hid (show OwnVal wr w.heap.size (.slice A3 l.length c3) l.length (choUp l act l.length) from by rw [← hkl]; exact hkl ▸ ho.out)
      clear hx hk hg hz hff
      go_wp2
      refine bodyPost_ret (v := .tuple #[.slice A3 l.length c3, .int .i64 0]) (by simp [results, Try.results55]; try rfl) rfl (RetV.mk (xs := [.int .i64 0]) HOO.out XR.out (choUp_len HC.out.2).symm)
    · have hkn : (k : Int) < l.length := by omega
      have hk1 : k < l.length := by omega
      have hk2 : k < act.length := by have := HC.out.2; omega
      obtain ⟨b1, o1, rfl, hb1, hc1⟩ := HA.out.at_ (show 0 < l.length from by omega)
      obtain ⟨b4, o4, rfl, hb2, hc2⟩ := hb4.out.at_ (show 0 < l.length from by omega)
      obtain ⟨x, hxx⟩ : ∃ x, x = l[k] := ⟨_, rfl⟩
      obtain ⟨a, haa⟩ : ∃ x, x = act[k] := ⟨_, rfl⟩
      have hlk : l[k]? = some x := by rw [hxx]; exact List.getElem?_eq_getElem hk1
      have hak : act[k]? = some a := by rw [haa]; exact List.getElem?_eq_getElem hk2
      have a_0 : wr.cell? ⟨b1, o1 + k, none⟩ = some (.bool a) := XR.out.has (hc1 k _ (by rw [List.getElem?_map, hak]; rfl))
      have f_0 : wr.cell? ⟨b4, o4 + k, none⟩ = some (.bool (isFree x)) := hc2 k _ (by rw [List.getElem?_map, freeV, List.getElem?_map, hlk]; rfl)
      obtain ⟨f, hff⟩ : ∃ f, f = isFree x := ⟨_, rfl⟩
      rw [← hff] at f_0
      rcases ho.out.2 with ⟨_, h0⟩ | ⟨g, cap, cur, h', hbg, _⟩
      · omega
      injection h' with h1 h2 h3
      subst h1; subst h3
      have hw := ho.out
      have hlen := hw.1
      have z_2 := (World.ownsRow.cellAt hw (k * 6 + 2) (by omega)).trans (List.getElem?_eq_getElem (by omega))
      have z_2f := World.ownsRow.frozenAt hw (k * 6 + 2)
      generalize ((choUp l act k).flatMap valC)[k * 6 + 2] = uz at z_2
      have hne4 : ¬ b4 = g := HD.out b4 o4 none rfl g 0 none rfl
      have HQ := Lib.hid (And.intro hlk hak)
      have HK := Lib.hid (And.intro hk (And.intro hg hz))
      have HFF := Lib.hid hff
      clear hx hk hg hz hc1 hc2 hxx haa hk1 hk2 hlk hak hff hw hlen
      have hne5 : ¬ g = b4 := fun e => hne4 e.symm
      have hb1w : ¬ b1 = g := by have := hb1; omega
      have hne6 : ¬ g = b1 := fun e => hb1w e.symm
      cases a <;> cases f
      · skip
        go_wp2_with fail
        go_roundg (gk - 1)
        case measure => have := HK.out; omega
        case rel =>
          refine ⟨by have := HK.out; omega, num_eq (by have := HK.out; omega), Lib.hid ?_, Lib.hid (hb4.out), Lib.hid ?_, XR.out⟩
          · rw [show l.length - (gk - 1) = k + 1 from by have := HK.out; omega]
            exact own_stay ho.out HQ.out.1 HQ.out.2 (by simp [choOne, ← HFF.out])
          · intro j y q hj h1 h2
            rcases Nat.lt_or_ge j k with h | h
            · exact hp.out j y q h h1 h2
            · have e : j = k := by have := HK.out; omega
              subst e
              rw [HQ.out.1] at h1
              rw [HQ.out.2] at h2
              injection h1 with h1
              injection h2 with h2
              subst h1; subst h2
              simp [choBad, ← HFF.out]
      · skip
        go_wp2_with fail
        go_roundg (gk - 1)
        case measure => have := HK.out; omega
        case rel =>
          refine ⟨by have := HK.out; omega, num_eq (by have := HK.out; omega), Lib.hid ?_, Lib.hid (Sl.setBlk hb4.out (by intro b o s e; cases e; exact hne4)), Lib.hid ?_, (XR.out.setCell hbg _)⟩
          · rw [show l.length - (gk - 1) = k + 1 from by have := HK.out; omega]
            exact own_step ho.out HQ.out.1 HQ.out.2 (by simp [choOne, ← HFF.out])
          · intro j y q hj h1 h2
            rcases Nat.lt_or_ge j k with h | h
            · exact hp.out j y q h h1 h2
            · have e : j = k := by have := HK.out; omega
              subst e
              rw [HQ.out.1] at h1
              rw [HQ.out.2] at h2
              injection h1 with h1
              injection h2 with h2
              subst h1; subst h2
              simp [choBad, ← HFF.out]
      · skip
        have hff2 : (R, re) = ([], 11) := by
          rw [HR.out]
          exact cho_bad HC.out.1 HC.out.2 HQ.out.1 HQ.out.2 (by simp [choBad, ← HFF.out])
        obtain ⟨rfl, rfl⟩ := Prod.mk.inj hff2
        clear hff2
        go_wp2_with fail
        refine bodyPost_ret (v := .tuple #[.slice none 0 0, .int .i64 11]) (by simp [results, Try.results55]; try rfl) rfl (RetV.nil (xs := [.int .i64 11]) ?_)
        exact (by repeat (first | with_reducible exact XR.out | with_reducible refine Ext.drew ?_ | with_reducible refine Ext.drewN ?_ _ | with_reducible refine Ext.alloc ?_ _ | with_reducible refine Ext.setCell ?_ (by first | omega | (simp; done) | (simp; omega)) _))
      · skip
        go_wp2_with fail
        go_roundg (gk - 1)
        case measure => have := HK.out; omega
        case rel =>
          refine ⟨by have := HK.out; omega, num_eq (by have := HK.out; omega), Lib.hid ?_, Lib.hid (Sl.setBlk (Sl.setBlk hb4.out (by intro b o s e; cases e; exact hne4)) (by intro b o s e; cases e; exact hne4)), Lib.hid ?_, ((XR.out.setCell hbg _).setCell hbg _)⟩
          · rw [show l.length - (gk - 1) = k + 1 from by have := HK.out; omega]
            exact own_step2 ho.out HQ.out.1 HQ.out.2 (by simp [choOne, ← HFF.out])
          · intro j y q hj h1 h2
            rcases Nat.lt_or_ge j k with h | h
            · exact hp.out j y q h h1 h2
            · have e : j = k := by have := HK.out; omega
              subst e
              rw [HQ.out.1] at h1
              rw [HQ.out.2] at h2
              injection h1 with h1
              injection h2 with h2
              subst h1; subst h2
              simp [choBad, ← HFF.out]
theorem rChoose16_any (A A1 : Option Addr) (c n1 c1 : Nat) (l : List (Int × Int × Int × Int × Bool × Bool)) (act : List Bool) (w : World) (h : Sl w 6 A l.length c (l.flatMap valC)) (ha : Sl w 1 A1 n1 c1 (act.map Value.bool)) :
    Calls Try.prog 55 #[.slice A l.length c, .slice A1 n1 c1] w (RetV (choV l act).1 [.int .i64 (choV l act).2] w) := by
  obtain ⟨⟨f1, f2⟩, hf⟩ : ∃ F, F = chkV l := ⟨_, rfl⟩
  by_cases hc : f1 = 0
  · by_cases hn : n1 = l.length
    · exact rChoose16_main A A1 c n1 c1 l act f1 f2 w h ha hf hc hn (chkV_zero (by rw [← hf]; exact hc)).2.1
    · exact rChoose16_len A A1 c n1 c1 l act f1 f2 w h ha hf hc hn
  · exact rChoose16_chk A A1 c n1 c1 l act f1 f2 w h ha hf hc
set_option maxRecDepth 100000 in
set_option maxHeartbeats 2000000 in
theorem rJail16_pre (A : Option Addr) (c : Nat) (l L : List (Int × Int × Int × Int × Bool × Bool)) (v : Int) (u f1 f2 r e : Int) (w : World) (hs : Sl w 6 A l.length c (l.flatMap valC)) (hf : (f1, f2) = chkV l) (hr : r = rfsV l v) (hF : (L, e) = jailV l v u) (ub : Bool) (hub : ub = decide (1 ≤ u ∧ u ≤ 4296015872)) (hc : f1 ≠ 0 ∨ r ≠ 0 ∨ ub = false) :
    Calls Try.prog 57 #[.slice A l.length c, .int .i64 v, .int .i64 u] w (RetV L [.int .i64 e] w) := by
  have s1 := hs.small
  have HS := Lib.hid hs
  have Hf := Lib.hid hf
  have Hr := Lib.hid hr
  have HF := Lib.hid hF
  clear hs hf hr hF
  have HU := Lib.hid hub
  clear hub
  go_enter Try.func57, Try.ntmps57
  go_wp2_with fail
  (with_reducible refine (rCheck16_ev A l.length c l f1 f2 _ (HS.out.ext (by repeat (first | with_reducible exact Ext.refl _ | with_reducible refine Ext.drew ?_ | with_reducible refine Ext.drewN ?_ _ | with_reducible refine Ext.alloc ?_ _ | with_reducible refine Ext.setCell ?_ (by first | omega | (simp; done) | (simp; omega)) _))) Hf.out).mono ?_)
  rintro e w1 ⟨rfl, hx1⟩
  have z1 := hx1.size
  try simp at z1
  replace HS := Lib.hid (HS.out.ext (Ext.trans (by repeat (first | with_reducible exact Ext.refl _ | with_reducible refine Ext.drew ?_ | with_reducible refine Ext.drewN ?_ _ | with_reducible refine Ext.alloc ?_ _ | with_reducible refine Ext.setCell ?_ (by first | omega | (simp; done) | (simp; omega)) _)) hx1))
  have X1 : Hid (Ext w w1) := Lib.hid (Ext.trans (by repeat (first | with_reducible exact Ext.refl w | with_reducible refine Ext.drew ?_ | with_reducible refine Ext.drewN ?_ _ | with_reducible refine Ext.alloc ?_ _ | with_reducible refine Ext.setCell ?_ (by first | omega | (simp; done) | (simp; omega)) _)) hx1)
  clear hx1 z1
  by_cases hc0 : f1 ≠ 0
  · have e_hc0 : (f1 != 0) = true := by simpa using hc0
    obtain ⟨q1, q2⟩ := Prod.mk.inj (HF.out.trans (show _ = (([] : List (Int × Int × Int × Int × Bool × Bool)), (f1 : Int)) from by unfold jailV; rw [← Hf.out]; exact if_pos hc0))
    replace q2 := q2.symm
    subst q1
    subst q2
    go_wp2_with fail
    refine bodyPost_ret (v := .tuple #[.slice none 0 0, .int .i64 f1]) (by simp [results, Try.results57, go_sem, World.cell?_alloc_past]; try rfl) rfl (RetV.nil (xs := [.int .i64 f1]) ?_)
    exact (by repeat (first | with_reducible exact X1.out | with_reducible refine Ext.drew ?_ | with_reducible refine Ext.drewN ?_ _ | with_reducible refine Ext.alloc ?_ _ | with_reducible refine Ext.setCell ?_ (by first | omega | (simp; done) | (simp; omega)) _))
  · have e_hc0 : (f1 != 0) = false := by simpa using hc0
    go_wp2_with fail
    (with_reducible refine (rRefuse16_e A l.length c l v r _ (HS.out.ext (by repeat (first | with_reducible exact Ext.refl _ | with_reducible refine Ext.drew ?_ | with_reducible refine Ext.drewN ?_ _ | with_reducible refine Ext.alloc ?_ _ | with_reducible refine Ext.setCell ?_ (by first | omega | (simp; done) | (simp; omega)) _))) Hr.out).mono ?_)
    rintro e w2 ⟨rfl, hx2⟩
    have z2 := hx2.size
    try simp at z2
    replace HS := Lib.hid (HS.out.ext (Ext.trans (by repeat (first | with_reducible exact Ext.refl _ | with_reducible refine Ext.drew ?_ | with_reducible refine Ext.drewN ?_ _ | with_reducible refine Ext.alloc ?_ _ | with_reducible refine Ext.setCell ?_ (by first | omega | (simp; done) | (simp; omega)) _)) hx2))
    have X2 : Hid (Ext w w2) := Lib.hid (Ext.trans (by repeat (first | with_reducible exact X1.out | with_reducible refine Ext.drew ?_ | with_reducible refine Ext.drewN ?_ _ | with_reducible refine Ext.alloc ?_ _ | with_reducible refine Ext.setCell ?_ (by first | omega | (simp; done) | (simp; omega)) _)) hx2)
    clear X1 hx2 z2
    by_cases h1 : r ≠ 0
    · have e_h1 : (r != 0) = true := by simpa using h1
      obtain ⟨q1, q2⟩ := Prod.mk.inj (HF.out.trans (show _ = (([] : List (Int × Int × Int × Int × Bool × Bool)), (r : Int)) from by unfold jailV; rw [← Hf.out, if_neg (by simpa using hc0), ← Hr.out, if_pos h1]))
      replace q2 := q2.symm
      subst q1
      subst q2
      go_wp2_with fail
      refine bodyPost_ret (v := .tuple #[.slice none 0 0, .int .i64 r]) (by simp [results, Try.results57, go_sem, World.cell?_alloc_past]; try rfl) rfl (RetV.nil (xs := [.int .i64 r]) ?_)
      exact (by repeat (first | with_reducible exact X2.out | with_reducible refine Ext.drew ?_ | with_reducible refine Ext.drewN ?_ _ | with_reducible refine Ext.alloc ?_ _ | with_reducible refine Ext.setCell ?_ (by first | omega | (simp; done) | (simp; omega)) _))
    · have e_h1 : (r != 0) = false := by simpa using h1
      go_wp2_with fail
      have hub : ub = false := hc.elim (fun h => absurd h (by simpa using hc0)) (fun h => h.elim (fun h => absurd h (by simpa using h1)) id)
      subst hub
      (with_reducible refine (rUntil16_any u false _ HU.out).mono ?_)
      rintro e w3 ⟨rfl, hx3⟩
      have z3 := hx3.size
      try simp at z3
      replace HS := Lib.hid (HS.out.ext (Ext.trans (by repeat (first | with_reducible exact Ext.refl _ | with_reducible refine Ext.drew ?_ | with_reducible refine Ext.drewN ?_ _ | with_reducible refine Ext.alloc ?_ _ | with_reducible refine Ext.setCell ?_ (by first | omega | (simp; done) | (simp; omega)) _)) hx3))
      have X3 : Hid (Ext w w3) := Lib.hid (Ext.trans (by repeat (first | with_reducible exact X2.out | with_reducible refine Ext.drew ?_ | with_reducible refine Ext.drewN ?_ _ | with_reducible refine Ext.alloc ?_ _ | with_reducible refine Ext.setCell ?_ (by first | omega | (simp; done) | (simp; omega)) _)) hx3)
      clear X2 hx3 z3
      obtain ⟨q1, q2⟩ := Prod.mk.inj (HF.out.trans (show _ = (([] : List (Int × Int × Int × Int × Bool × Bool)), (3 : Int)) from by unfold jailV; rw [← Hf.out, if_neg (by simpa using hc0), ← Hr.out, if_neg (by simpa using h1), if_pos (by have := HU.out; simpa using this.symm)]))
      replace q2 := q2.symm
      subst q1
      subst q2
      go_wp2_with fail
      refine bodyPost_ret (v := .tuple #[.slice none 0 0, .int .i64 3]) (by simp [results, Try.results57, go_sem, World.cell?_alloc_past]; try rfl) rfl (RetV.nil (xs := [.int .i64 3]) ?_)
      exact (by repeat (first | with_reducible exact X3.out | with_reducible refine Ext.drew ?_ | with_reducible refine Ext.drewN ?_ _ | with_reducible refine Ext.alloc ?_ _ | with_reducible refine Ext.setCell ?_ (by first | omega | (simp; done) | (simp; omega)) _))
set_option maxRecDepth 100000 in
set_option maxHeartbeats 2000000 in
theorem rJail16_ok (A : Option Addr) (c : Nat) (l L : List (Int × Int × Int × Int × Bool × Bool)) (k : Nat) (x0 x1 x2 x3 : Int) (x4 x5 : Bool) (u f1 f2 r e : Int) (w : World) (hs : Sl w 6 A l.length c (l.flatMap valC)) (hf : (f1, f2) = chkV l) (hr : r = rfsV l (k : Int)) (hF : (L, e) = jailV l (k : Int) u) (hc : f1 = 0) (hr0 : r = 0) (hu : 1 ≤ u ∧ u ≤ 4296015872) (hk : l[k]? = some (x0, x1, x2, x3, x4, x5)) (h32 : l.length ≤ 32) :
    Calls Try.prog 57 #[.slice A l.length c, .int .i64 (k : Int), .int .i64 u] w (RetV L [.int .i64 e] w) := by
  have s1 := hs.small
  have e7 : (f1 != 0) = false := by simpa using hc
  have e8 : (r != 0) = false := by simpa using hr0
  have HU : Hid (true = decide (1 ≤ u ∧ u ≤ 4296015872)) := Lib.hid (decide_eq_true hu).symm
  have hk1 : (k : Int) < l.length := by have := (List.getElem?_eq_some_iff.1 hk).1; omega
  obtain ⟨q1, q2⟩ := Prod.mk.inj (hF.trans (jailV_at (by rw [← hf]; exact hc) (by rw [← hr]; exact hr0) hu hk))
  replace q2 := q2.symm
  subst q1
  subst q2
  have HK := Lib.hid hk
  have HS := Lib.hid hs
  have Hf := Lib.hid hf
  have Hr := Lib.hid hr
  clear hs hr hf hF hk hu
  obtain ⟨mx, hmx⟩ : ∃ mx, mx = max x3 u := ⟨_, rfl⟩
  have HM := Lib.hid hmx
  have hmax := rosPunOne_max hmx
  clear hmx
  go_enter Try.func57, Try.ntmps57
  go_wp2_with fail
  (with_reducible refine (rCheck16_ev A l.length c l f1 f2 _ (HS.out.ext (by repeat (first | with_reducible exact Ext.refl _ | with_reducible refine Ext.drew ?_ | with_reducible refine Ext.drewN ?_ _ | with_reducible refine Ext.alloc ?_ _ | with_reducible refine Ext.setCell ?_ (by first | omega | (simp; done) | (simp; omega)) _))) Hf.out).mono ?_)
  rintro e w1 ⟨rfl, hx1⟩
  have z1 := hx1.size
  try simp at z1
  replace HS := Lib.hid (HS.out.ext (Ext.trans (by repeat (first | with_reducible exact Ext.refl _ | with_reducible refine Ext.drew ?_ | with_reducible refine Ext.drewN ?_ _ | with_reducible refine Ext.alloc ?_ _ | with_reducible refine Ext.setCell ?_ (by first | omega | (simp; done) | (simp; omega)) _)) hx1))
  have X1 : Hid (Ext w w1) := Lib.hid (Ext.trans (by repeat (first | with_reducible exact Ext.refl w | with_reducible refine Ext.drew ?_ | with_reducible refine Ext.drewN ?_ _ | with_reducible refine Ext.alloc ?_ _ | with_reducible refine Ext.setCell ?_ (by first | omega | (simp; done) | (simp; omega)) _)) hx1)
  clear hx1 z1
  go_wp2_with fail
  (with_reducible refine (rRefuse16_e A l.length c l (k : Int) r _ (HS.out.ext (by repeat (first | with_reducible exact Ext.refl _ | with_reducible refine Ext.drew ?_ | with_reducible refine Ext.drewN ?_ _ | with_reducible refine Ext.alloc ?_ _ | with_reducible refine Ext.setCell ?_ (by first | omega | (simp; done) | (simp; omega)) _))) Hr.out).mono ?_)
  rintro e w2 ⟨rfl, hx2⟩
  have z2 := hx2.size
  try simp at z2
  replace HS := Lib.hid (HS.out.ext (Ext.trans (by repeat (first | with_reducible exact Ext.refl _ | with_reducible refine Ext.drew ?_ | with_reducible refine Ext.drewN ?_ _ | with_reducible refine Ext.alloc ?_ _ | with_reducible refine Ext.setCell ?_ (by first | omega | (simp; done) | (simp; omega)) _)) hx2))
  have X2 : Hid (Ext w w2) := Lib.hid (Ext.trans (by repeat (first | with_reducible exact X1.out | with_reducible refine Ext.drew ?_ | with_reducible refine Ext.drewN ?_ _ | with_reducible refine Ext.alloc ?_ _ | with_reducible refine Ext.setCell ?_ (by first | omega | (simp; done) | (simp; omega)) _)) hx2)
  clear X1 hx2 z2
  go_wp2_with fail
  (with_reducible refine (rUntil16_any u true _ HU.out).mono ?_)
  rintro e w3 ⟨rfl, hx3⟩
  have z3 := hx3.size
  try simp at z3
  replace HS := Lib.hid (HS.out.ext (Ext.trans (by repeat (first | with_reducible exact Ext.refl _ | with_reducible refine Ext.drew ?_ | with_reducible refine Ext.drewN ?_ _ | with_reducible refine Ext.alloc ?_ _ | with_reducible refine Ext.setCell ?_ (by first | omega | (simp; done) | (simp; omega)) _)) hx3))
  have X3 : Hid (Ext w w3) := Lib.hid (Ext.trans (by repeat (first | with_reducible exact X2.out | with_reducible refine Ext.drew ?_ | with_reducible refine Ext.drewN ?_ _ | with_reducible refine Ext.alloc ?_ _ | with_reducible refine Ext.setCell ?_ (by first | omega | (simp; done) | (simp; omega)) _)) hx3)
  clear X2 hx3 z3
  go_wp2_with fail
  have hrm := Ext.size X3.out
  (with_reducible refine (kCopyVals_any A c l _ (HS.out.ext (by repeat (first | with_reducible exact Ext.refl _ | with_reducible refine Ext.drew ?_ | with_reducible refine Ext.drewN ?_ _ | with_reducible refine Ext.alloc ?_ _ | with_reducible refine Ext.setCell ?_ (by first | omega | (simp; done) | (simp; omega)) _))) (by omega)).mono ?_)
  rintro e w4 ⟨A1, c1, rfl, hn1, hO1, hx4⟩
  have z4 := hx4.size
  try simp at z4
  replace HS := Lib.hid (HS.out.ext (Ext.trans (by repeat (first | with_reducible exact Ext.refl _ | with_reducible refine Ext.drew ?_ | with_reducible refine Ext.drewN ?_ _ | with_reducible refine Ext.alloc ?_ _ | with_reducible refine Ext.setCell ?_ (by first | omega | (simp; done) | (simp; omega)) _)) hx4))
  have X4 : Hid (Ext w w4) := Lib.hid (Ext.trans (by repeat (first | with_reducible exact X3.out | with_reducible refine Ext.drew ?_ | with_reducible refine Ext.drewN ?_ _ | with_reducible refine Ext.alloc ?_ _ | with_reducible refine Ext.setCell ?_ (by first | omega | (simp; done) | (simp; omega)) _)) hx4)
  have HO := Lib.hid (show OwnVal _ _ _ _ _ from hO1)
  clear X3 hx4 z4
  rcases HO.out.2 with ⟨_, h0⟩ | ⟨g, cap, cur, h', hbg, _⟩
  · have := (List.getElem?_eq_some_iff.1 HK.out).1; omega
  injection h' with q1 q2 q3
  subst q1; subst q3
  have HC : Hid (Cur 96 valC 6 _ _ g l.length c1 l k (x0, x1, x2, x3, x4, x5)) := Lib.hid (Cur.mk HO.out HK.out rfl)
  have z_2 := Cur.cell valC_len HC.out (j := 2) rfl
  have z_2f := Cur.froz HC.out 2
  have z_3 := Cur.cell valC_len HC.out (j := 3) rfl
  have z_3f := Cur.froz HC.out 3
  clear HO hn1 hO1
  have hy : jailOne (x0, x1, x2, x3, x4, x5) u = (x0, x1, 3, mx, x4, x5) := by rw [HM.out]; simp [jailOne]
  go_wp2_with fail
  refine bodyPost_ret (v := .tuple #[.slice (some ⟨g, 0, none⟩) l.length c1, .int .i64 0]) (by simp [results, Try.results57]; try rfl) rfl ?_
  rw [hy]
  exact RetV.cur (xs := [.int .i64 0]) (Cur.put valC_len ((Cur.put valC_len (HC.out) 2 (.int .i64 3) (x0, x1, 3, x3, x4, x5) (by decide) rfl)) 3 (.int .i64 mx) (x0, x1, 3, mx, x4, x5) (by decide) rfl) (by first | exact hrm | (simp; omega) | omega) (by repeat (first | with_reducible exact X4.out | with_reducible refine Ext.drew ?_ | with_reducible refine Ext.drewN ?_ _ | with_reducible refine Ext.alloc ?_ _ | with_reducible refine Ext.setCell ?_ (by first | omega | (simp; done) | (simp; omega)) _))
theorem rJail16_ev (A : Option Addr) (c : Nat) (l L : List (Int × Int × Int × Int × Bool × Bool)) (v u e : Int) (w : World) (hs : Sl w 6 A l.length c (l.flatMap valC)) (hF : (L, e) = jailV l v u) :
    Calls Try.prog 57 #[.slice A l.length c, .int .i64 v, .int .i64 u] w (RetV L [.int .i64 e] w) := by
  obtain ⟨⟨f1, f2⟩, hf⟩ : ∃ F, F = chkV l := ⟨_, rfl⟩
  obtain ⟨r, hr⟩ : ∃ r, r = rfsV l v := ⟨_, rfl⟩
  obtain ⟨ub, hub⟩ : ∃ ub, ub = decide (1 ≤ u ∧ u ≤ 4296015872) := ⟨_, rfl⟩
  by_cases hc : f1 ≠ 0 ∨ r ≠ 0 ∨ ub = false
  · exact rJail16_pre A c l L v u f1 f2 r e w hs hf hr hF ub hub hc
  · have hc1 : f1 = 0 := by omega
    have hr1 : r = 0 := by omega
    have hu : 1 ≤ u ∧ u ≤ 4296015872 := by
      have h1 : ub = true := by cases ub <;> simp_all
      rw [hub] at h1
      exact of_decide_eq_true h1
    obtain ⟨k, rfl, hk⟩ := rfs_in (l := l) (v := v) (by rw [← hr]; exact hr1)
    obtain ⟨⟨x0, x1, x2, x3, x4, x5⟩, hx⟩ : ∃ x, x = l[k] := ⟨_, rfl⟩
    exact rJail16_ok A c l L k x0 x1 x2 x3 x4 x5 u f1 f2 r e w hs hf hr hF hc1 hr1 hu (by rw [hx]; exact List.getElem?_eq_getElem hk) (chkV_zero (by rw [← hf]; exact hc1)).2.1
end Go.Proofs.Ytjdpgapmdmpjjaa
