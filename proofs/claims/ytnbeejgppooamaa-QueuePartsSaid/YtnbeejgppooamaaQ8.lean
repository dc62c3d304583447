/- queues: Cut, both sides. Conditions stand in each lemma. -/
import Derived.Test.YtnbeejgppooamaaQ7
set_option linter.unusedVariables false
set_option linter.unusedSimpArgs false
namespace Go.Proofs.Ytnbeejgppooamaa
open Go.RowKit Go.ChangeShapes Go.WideShapes Go.Deep Go.Joins

theorem own_bel {w w' : World} {B base g : Nat} {e : TypeId} {sz n m c : Nat} {xs : List Value} (h : w.ownsRow base e sz (.slice (some ⟨g, 0, none⟩) m c) n xs) (hb : Below B w w') (hg : g < B) : w'.ownsRow base e sz (.slice (some ⟨g, 0, none⟩) m c) n xs := by
  refine ⟨h.1, ?_⟩
  rcases h.2 with h2 | ⟨q, cap, cur, e', hq, hq2, rest⟩
  · exact .inl h2
  · have e2 : q = g := by injection e' with h1 _ _; injection h1 with h1; injection h1 with h1 _ _; exact h1.symm
    exact .inr ⟨q, cap, cur, e', hq, (Below.block hb q (by omega)).trans hq2, rest⟩
set_option maxRecDepth 100000 in
set_option maxHeartbeats 4000000 in
theorem qcut_at (A : Option Addr) (n c : Nat) (l : List (Int × Int × Int × Int × Int × Int × Int × Int)) (v h p e1 e2 er : Int) (hb : Bool) (w : World) (hs : Sl w 8 A n c (l.flatMap entC)) (hn : n ≤ 100000) (hf : ∀ x ∈ l, FitsQ x) (hnil : A = none → c = 0) (hh : h ≤ 9223372036854775807) (hp : Word p) (he : chkQ l = (e1, e2)) (hhb : hb = (decide (1 ≤ h) && decide (h ≤ 4294967296))) (hv : er = cutG e1 v p hb) (R : List (Int × Int × Int × Int × Int × Int × Int × Int)) (S : List (Int × Int)) (U : Int) (hR : (R, S, U) = if er = 0 then (cutL l v h p n, cutS l v h p n, cutA l v h p n) else ([], [], 0)) :
    Calls Try.prog 18 #[.slice A n c, .int .i64 v, .int .i64 h, .int .u64 p] w (RetCut R S U er w) := by
  obtain ⟨i0, hi0, hz0, hz1, hz2⟩ := shave_infoP
  have hll := hs.rlen entC_len (by decide)
  have hns := hs.small
  have HLL := Lib.hid hll
  have HS := Lib.hid hs
  have HS0 := Lib.hid hs
  have HF := Lib.hid hf
  have HV := Lib.hid hv
  have HR := Lib.hid hR
  have HN := Lib.hid hnil
  have HH := Lib.hid hh
  have p0 : 0 ≤ p := hp.1
  have CC := Lib.hid (fun w' (hx : Ext w w') => qcheck_any A n c l e1 e2 w' (hs.ext hx) hf he)
  have CH := Lib.hid (fun w' => qheight_any h hb hhb w')
  have HTT := Lib.hid (show e1 = 0 → totB l ≤ 4611686018427387904 from fun h0 => (chkQ_zero (by rw [← h0]; exact he)).2)
  clear hs hf he hhb hv hR hnil hll hh
  go_enter Try.func18, Try.ntmps18
  go_wp2_with fail
  (with_reducible refine (CC.out _ (by repeat (first | with_reducible exact Ext.refl w | with_reducible refine Ext.drew ?_ | with_reducible refine Ext.drewN ?_ _ | with_reducible refine Ext.alloc ?_ _ | with_reducible refine Ext.setCell ?_ (by first | omega | (simp; done) | (simp; omega)) _))).mono ?_)
  rintro e w1 ⟨rfl, hx1⟩
  have z1 := hx1.size
  try simp at z1
  replace HS := Lib.hid (HS.out.ext (Ext.trans (by repeat (first | with_reducible exact Ext.refl _ | with_reducible refine Ext.drew ?_ | with_reducible refine Ext.drewN ?_ _ | with_reducible refine Ext.alloc ?_ _ | with_reducible refine Ext.setCell ?_ (by first | omega | (simp; done) | (simp; omega)) _)) hx1))
  have X1 : Hid (Ext w w1) := Lib.hid (Ext.trans (by repeat (first | with_reducible exact Ext.refl w | with_reducible refine Ext.drew ?_ | with_reducible refine Ext.drewN ?_ _ | with_reducible refine Ext.alloc ?_ _ | with_reducible refine Ext.setCell ?_ (by first | omega | (simp; done) | (simp; omega)) _)) hx1)
  clear hx1 z1
  by_cases q1 : ¬ e1 = 0
  · have q1b : (e1 != 0) = true := by simp [q1]
    go_wp2_with fail
    have hv9 : er = e1 := (by rw [HV.out]; unfold cutG; (repeat' split) <;> first | omega | simp_all)
    obtain ⟨rfl, rfl, rfl⟩ : R = [] ∧ S = [] ∧ U = 0 := by have h := HR.out; rw [if_neg (by omega)] at h; simpa using h
    rw [hv9]
    refine bodyPost_ret (v := .tuple #[.slice none 0 0, .slice none 0 0, .int .u64 0, .int .i64 e1]) (by simp [results, Try.results18, go_sem, World.cell?_alloc_past]; try rfl) rfl (RetCut.nil ?_)
    exact (by repeat (first | with_reducible exact X1.out | with_reducible refine Ext.drew ?_ | with_reducible refine Ext.drewN ?_ _ | with_reducible refine Ext.alloc ?_ _ | with_reducible refine Ext.setCell ?_ (by first | omega | (simp; done) | (simp; omega)) _))
  · have q1b : (e1 != 0) = false := by simpa using q1
    by_cases q2 : v < 0
    · have d2 : decide (v < 0) = true := decide_eq_true q2
      have Q2 := Lib.hid q2
      clear q2
      go_wp2_with fail
      have q2 := Q2.out
      have hv9 : er = 3 := (by rw [HV.out]; unfold cutG; (repeat' split) <;> first | omega | simp_all)
      obtain ⟨rfl, rfl, rfl⟩ : R = [] ∧ S = [] ∧ U = 0 := by have h := HR.out; rw [if_neg (by omega)] at h; simpa using h
      rw [hv9]
      refine bodyPost_ret (v := .tuple #[.slice none 0 0, .slice none 0 0, .int .u64 0, .int .i64 3]) (by simp [results, Try.results18, go_sem, World.cell?_alloc_past]; try rfl) rfl (RetCut.nil ?_)
      exact (by repeat (first | with_reducible exact X1.out | with_reducible refine Ext.drew ?_ | with_reducible refine Ext.drewN ?_ _ | with_reducible refine Ext.alloc ?_ _ | with_reducible refine Ext.setCell ?_ (by first | omega | (simp; done) | (simp; omega)) _))
    · have d2 : decide (v < 0) = false := decide_eq_false q2
      have Q2 := Lib.hid q2
      clear q2
      by_cases q3 : 32 ≤ v
      · have d3 : decide (32 ≤ v) = true := decide_eq_true q3
        have Q3 := Lib.hid q3
        clear q3
        go_wp2_with fail
        have q2 := Q2.out
        have q3 := Q3.out
        have hv9 : er = 3 := (by rw [HV.out]; unfold cutG; (repeat' split) <;> first | omega | simp_all)
        obtain ⟨rfl, rfl, rfl⟩ : R = [] ∧ S = [] ∧ U = 0 := by have h := HR.out; rw [if_neg (by omega)] at h; simpa using h
        rw [hv9]
        refine bodyPost_ret (v := .tuple #[.slice none 0 0, .slice none 0 0, .int .u64 0, .int .i64 3]) (by simp [results, Try.results18, go_sem, World.cell?_alloc_past]; try rfl) rfl (RetCut.nil ?_)
        exact (by repeat (first | with_reducible exact X1.out | with_reducible refine Ext.drew ?_ | with_reducible refine Ext.drewN ?_ _ | with_reducible refine Ext.alloc ?_ _ | with_reducible refine Ext.setCell ?_ (by first | omega | (simp; done) | (simp; omega)) _))
      · have d3 : decide (32 ≤ v) = false := decide_eq_false q3
        have Q3 := Lib.hid q3
        clear q3
        cases hb
        · go_wp2_with fail
          (with_reducible refine (CH.out _).mono ?_)
          rintro e w_1 ⟨rfl, rfl⟩
          go_wp2_with fail
          have q2 := Q2.out
          have q3 := Q3.out
          have hv9 : er = 3 := (by rw [HV.out]; unfold cutG; (repeat' split) <;> first | omega | simp_all)
          obtain ⟨rfl, rfl, rfl⟩ : R = [] ∧ S = [] ∧ U = 0 := by have h := HR.out; rw [if_neg (by omega)] at h; simpa using h
          rw [hv9]
          refine bodyPost_ret (v := .tuple #[.slice none 0 0, .slice none 0 0, .int .u64 0, .int .i64 3]) (by simp [results, Try.results18, go_sem, World.cell?_alloc_past]; try rfl) rfl (RetCut.nil ?_)
          exact (by repeat (first | with_reducible exact X1.out | with_reducible refine Ext.drew ?_ | with_reducible refine Ext.drewN ?_ _ | with_reducible refine Ext.alloc ?_ _ | with_reducible refine Ext.setCell ?_ (by first | omega | (simp; done) | (simp; omega)) _))
        · go_wp2_with fail
          (with_reducible refine (CH.out _).mono ?_)
          rintro e w_1 ⟨rfl, rfl⟩
          by_cases q4 : 1000000000 < p
          · have d4 : decide (1000000000 < p) = true := decide_eq_true q4
            have Q4 := Lib.hid q4
            clear q4
            go_wp2_with fail
            have q2 := Q2.out
            have q3 := Q3.out
            have q4 := Q4.out
            have hv9 : er = 3 := (by rw [HV.out]; unfold cutG; (repeat' split) <;> first | omega | simp_all)
            obtain ⟨rfl, rfl, rfl⟩ : R = [] ∧ S = [] ∧ U = 0 := by have h := HR.out; rw [if_neg (by omega)] at h; simpa using h
            rw [hv9]
            refine bodyPost_ret (v := .tuple #[.slice none 0 0, .slice none 0 0, .int .u64 0, .int .i64 3]) (by simp [results, Try.results18, go_sem, World.cell?_alloc_past]; try rfl) rfl (RetCut.nil ?_)
            exact (by repeat (first | with_reducible exact X1.out | with_reducible refine Ext.drew ?_ | with_reducible refine Ext.drewN ?_ _ | with_reducible refine Ext.alloc ?_ _ | with_reducible refine Ext.setCell ?_ (by first | omega | (simp; done) | (simp; omega)) _))
          · have d4 : decide (1000000000 < p) = false := decide_eq_false q4
            have Q4 := Lib.hid q4
            clear q4
            go_wp2_with fail
            have hlw := Ext.size X1.out
            (with_reducible refine (eClone_n A n c l _ (HS.out.ext (by repeat (first | with_reducible exact Ext.refl _ | with_reducible refine Ext.drew ?_ | with_reducible refine Ext.drewN ?_ _ | with_reducible refine Ext.alloc ?_ _ | with_reducible refine Ext.setCell ?_ (by first | omega | (simp; done) | (simp; omega)) _))) (by omega) HN.out).mono ?_)
            rintro e w2 ⟨A3, c3, rfl, hA3, hO3, hx2⟩
            have z2 := hx2.size
            try simp at z2
            replace HS := Lib.hid (HS.out.ext (Ext.trans (by repeat (first | with_reducible exact Ext.refl _ | with_reducible refine Ext.drew ?_ | with_reducible refine Ext.drewN ?_ _ | with_reducible refine Ext.alloc ?_ _ | with_reducible refine Ext.setCell ?_ (by first | omega | (simp; done) | (simp; omega)) _)) hx2))
            have X2 : Hid (Ext w w2) := Lib.hid (Ext.trans (by repeat (first | with_reducible exact X1.out | with_reducible refine Ext.drew ?_ | with_reducible refine Ext.drewN ?_ _ | with_reducible refine Ext.alloc ?_ _ | with_reducible refine Ext.setCell ?_ (by first | omega | (simp; done) | (simp; omega)) _)) hx2)
            have HO := Lib.hid (OwnEnt.lower hO3 (show w.heap.size ≤ _ from by first | exact hlw | (simp; omega)))
            clear X1 hx2 z2
            clear hA3 hO3
            go_wp2_with fail
            have q2 := Q2.out
            have q3 := Q3.out
            have q4 := Q4.out
            obtain rfl : er = 0 := (by rw [HV.out]; unfold cutG; (repeat' split) <;> first | omega | simp_all)
            obtain ⟨h1, h2, h3⟩ : R = cutL l v h p n ∧ S = cutS l v h p n ∧ U = cutA l v h p n := by have h := HR.out; rw [if_pos rfl] at h; simpa using h
            have hAB : ∀ b o s, A3 = some ⟨b, o, s⟩ → b < w2.heap.size := fun b o s e => (OwnEnt.in_ HO.out b o s e).2
            have hBw := Ext.size X2.out
            have HX2 : Hid (Ext w _) := Lib.hid (by repeat (first | with_reducible exact X2.out | with_reducible refine Ext.drew ?_ | with_reducible refine Ext.drewN ?_ _ | with_reducible refine Ext.alloc ?_ _ | with_reducible refine Ext.setCell ?_ (by first | omega | (simp; done) | (simp; omega)) _))
            have HTB := Lib.hid (HTT.out (by omega))
            obtain ⟨B, hB⟩ : ∃ B, B = w2.heap.size := ⟨_, rfl⟩
            have hBB : B ≤ w2.heap.size := by omega
            rw [← hB] at hAB hBw
            have HAB := Lib.hid hAB
            have HE := Lib.hid (And.intro h1 (And.intro h2 h3))
            have HO0 : Hid (OwnEnt _ w.heap.size (.slice A3 n c3) n l) := Lib.hid (HO.out.ext (by repeat (first | with_reducible exact Ext.refl _ | with_reducible refine Ext.drew ?_ | with_reducible refine Ext.drewN ?_ _ | with_reducible refine Ext.alloc ?_ _ | with_reducible refine Ext.setCell ?_ (by first | omega | (simp; done) | (simp; omega)) _)))
            clear hAB h1 h2 h3 hB CC CH HR HV HTT HO X2 HS HS0 d2 d3 d4 q1 q1b
            go_loopg [15, 16, 48] n (fun gh q a i wx => gh ≤ n ∧ i = .int .i64 ((n - gh : Nat) : Int) ∧ a = .int .u64 (cutA l v h p (n - gh)) ∧ (∃ A2 c2, q = .slice A2 (cutS l v h p (n - gh)).length c2) ∧ Hid (OwnEnt wx w.heap.size (.slice A3 n c3) n (cutL l v h p (n - gh))) ∧ Hid (OwnShave wx B q (cutS l v h p (n - gh)).length (cutS l v h p (n - gh))) ∧ B ≤ wx.heap.size ∧ Hid (Ext w wx))
            case atStart => exact ⟨Nat.le_refl _, by simp, by rw [Nat.sub_self]; rfl, by rw [Nat.sub_self]; exact ⟨none, 0, rfl⟩, by rw [Nat.sub_self]; exact HO0, by rw [Nat.sub_self]; exact Lib.hid (World.ownsRow_nil _ _ _ _), by first | exact hBB | (simp; done) | (simp; omega), HX2⟩
            case round =>
              obtain ⟨hg, hi, ha, ⟨A2, c2, rfl⟩, HO, HW, hBr, XR⟩ := hrel
              obtain ⟨k, hk⟩ : ∃ k, k = n - gk := ⟨_, rfl⟩
              have hCA := cutA_bound HF.out v h p0 (show p ≤ 1000000000 from by omega) k
              have hCl := cutS_len l v h p k
              rw [← hk] at hi ha HO HW
              rw [← hk]
              subst hi
              have hTk := totB_le HF.out k
              have hTB := HTB.out
              by_cases hz : gk = 0
              · have hkn : ¬ (k : Int) < (n : Int) := by omega
                obtain rfl : k = n := by omega
                obtain ⟨h1, h2, h3⟩ := HE.out
                rw [← h1] at HO
                rw [← h2] at HW
                rw [← h2]
                rw [← h3] at ha
                have E := Lib.hid (show RetCut R S U 0 w (.returned (.tuple #[.slice A3 k c3, .slice A2 S.length c2, .int .u64 U, .int .i64 0])) wr from RetCut.mk HO.out HW.out hBw HAB.out (by rw [h1, cutL_len]; exact HLL.out.symm) XR.out)
                subst ha
                clear hk hg hz HO HW HO0 h1 h2 h3 HE hCA hCl hTk hTB XR
                go_wp2
                refine bodyPost_ret (v := .tuple #[.slice A3 k c3, .slice A2 S.length c2, .int .u64 U, .int .i64 0]) (by simp [results, Try.results18, go_sem]; try rfl) rfl ?_
                exact E.out
              · have hkn : (k : Int) < (n : Int) := by omega
                have hkl : k < l.length := by have := HLL.out; omega
                obtain ⟨CA, hCAe⟩ : ∃ CA, CA = cutA l v h p k := ⟨_, rfl⟩
                obtain ⟨CS, hCSe⟩ : ∃ CS, CS = cutS l v h p k := ⟨_, rfl⟩
                obtain ⟨LC, hLCe⟩ : ∃ LC, LC = cutL l v h p k := ⟨_, rfl⟩
                rw [← hCAe] at ha hCA
                rw [← hCSe] at HW hCl ⊢
                rw [← hLCe] at HO
                subst ha
                obtain ⟨g, rfl, hgw, hgr⟩ := OwnEnt.box HO.out (show 0 < n from by omega)
                have hgB : g < B := HAB.out g 0 none rfl
                obtain ⟨xw, hl_x⟩ : ∃ x, l[k]? = some x := ⟨_, List.getElem?_eq_getElem (by omega)⟩
                have hLCx : LC[k]? = some xw := by rw [hLCe, cutL_get l v h p k (Nat.le_refl _)]; exact hl_x
                have hLCn : LC.length = n := by rw [hLCe, cutL_len]; exact HLL.out
                obtain ⟨xo, xv, xs, xp, xf, xc, xi, xb⟩ := xw
                have HC : Hid (Cur 27 entC 8 wr w.heap.size g n c3 LC k (xo, xv, xs, xp, xf, xc, xi, xb)) := Lib.hid (Cur.mk HO.out hLCx hLCn)
                have hset : LC.set k (xo, xv, xs, xp, xf, xc, xi, xb) = LC := by obtain ⟨q1, q2⟩ := List.getElem?_eq_some_iff.1 hLCx; rw [← q2, List.set_getElem_self]
                have hba := (HF.out _ (List.mem_of_getElem? hl_x)).ba
                obtain ⟨u1, u2, _⟩ := prt_bounds hba.1 p0 (show p ≤ 1000000000 from by omega)
                have pa := pa_prt hba p0 (show p ≤ 1000000000 from by omega)
                have hTn := totB_take hl_x
                have hTk1 := totB_le HF.out (k + 1)
                obtain ⟨P, hP⟩ : ∃ P, P = prt (baE (xo, xv, xs, xp, xf, xc, xi, xb)) p := ⟨_, rfl⟩
                have CT : bkE (xo, xv, xs, xp, xf, xc, xi, xb) v h = true → cutL l v h p (k + 1) = LC.set k (xo, xv, xs, xp, xf, xc, xi, xb - P) ∧ cutS l v h p (k + 1) = CS ++ [((k : Int), P)] ∧ cutA l v h p (k + 1) = CA + P := fun e => by rw [hLCe, hCSe, hCAe, hP]; exact cut_t hl_x e
                have CF : bkE (xo, xv, xs, xp, xf, xc, xi, xb) v h = false → cutL l v h p (k + 1) = LC ∧ cutS l v h p (k + 1) = CS ∧ cutA l v h p (k + 1) = CA := fun e => by rw [hLCe, hCSe, hCAe]; exact cut_f hl_x e
                have CB := Lib.hid (fun w => tBacked_any xv xs xp xf v h xc w)
                have CP := Lib.hid (fun w => fPart_any xb p hba ⟨p0, by omega⟩ w)
                rw [show paN xb p = P from by rw [hP]; exact pa.1, show paE xb p = 0 from pa.2] at CP
                rw [← hP] at u1 u2
                change P ≤ xb at u2
                change totB (l.take (k + 1)) = totB (l.take k) + xb at hTn
                have b0 : 0 ≤ xb := hba.1
                have b1' : xb < 18446744073709551616 := hba.2
                rw [show bkdB xv xs xp xf v h xc = bkE (xo, xv, xs, xp, xf, xc, xi, xb) v h from rfl] at CB
                have HCT := Lib.hid (And.intro CT CF)
                have HSET := Lib.hid hset
                have HK := Lib.hid (And.intro hk (And.intro hg hz))
                have cu1 : 0 ≤ CA + P := by omega
                have cu2 : CA + P ≤ 4611686018427387904 := by omega
                have cu3 : 0 ≤ xb - P := by omega
                have cu4 : xb - P < 18446744073709551616 := by omega
                have hCS : CS.length ≤ 100000 := by omega
            
                have x_0 : wr.cell? ⟨g, k * 8, none⟩ = _ := Cur.cell entC_len HC.out (j := 0) rfl
                have x_1 : wr.cell? ⟨g, k * 8 + 1, none⟩ = _ := Cur.cell entC_len HC.out (j := 1) rfl
                have x_2 : wr.cell? ⟨g, k * 8 + 2, none⟩ = _ := Cur.cell entC_len HC.out (j := 2) rfl
                have x_3 : wr.cell? ⟨g, k * 8 + 3, none⟩ = _ := Cur.cell entC_len HC.out (j := 3) rfl
                have x_4 : wr.cell? ⟨g, k * 8 + 4, none⟩ = _ := Cur.cell entC_len HC.out (j := 4) rfl
                have x_5 : wr.cell? ⟨g, k * 8 + 5, none⟩ = _ := Cur.cell entC_len HC.out (j := 5) rfl
                have x_6 : wr.cell? ⟨g, k * 8 + 6, none⟩ = _ := Cur.cell entC_len HC.out (j := 6) rfl
                have x_7 : wr.cell? ⟨g, k * 8 + 7, none⟩ = _ := Cur.cell entC_len HC.out (j := 7) rfl
                have x_7f : wr.frozen? ⟨g, k * 8 + 7, none⟩ = false := Cur.froz HC.out 7
                have rx : g < wr.heap.size := hgr
                simp only [] at x_0 x_1 x_2 x_3 x_4 x_5 x_6 x_7
                clear hk hg hz hkl hl_x hLCx hLCn hba pa hTn hTk1 hP CT CF hset hCAe hCSe hLCe HO HO0 hCA hCl hTk hTB
                cases e1 : bkE (xo, xv, xs, xp, xf, xc, xi, xb) v h
                · rw [e1] at CB
                  obtain ⟨k1, k2, k3⟩ := HCT.out.2 e1
                  have HT := Lib.hid (And.intro k1 (And.intro k2 k3))
                  clear k1 k2 k3 e1 HCT
                  go_wp2_with fail
                  refine wp_region_held_drew (S := fun w' => w'.cell? ⟨g, k * 8 + 1, none⟩ = some (.int .i64 xv) ∧ w'.cell? ⟨g, k * 8 + 2, none⟩ = some (.int .i64 xs) ∧ w'.cell? ⟨g, k * 8 + 3, none⟩ = some (.int .i64 xp) ∧ w'.cell? ⟨g, k * 8 + 4, none⟩ = some (.int .i64 xf) ∧ w'.cell? ⟨g, k * 8 + 5, none⟩ = some (.int .i64 xc)) (by kernel_rfl) (by first | exact ⟨x_1, x_2, x_3, x_4, x_5⟩ | (simp [go_sem, World.cell?_alloc_past, x_0, x_1, x_2, x_3, x_4, x_5, x_6, x_7, x_7f]; done)) (fun hHeld => ?_)
                  (refine' take_in 0 rfl (by kernel_rfl) (by kernel_rfl) (by kernel_rfl) (fun _ _ _ h => h) (by rfl) (by assumption) ?_ ?_; rotate_left; focus (intro w hSw; (try dsimp only at hSw); go_simp; try with_reducible rfl)); try simp only [Act.put, List.setIfInBounds_toArray, List.set_cons_zero, List.set_cons_succ]
                  (refine' take_in 1 rfl (by kernel_rfl) (by kernel_rfl) (by kernel_rfl) (fun _ _ _ h => h) (by rfl) (by assumption) ?_ ?_; rotate_left; focus (intro w hSw; (try dsimp only at hSw); go_simp; try with_reducible rfl)); try simp only [Act.put, List.setIfInBounds_toArray, List.set_cons_zero, List.set_cons_succ]
                  (refine' take_in 2 rfl (by kernel_rfl) (by kernel_rfl) (by kernel_rfl) (fun _ _ _ h => h) (by rfl) (by assumption) ?_ ?_; rotate_left; focus (intro w hSw; (try dsimp only at hSw); go_simp; try with_reducible rfl)); try simp only [Act.put, List.setIfInBounds_toArray, List.set_cons_zero, List.set_cons_succ]
                  (refine' take_in 3 rfl (by kernel_rfl) (by kernel_rfl) (by kernel_rfl) (fun _ _ _ h => h) (by rfl) (by assumption) ?_ ?_; rotate_left; focus (intro w hSw; (try dsimp only at hSw); go_simp; try with_reducible rfl)); try simp only [Act.put, List.setIfInBounds_toArray, List.set_cons_zero, List.set_cons_succ]
                  (refine' take_in 4 rfl (by kernel_rfl) (by kernel_rfl) (by kernel_rfl) (fun _ _ _ h => h) (by rfl) (by assumption) ?_ ?_; rotate_left; focus (intro w hSw; (try dsimp only at hSw); go_simp; try with_reducible rfl)); try simp only [Act.put, List.setIfInBounds_toArray, List.set_cons_zero, List.set_cons_succ]
                  (refine' take_in 5 rfl (by kernel_rfl) (by kernel_rfl) (by kernel_rfl) (fun _ _ _ h => h) (by rfl) (by assumption) ?_ ?_; rotate_left; focus (intro w hSw; (try dsimp only at hSw); go_simp; try with_reducible rfl)); try simp only [Act.put, List.setIfInBounds_toArray, List.set_cons_zero, List.set_cons_succ]
                  (refine' take_in 6 rfl (by kernel_rfl) (by kernel_rfl) (by kernel_rfl) (fun _ _ _ h => h) (by rfl) (by assumption) ?_ ?_; rotate_left; focus (intro w hSw; (try dsimp only at hSw); go_simp; try with_reducible rfl)); try simp only [Act.put, List.setIfInBounds_toArray, List.set_cons_zero, List.set_cons_succ]
                  (refine' take_in 7 rfl (by kernel_rfl) (by kernel_rfl) (by kernel_rfl) (fun _ _ _ h => h) (by rfl) (by assumption) ?_ ?_; rotate_left; focus (intro w hSw; (try dsimp only at hSw); go_simp; try with_reducible rfl)); try simp only [Act.put, List.setIfInBounds_toArray, List.set_cons_zero, List.set_cons_succ]
                  (refine' take_in 8 rfl (by kernel_rfl) (by kernel_rfl) (by kernel_rfl) (fun _ _ _ h => h) (by rfl) (by assumption) ?_ ?_; rotate_left; focus (intro w hSw; (try dsimp only at hSw); go_simp; try with_reducible rfl)); try simp only [Act.put, List.setIfInBounds_toArray, List.set_cons_zero, List.set_cons_succ]
                  (refine' take_in 9 rfl (by kernel_rfl) (by kernel_rfl) (by kernel_rfl) (fun _ _ _ h => h) (by rfl) (by assumption) ?_ ?_; rotate_left; focus (intro w hSw; (try dsimp only at hSw); go_simp; try with_reducible rfl)); try simp only [Act.put, List.setIfInBounds_toArray, List.set_cons_zero, List.set_cons_succ]
                  refine' next_in 10 rfl (by kernel_rfl) (by rfl) (fun K hK => ?_)
                  go_simp
                  (with_reducible refine (CB.out _).mono ?_)
                  rintro e w11 ⟨rfl, hx11⟩
                  replace x_1 : w11.cell? ⟨g, k * 8 + 1, none⟩ = some (.int .i64 xv) := hx11.has (by first | exact x_1 | (simp [go_sem, World.cell?_alloc_past, x_0, x_1, x_2, x_3, x_4, x_5, x_6, x_7, x_7f]; done))
                  replace x_2 : w11.cell? ⟨g, k * 8 + 2, none⟩ = some (.int .i64 xs) := hx11.has (by first | exact x_2 | (simp [go_sem, World.cell?_alloc_past, x_0, x_1, x_2, x_3, x_4, x_5, x_6, x_7, x_7f]; done))
                  replace x_3 : w11.cell? ⟨g, k * 8 + 3, none⟩ = some (.int .i64 xp) := hx11.has (by first | exact x_3 | (simp [go_sem, World.cell?_alloc_past, x_0, x_1, x_2, x_3, x_4, x_5, x_6, x_7, x_7f]; done))
                  replace x_4 : w11.cell? ⟨g, k * 8 + 4, none⟩ = some (.int .i64 xf) := hx11.has (by first | exact x_4 | (simp [go_sem, World.cell?_alloc_past, x_0, x_1, x_2, x_3, x_4, x_5, x_6, x_7, x_7f]; done))
                  replace x_5 : w11.cell? ⟨g, k * 8 + 5, none⟩ = some (.int .i64 xc) := hx11.has (by first | exact x_5 | (simp [go_sem, World.cell?_alloc_past, x_0, x_1, x_2, x_3, x_4, x_5, x_6, x_7, x_7f]; done))
                  have z11 := hx11.size
                  try simp at z11
                  have rx : g < w11.heap.size := by omega
                  have rxa : g < w11.heap.size + 1 := by omega
                  have rxb : g < w11.heap.size + 1 + 1 := by omega
                  have rxc : g < w11.heap.size + 1 + 1 + 1 := by omega
                  have rxn : ¬ g = w11.heap.size := by omega
                  replace HC := Lib.hid (HC.out.ext (Ext.trans (by repeat (first | with_reducible exact Ext.refl _ | with_reducible refine Ext.drew ?_ | with_reducible refine Ext.drewN ?_ _ | with_reducible refine Ext.alloc ?_ _ | with_reducible refine Ext.setCell ?_ (by first | omega | (simp; done) | (simp; omega)) _)) hx11))
                  replace HW := Lib.hid (HW.out.ext (Ext.trans (by repeat (first | with_reducible exact Ext.refl _ | with_reducible refine Ext.drew ?_ | with_reducible refine Ext.drewN ?_ _ | with_reducible refine Ext.alloc ?_ _ | with_reducible refine Ext.setCell ?_ (by first | omega | (simp; done) | (simp; omega)) _)) hx11))
                  have X11 : Hid (Ext w w11) := Lib.hid (Ext.trans (by repeat (first | with_reducible exact XR.out | with_reducible refine Ext.drew ?_ | with_reducible refine Ext.drewN ?_ _ | with_reducible refine Ext.alloc ?_ _ | with_reducible refine Ext.setCell ?_ (by first | omega | (simp; done) | (simp; omega)) _)) hx11)
                  clear x_6 x_0 x_7 x_7f XR hx11
                  refine hK.out _ _ (by (first | exact ⟨x_1, x_2, x_3, x_4, x_5⟩ | (simp [go_sem, World.cell?_alloc_past, x_1, x_2, x_3, x_4, x_5, rx, rxa, rxb, rxc, rxn]; done))) (fun hHeld => ?_); clear hK K; try simp only [Act.put, List.setIfInBounds_toArray, List.set_cons_zero, List.set_cons_succ]
                  (refine' take_in 11 rfl (by kernel_rfl) (by kernel_rfl) (by kernel_rfl) (fun _ _ _ h => h) (by rfl) (by assumption) ?_ ?_; rotate_left; focus (intro w hSw; (try dsimp only at hSw); go_simp; try with_reducible rfl)); try simp only [Act.put, List.setIfInBounds_toArray, List.set_cons_zero, List.set_cons_succ]
                  refine wpAnyH_done (by kernel_rfl) ?_ _
                  go_wp2_with fail
                  go_roundg (gk - 1)
                  case measure => have := HK.out; omega
                  case rel =>
                    have e3 : n - (gk - 1) = k + 1 := by have := HK.out; omega
                    rw [e3]
                    obtain ⟨k1, k2, k3⟩ := HT.out
                    rw [k1, k2, k3]
                    exact ⟨by have := HK.out; omega, num_eq (by have := HK.out; omega), rfl, ⟨_, _, rfl⟩, Lib.hid (by have h := Cur.own (HC.out.ext (by repeat (first | with_reducible exact Ext.refl _ | with_reducible refine Ext.drew ?_ | with_reducible refine Ext.drewN ?_ _ | with_reducible refine Ext.alloc ?_ _ | with_reducible refine Ext.setCell ?_ (by first | omega | (simp; done) | (simp; omega)) _))); rw [HSET.out] at h; exact h), Lib.hid (show OwnShave _ _ _ _ _ from (HW.out.ext (by repeat (first | with_reducible exact Ext.refl _ | with_reducible refine Ext.drew ?_ | with_reducible refine Ext.drewN ?_ _ | with_reducible refine Ext.alloc ?_ _ | with_reducible refine Ext.setCell ?_ (by first | omega | (simp; done) | (simp; omega)) _)))), by first | omega | (simp; omega), Lib.hid (by repeat (first | with_reducible exact X11.out | with_reducible refine Ext.drew ?_ | with_reducible refine Ext.drewN ?_ _ | with_reducible refine Ext.alloc ?_ _ | with_reducible refine Ext.setCell ?_ (by first | omega | (simp; done) | (simp; omega)) _))⟩
                · rw [e1] at CB
                  obtain ⟨k1, k2, k3⟩ := HCT.out.1 e1
                  have HT := Lib.hid (And.intro k1 (And.intro k2 k3))
                  clear k1 k2 k3 e1 HCT
                  go_wp2_with fail
                  refine wp_region_held_drew (S := fun w' => w'.cell? ⟨g, k * 8 + 1, none⟩ = some (.int .i64 xv) ∧ w'.cell? ⟨g, k * 8 + 2, none⟩ = some (.int .i64 xs) ∧ w'.cell? ⟨g, k * 8 + 3, none⟩ = some (.int .i64 xp) ∧ w'.cell? ⟨g, k * 8 + 4, none⟩ = some (.int .i64 xf) ∧ w'.cell? ⟨g, k * 8 + 5, none⟩ = some (.int .i64 xc)) (by kernel_rfl) (by first | exact ⟨x_1, x_2, x_3, x_4, x_5⟩ | (simp [go_sem, World.cell?_alloc_past, x_0, x_1, x_2, x_3, x_4, x_5, x_6, x_7, x_7f]; done)) (fun hHeld => ?_)
                  (refine' take_in 0 rfl (by kernel_rfl) (by kernel_rfl) (by kernel_rfl) (fun _ _ _ h => h) (by rfl) (by assumption) ?_ ?_; rotate_left; focus (intro w hSw; (try dsimp only at hSw); go_simp; try with_reducible rfl)); try simp only [Act.put, List.setIfInBounds_toArray, List.set_cons_zero, List.set_cons_succ]
                  (refine' take_in 1 rfl (by kernel_rfl) (by kernel_rfl) (by kernel_rfl) (fun _ _ _ h => h) (by rfl) (by assumption) ?_ ?_; rotate_left; focus (intro w hSw; (try dsimp only at hSw); go_simp; try with_reducible rfl)); try simp only [Act.put, List.setIfInBounds_toArray, List.set_cons_zero, List.set_cons_succ]
                  (refine' take_in 2 rfl (by kernel_rfl) (by kernel_rfl) (by kernel_rfl) (fun _ _ _ h => h) (by rfl) (by assumption) ?_ ?_; rotate_left; focus (intro w hSw; (try dsimp only at hSw); go_simp; try with_reducible rfl)); try simp only [Act.put, List.setIfInBounds_toArray, List.set_cons_zero, List.set_cons_succ]
                  (refine' take_in 3 rfl (by kernel_rfl) (by kernel_rfl) (by kernel_rfl) (fun _ _ _ h => h) (by rfl) (by assumption) ?_ ?_; rotate_left; focus (intro w hSw; (try dsimp only at hSw); go_simp; try with_reducible rfl)); try simp only [Act.put, List.setIfInBounds_toArray, List.set_cons_zero, List.set_cons_succ]
                  (refine' take_in 4 rfl (by kernel_rfl) (by kernel_rfl) (by kernel_rfl) (fun _ _ _ h => h) (by rfl) (by assumption) ?_ ?_; rotate_left; focus (intro w hSw; (try dsimp only at hSw); go_simp; try with_reducible rfl)); try simp only [Act.put, List.setIfInBounds_toArray, List.set_cons_zero, List.set_cons_succ]
                  (refine' take_in 5 rfl (by kernel_rfl) (by kernel_rfl) (by kernel_rfl) (fun _ _ _ h => h) (by rfl) (by assumption) ?_ ?_; rotate_left; focus (intro w hSw; (try dsimp only at hSw); go_simp; try with_reducible rfl)); try simp only [Act.put, List.setIfInBounds_toArray, List.set_cons_zero, List.set_cons_succ]
                  (refine' take_in 6 rfl (by kernel_rfl) (by kernel_rfl) (by kernel_rfl) (fun _ _ _ h => h) (by rfl) (by assumption) ?_ ?_; rotate_left; focus (intro w hSw; (try dsimp only at hSw); go_simp; try with_reducible rfl)); try simp only [Act.put, List.setIfInBounds_toArray, List.set_cons_zero, List.set_cons_succ]
                  (refine' take_in 7 rfl (by kernel_rfl) (by kernel_rfl) (by kernel_rfl) (fun _ _ _ h => h) (by rfl) (by assumption) ?_ ?_; rotate_left; focus (intro w hSw; (try dsimp only at hSw); go_simp; try with_reducible rfl)); try simp only [Act.put, List.setIfInBounds_toArray, List.set_cons_zero, List.set_cons_succ]
                  (refine' take_in 8 rfl (by kernel_rfl) (by kernel_rfl) (by kernel_rfl) (fun _ _ _ h => h) (by rfl) (by assumption) ?_ ?_; rotate_left; focus (intro w hSw; (try dsimp only at hSw); go_simp; try with_reducible rfl)); try simp only [Act.put, List.setIfInBounds_toArray, List.set_cons_zero, List.set_cons_succ]
                  (refine' take_in 9 rfl (by kernel_rfl) (by kernel_rfl) (by kernel_rfl) (fun _ _ _ h => h) (by rfl) (by assumption) ?_ ?_; rotate_left; focus (intro w hSw; (try dsimp only at hSw); go_simp; try with_reducible rfl)); try simp only [Act.put, List.setIfInBounds_toArray, List.set_cons_zero, List.set_cons_succ]
                  refine' next_in 10 rfl (by kernel_rfl) (by rfl) (fun K hK => ?_)
                  go_simp
                  (with_reducible refine (CB.out _).mono ?_)
                  rintro e w11 ⟨rfl, hx11⟩
                  replace x_7f : w11.frozen? ⟨g, k * 8 + 7, none⟩ = false := hx11.froz (v := .int .u64 xb) (by first | exact x_7 | (simp [go_sem, World.cell?_alloc_past, x_0, x_1, x_2, x_3, x_4, x_5, x_6, x_7, x_7f]; done)) (by first | exact x_7f | (simp [go_sem, World.cell?_alloc_past, x_0, x_1, x_2, x_3, x_4, x_5, x_6, x_7, x_7f]; done))
                  replace x_1 : w11.cell? ⟨g, k * 8 + 1, none⟩ = some (.int .i64 xv) := hx11.has (by first | exact x_1 | (simp [go_sem, World.cell?_alloc_past, x_0, x_1, x_2, x_3, x_4, x_5, x_6, x_7, x_7f]; done))
                  replace x_2 : w11.cell? ⟨g, k * 8 + 2, none⟩ = some (.int .i64 xs) := hx11.has (by first | exact x_2 | (simp [go_sem, World.cell?_alloc_past, x_0, x_1, x_2, x_3, x_4, x_5, x_6, x_7, x_7f]; done))
                  replace x_3 : w11.cell? ⟨g, k * 8 + 3, none⟩ = some (.int .i64 xp) := hx11.has (by first | exact x_3 | (simp [go_sem, World.cell?_alloc_past, x_0, x_1, x_2, x_3, x_4, x_5, x_6, x_7, x_7f]; done))
                  replace x_4 : w11.cell? ⟨g, k * 8 + 4, none⟩ = some (.int .i64 xf) := hx11.has (by first | exact x_4 | (simp [go_sem, World.cell?_alloc_past, x_0, x_1, x_2, x_3, x_4, x_5, x_6, x_7, x_7f]; done))
                  replace x_5 : w11.cell? ⟨g, k * 8 + 5, none⟩ = some (.int .i64 xc) := hx11.has (by first | exact x_5 | (simp [go_sem, World.cell?_alloc_past, x_0, x_1, x_2, x_3, x_4, x_5, x_6, x_7, x_7f]; done))
                  replace x_7 : w11.cell? ⟨g, k * 8 + 7, none⟩ = some (.int .u64 xb) := hx11.has (by first | exact x_7 | (simp [go_sem, World.cell?_alloc_past, x_0, x_1, x_2, x_3, x_4, x_5, x_6, x_7, x_7f]; done))
                  have z11 := hx11.size
                  try simp at z11
                  have rx : g < w11.heap.size := by omega
                  have rxa : g < w11.heap.size + 1 := by omega
                  have rxb : g < w11.heap.size + 1 + 1 := by omega
                  have rxc : g < w11.heap.size + 1 + 1 + 1 := by omega
                  have rxn : ¬ g = w11.heap.size := by omega
                  replace HC := Lib.hid (HC.out.ext (Ext.trans (by repeat (first | with_reducible exact Ext.refl _ | with_reducible refine Ext.drew ?_ | with_reducible refine Ext.drewN ?_ _ | with_reducible refine Ext.alloc ?_ _ | with_reducible refine Ext.setCell ?_ (by first | omega | (simp; done) | (simp; omega)) _)) hx11))
                  replace HW := Lib.hid (HW.out.ext (Ext.trans (by repeat (first | with_reducible exact Ext.refl _ | with_reducible refine Ext.drew ?_ | with_reducible refine Ext.drewN ?_ _ | with_reducible refine Ext.alloc ?_ _ | with_reducible refine Ext.setCell ?_ (by first | omega | (simp; done) | (simp; omega)) _)) hx11))
                  have X11 : Hid (Ext w w11) := Lib.hid (Ext.trans (by repeat (first | with_reducible exact XR.out | with_reducible refine Ext.drew ?_ | with_reducible refine Ext.drewN ?_ _ | with_reducible refine Ext.alloc ?_ _ | with_reducible refine Ext.setCell ?_ (by first | omega | (simp; done) | (simp; omega)) _)) hx11)
                  clear x_6 x_0 XR hx11
                  refine hK.out _ _ (by (first | exact ⟨x_1, x_2, x_3, x_4, x_5⟩ | (simp [go_sem, World.cell?_alloc_past, x_7f, x_1, x_2, x_3, x_4, x_5, x_7, rx, rxa, rxb, rxc, rxn]; done))) (fun hHeld => ?_); clear hK K; try simp only [Act.put, List.setIfInBounds_toArray, List.set_cons_zero, List.set_cons_succ]
                  (refine' take_in 11 rfl (by kernel_rfl) (by kernel_rfl) (by kernel_rfl) (fun _ _ _ h => h) (by rfl) (by assumption) ?_ ?_; rotate_left; focus (intro w hSw; (try dsimp only at hSw); go_simp; try with_reducible rfl)); try simp only [Act.put, List.setIfInBounds_toArray, List.set_cons_zero, List.set_cons_succ]
                  refine wpAnyH_done (by kernel_rfl) ?_ _
                  go_wp2_with fail
                  (with_reducible refine (CP.out _).mono ?_)
                  rintro e w12 ⟨rfl, hx12⟩
                  replace x_7f : w12.frozen? ⟨g, k * 8 + 7, none⟩ = false := hx12.froz (v := .int .u64 xb) (by first | exact x_7 | (simp [go_sem, World.cell?_alloc_past, x_7f, x_1, x_2, x_3, x_4, x_5, x_7, rx, rxa, rxb, rxc, rxn]; done)) (by first | exact x_7f | (simp [go_sem, World.cell?_alloc_past, x_7f, x_1, x_2, x_3, x_4, x_5, x_7, rx, rxa, rxb, rxc, rxn]; done))
                  replace x_1 : w12.cell? ⟨g, k * 8 + 1, none⟩ = some (.int .i64 xv) := hx12.has (by first | exact x_1 | (simp [go_sem, World.cell?_alloc_past, x_7f, x_1, x_2, x_3, x_4, x_5, x_7, rx, rxa, rxb, rxc, rxn]; done))
                  replace x_2 : w12.cell? ⟨g, k * 8 + 2, none⟩ = some (.int .i64 xs) := hx12.has (by first | exact x_2 | (simp [go_sem, World.cell?_alloc_past, x_7f, x_1, x_2, x_3, x_4, x_5, x_7, rx, rxa, rxb, rxc, rxn]; done))
                  replace x_3 : w12.cell? ⟨g, k * 8 + 3, none⟩ = some (.int .i64 xp) := hx12.has (by first | exact x_3 | (simp [go_sem, World.cell?_alloc_past, x_7f, x_1, x_2, x_3, x_4, x_5, x_7, rx, rxa, rxb, rxc, rxn]; done))
                  replace x_4 : w12.cell? ⟨g, k * 8 + 4, none⟩ = some (.int .i64 xf) := hx12.has (by first | exact x_4 | (simp [go_sem, World.cell?_alloc_past, x_7f, x_1, x_2, x_3, x_4, x_5, x_7, rx, rxa, rxb, rxc, rxn]; done))
                  replace x_5 : w12.cell? ⟨g, k * 8 + 5, none⟩ = some (.int .i64 xc) := hx12.has (by first | exact x_5 | (simp [go_sem, World.cell?_alloc_past, x_7f, x_1, x_2, x_3, x_4, x_5, x_7, rx, rxa, rxb, rxc, rxn]; done))
                  replace x_7 : w12.cell? ⟨g, k * 8 + 7, none⟩ = some (.int .u64 xb) := hx12.has (by first | exact x_7 | (simp [go_sem, World.cell?_alloc_past, x_7f, x_1, x_2, x_3, x_4, x_5, x_7, rx, rxa, rxb, rxc, rxn]; done))
                  have z12 := hx12.size
                  try simp at z12
                  replace rx : g < w12.heap.size := by omega
                  replace rxa : g < w12.heap.size + 1 := by omega
                  replace rxb : g < w12.heap.size + 1 + 1 := by omega
                  replace rxc : g < w12.heap.size + 1 + 1 + 1 := by omega
                  replace rxn : ¬ g = w12.heap.size := by omega
                  replace HC := Lib.hid (HC.out.ext (Ext.trans (by repeat (first | with_reducible exact Ext.refl _ | with_reducible refine Ext.drew ?_ | with_reducible refine Ext.drewN ?_ _ | with_reducible refine Ext.alloc ?_ _ | with_reducible refine Ext.setCell ?_ (by first | omega | (simp; done) | (simp; omega)) _)) hx12))
                  replace HW := Lib.hid (HW.out.ext (Ext.trans (by repeat (first | with_reducible exact Ext.refl _ | with_reducible refine Ext.drew ?_ | with_reducible refine Ext.drewN ?_ _ | with_reducible refine Ext.alloc ?_ _ | with_reducible refine Ext.setCell ?_ (by first | omega | (simp; done) | (simp; omega)) _)) hx12))
                  have X12 : Hid (Ext w w12) := Lib.hid (Ext.trans (by repeat (first | with_reducible exact X11.out | with_reducible refine Ext.drew ?_ | with_reducible refine Ext.drewN ?_ _ | with_reducible refine Ext.alloc ?_ _ | with_reducible refine Ext.setCell ?_ (by first | omega | (simp; done) | (simp; omega)) _)) hx12)
                  clear X11 hx12
                  have HC2 := Lib.hid (Cur.put entC_len (HC.out.ext (by repeat (first | with_reducible exact Ext.refl _ | with_reducible refine Ext.drew ?_ | with_reducible refine Ext.drewN ?_ _ | with_reducible refine Ext.alloc ?_ _ | with_reducible refine Ext.setCell ?_ (by first | omega | (simp; done) | (simp; omega)) _))) 7 (.int .u64 (xb - P)) (xo, xv, xs, xp, xf, xc, xi, xb - P) (by decide) rfl)
                  have HW2 : Hid (OwnShave (w12.setCell ⟨g, k * 8 + 7, none⟩ (.int .u64 (xb - P))) B (.slice A2 CS.length c2) CS.length CS) := Lib.hid (ownsRow_setCell_below (show OwnShave w12 B (.slice A2 CS.length c2) CS.length CS from (HW.out.ext (by repeat (first | with_reducible exact Ext.refl _ | with_reducible refine Ext.drew ?_ | with_reducible refine Ext.drewN ?_ _ | with_reducible refine Ext.alloc ?_ _ | with_reducible refine Ext.setCell ?_ (by first | omega | (simp; done) | (simp; omega)) _)))) (a := ⟨g, k * 8 + 7, none⟩) hgB (.int .u64 (xb - P)))
                  have XW : Hid (Ext w (w12.setCell ⟨g, k * 8 + 7, none⟩ (.int .u64 (xb - P)))) := Lib.hid (Ext.setCell (show Ext w w12 from (by repeat (first | with_reducible exact X12.out | with_reducible refine Ext.drew ?_ | with_reducible refine Ext.drewN ?_ _ | with_reducible refine Ext.alloc ?_ _ | with_reducible refine Ext.setCell ?_ (by first | omega | (simp; done) | (simp; omega)) _))) (by show w.heap.size ≤ g; exact hgw) (.int .u64 (xb - P)))
                  have hBs : B ≤ (w12.setCell ⟨g, k * 8 + 7, none⟩ (.int .u64 (xb - P))).heap.size := by (try simp); omega
                  clear HW X12
                  go_wp2_with (at_builtin; refine wpList_append_new _ rfl _ _ 38 rfl B 68 i0 (.agg #[.int .i64 0, .int .u64 0]) 2 16 Try.underlying38 hi0 hz0 hz1 hz2 rfl (by decide) _ CS.length (CS.flatMap shaveC) (by rfl) HW2.out #[.int .i64 (k : Int), .int .u64 P] 1 (by first | rfl | simp [Act.eval, go_sem]) rfl (by intro u hu; simp at hu; rcases hu with rfl | rfl <;> rfl) (by omega) (by decide) (by first | omega | (simp; omega)) ?_; intro v9 w9 hown9 hb9 ; clear HW2; have E0 := Lib.hid (And.intro hown9 hb9); clear hown9 hb9)
                  obtain ⟨A9, c9, rfl, _, _⟩ := own_parts2 E0.out.1
                  have E1 : Hid (OwnShave w9 B (.slice A9 (CS.length + 1) c9) (CS ++ [((k : Int), P)]).length (CS ++ [((k : Int), P)])) := Lib.hid (by
                    rw [List.length_append]
                    unfold OwnShave
                    rw [List.flatMap_append]
                    exact E0.out.1)
                  have HC9 : Hid (OwnEnt w9 w.heap.size (.slice (some ⟨g, 0, none⟩) n c3) n (LC.set k (xo, xv, xs, xp, xf, xc, xi, xb - P))) := Lib.hid (own_bel (Cur.own HC2.out) E0.out.2 hgB)
                  have X9 : Hid (Ext w w9) := Lib.hid (Below.trans XW.out (Below.mono E0.out.2 hBw))
                  have z9 := Below.size E0.out.2
                  clear HC2 XW E0
                  go_wp2
                  
                  go_roundg (gk - 1)
                  case measure => have := HK.out; omega
                  case rel =>
                    have e3 : n - (gk - 1) = k + 1 := by have := HK.out; omega
                    rw [e3]
                    obtain ⟨k1, k2, k3⟩ := HT.out
                    rw [k1, k2, k3]
                    exact ⟨by have := HK.out; omega, num_eq (by have := HK.out; omega), rfl, ⟨_, _, by rw [List.length_append]; rfl⟩, HC9, E1, by first | omega | (simp; omega), X9⟩
set_option maxRecDepth 100000 in
set_option maxHeartbeats 4000000 in
theorem rcut14_at (A : Option Addr) (n c : Nat) (l : List (Int × Int × Int × Int × Int × Int × Int × Int)) (v h p e1 e2 er : Int) (hb : Bool) (w : World) (hs : Sl w 8 A n c (l.flatMap entC)) (hn : n ≤ 100000) (hf : ∀ x ∈ l, FitsQ x) (hnil : A = none → c = 0) (hh : h ≤ 9223372036854775807) (hp : Word p) (he : chkQ l = (e1, e2)) (hhb : hb = (decide (1 ≤ h) && decide (h ≤ 4294967296))) (hv : er = cutG e1 v p hb) (R : List (Int × Int × Int × Int × Int × Int × Int × Int)) (S : List (Int × Int)) (U : Int) (hR : (R, S, U) = if er = 0 then (cutL l v h p n, cutS l v h p n, cutA l v h p n) else ([], [], 0)) :
    Calls Try.prog 19 #[.slice A n c, .int .i64 v, .int .i64 h, .int .u64 p] w (RetCut R S U er w) := by
  obtain ⟨i0, hi0, hz0, hz1, hz2⟩ := shave_infoP
  have hll := hs.rlen entC_len (by decide)
  have hns := hs.small
  have HLL := Lib.hid hll
  have HS := Lib.hid hs
  have HS0 := Lib.hid hs
  have HF := Lib.hid hf
  have HV := Lib.hid hv
  have HR := Lib.hid hR
  have HN := Lib.hid hnil
  have HH := Lib.hid hh
  have p0 : 0 ≤ p := hp.1
  have CC := Lib.hid (fun w' (hx : Ext w w') => rcheck14_any A n c l e1 e2 w' (hs.ext hx) hf he)
  have CH := Lib.hid (fun w' => r14height_any h hb hhb w')
  have HTT := Lib.hid (show e1 = 0 → totB l ≤ 4611686018427387904 from fun h0 => (chkQ_zero (by rw [← h0]; exact he)).2)
  clear hs hf he hhb hv hR hnil hll hh
  go_enter Try.func19, Try.ntmps19
  go_wp2_with fail
  (with_reducible refine (CC.out _ (by repeat (first | with_reducible exact Ext.refl w | with_reducible refine Ext.drew ?_ | with_reducible refine Ext.drewN ?_ _ | with_reducible refine Ext.alloc ?_ _ | with_reducible refine Ext.setCell ?_ (by first | omega | (simp; done) | (simp; omega)) _))).mono ?_)
  rintro e w1 ⟨rfl, hx1⟩
  have z1 := hx1.size
  try simp at z1
  replace HS := Lib.hid (HS.out.ext (Ext.trans (by repeat (first | with_reducible exact Ext.refl _ | with_reducible refine Ext.drew ?_ | with_reducible refine Ext.drewN ?_ _ | with_reducible refine Ext.alloc ?_ _ | with_reducible refine Ext.setCell ?_ (by first | omega | (simp; done) | (simp; omega)) _)) hx1))
  have X1 : Hid (Ext w w1) := Lib.hid (Ext.trans (by repeat (first | with_reducible exact Ext.refl w | with_reducible refine Ext.drew ?_ | with_reducible refine Ext.drewN ?_ _ | with_reducible refine Ext.alloc ?_ _ | with_reducible refine Ext.setCell ?_ (by first | omega | (simp; done) | (simp; omega)) _)) hx1)
  clear hx1 z1
  by_cases q1 : ¬ e1 = 0
  · have q1b : (e1 != 0) = true := by simp [q1]
    go_wp2_with fail
    have hv9 : er = e1 := (by rw [HV.out]; unfold cutG; (repeat' split) <;> first | omega | simp_all)
    obtain ⟨rfl, rfl, rfl⟩ : R = [] ∧ S = [] ∧ U = 0 := by have h := HR.out; rw [if_neg (by omega)] at h; simpa using h
    rw [hv9]
    refine bodyPost_ret (v := .tuple #[.slice none 0 0, .slice none 0 0, .int .u64 0, .int .i64 e1]) (by simp [results, Try.results19, go_sem, World.cell?_alloc_past]; try rfl) rfl (RetCut.nil ?_)
    exact (by repeat (first | with_reducible exact X1.out | with_reducible refine Ext.drew ?_ | with_reducible refine Ext.drewN ?_ _ | with_reducible refine Ext.alloc ?_ _ | with_reducible refine Ext.setCell ?_ (by first | omega | (simp; done) | (simp; omega)) _))
  · have q1b : (e1 != 0) = false := by simpa using q1
    by_cases q2 : v < 0
    · have d2 : decide (v < 0) = true := decide_eq_true q2
      have Q2 := Lib.hid q2
      clear q2
      go_wp2_with fail
      have q2 := Q2.out
      have hv9 : er = 3 := (by rw [HV.out]; unfold cutG; (repeat' split) <;> first | omega | simp_all)
      obtain ⟨rfl, rfl, rfl⟩ : R = [] ∧ S = [] ∧ U = 0 := by have h := HR.out; rw [if_neg (by omega)] at h; simpa using h
      rw [hv9]
      refine bodyPost_ret (v := .tuple #[.slice none 0 0, .slice none 0 0, .int .u64 0, .int .i64 3]) (by simp [results, Try.results19, go_sem, World.cell?_alloc_past]; try rfl) rfl (RetCut.nil ?_)
      exact (by repeat (first | with_reducible exact X1.out | with_reducible refine Ext.drew ?_ | with_reducible refine Ext.drewN ?_ _ | with_reducible refine Ext.alloc ?_ _ | with_reducible refine Ext.setCell ?_ (by first | omega | (simp; done) | (simp; omega)) _))
    · have d2 : decide (v < 0) = false := decide_eq_false q2
      have Q2 := Lib.hid q2
      clear q2
      by_cases q3 : 32 ≤ v
      · have d3 : decide (32 ≤ v) = true := decide_eq_true q3
        have Q3 := Lib.hid q3
        clear q3
        go_wp2_with fail
        have q2 := Q2.out
        have q3 := Q3.out
        have hv9 : er = 3 := (by rw [HV.out]; unfold cutG; (repeat' split) <;> first | omega | simp_all)
        obtain ⟨rfl, rfl, rfl⟩ : R = [] ∧ S = [] ∧ U = 0 := by have h := HR.out; rw [if_neg (by omega)] at h; simpa using h
        rw [hv9]
        refine bodyPost_ret (v := .tuple #[.slice none 0 0, .slice none 0 0, .int .u64 0, .int .i64 3]) (by simp [results, Try.results19, go_sem, World.cell?_alloc_past]; try rfl) rfl (RetCut.nil ?_)
        exact (by repeat (first | with_reducible exact X1.out | with_reducible refine Ext.drew ?_ | with_reducible refine Ext.drewN ?_ _ | with_reducible refine Ext.alloc ?_ _ | with_reducible refine Ext.setCell ?_ (by first | omega | (simp; done) | (simp; omega)) _))
      · have d3 : decide (32 ≤ v) = false := decide_eq_false q3
        have Q3 := Lib.hid q3
        clear q3
        cases hb
        · go_wp2_with fail
          (with_reducible refine (CH.out _).mono ?_)
          rintro e w_1 ⟨rfl, rfl⟩
          go_wp2_with fail
          have q2 := Q2.out
          have q3 := Q3.out
          have hv9 : er = 3 := (by rw [HV.out]; unfold cutG; (repeat' split) <;> first | omega | simp_all)
          obtain ⟨rfl, rfl, rfl⟩ : R = [] ∧ S = [] ∧ U = 0 := by have h := HR.out; rw [if_neg (by omega)] at h; simpa using h
          rw [hv9]
          refine bodyPost_ret (v := .tuple #[.slice none 0 0, .slice none 0 0, .int .u64 0, .int .i64 3]) (by simp [results, Try.results19, go_sem, World.cell?_alloc_past]; try rfl) rfl (RetCut.nil ?_)
          exact (by repeat (first | with_reducible exact X1.out | with_reducible refine Ext.drew ?_ | with_reducible refine Ext.drewN ?_ _ | with_reducible refine Ext.alloc ?_ _ | with_reducible refine Ext.setCell ?_ (by first | omega | (simp; done) | (simp; omega)) _))
        · go_wp2_with fail
          (with_reducible refine (CH.out _).mono ?_)
          rintro e w_1 ⟨rfl, rfl⟩
          by_cases q4 : 1000000000 < p
          · have d4 : decide (1000000000 < p) = true := decide_eq_true q4
            have Q4 := Lib.hid q4
            clear q4
            go_wp2_with fail
            have q2 := Q2.out
            have q3 := Q3.out
            have q4 := Q4.out
            have hv9 : er = 3 := (by rw [HV.out]; unfold cutG; (repeat' split) <;> first | omega | simp_all)
            obtain ⟨rfl, rfl, rfl⟩ : R = [] ∧ S = [] ∧ U = 0 := by have h := HR.out; rw [if_neg (by omega)] at h; simpa using h
            rw [hv9]
            refine bodyPost_ret (v := .tuple #[.slice none 0 0, .slice none 0 0, .int .u64 0, .int .i64 3]) (by simp [results, Try.results19, go_sem, World.cell?_alloc_past]; try rfl) rfl (RetCut.nil ?_)
            exact (by repeat (first | with_reducible exact X1.out | with_reducible refine Ext.drew ?_ | with_reducible refine Ext.drewN ?_ _ | with_reducible refine Ext.alloc ?_ _ | with_reducible refine Ext.setCell ?_ (by first | omega | (simp; done) | (simp; omega)) _))
          · have d4 : decide (1000000000 < p) = false := decide_eq_false q4
            have Q4 := Lib.hid q4
            clear q4
            go_wp2_with fail
            have hlw := Ext.size X1.out
            (with_reducible refine (kCopyEntries_n A n c l _ (HS.out.ext (by repeat (first | with_reducible exact Ext.refl _ | with_reducible refine Ext.drew ?_ | with_reducible refine Ext.drewN ?_ _ | with_reducible refine Ext.alloc ?_ _ | with_reducible refine Ext.setCell ?_ (by first | omega | (simp; done) | (simp; omega)) _))) (by omega)).mono ?_)
            rintro e w2 ⟨A3, c3, rfl, hA3, hO3, hx2⟩
            have z2 := hx2.size
            try simp at z2
            replace HS := Lib.hid (HS.out.ext (Ext.trans (by repeat (first | with_reducible exact Ext.refl _ | with_reducible refine Ext.drew ?_ | with_reducible refine Ext.drewN ?_ _ | with_reducible refine Ext.alloc ?_ _ | with_reducible refine Ext.setCell ?_ (by first | omega | (simp; done) | (simp; omega)) _)) hx2))
            have X2 : Hid (Ext w w2) := Lib.hid (Ext.trans (by repeat (first | with_reducible exact X1.out | with_reducible refine Ext.drew ?_ | with_reducible refine Ext.drewN ?_ _ | with_reducible refine Ext.alloc ?_ _ | with_reducible refine Ext.setCell ?_ (by first | omega | (simp; done) | (simp; omega)) _)) hx2)
            have HO := Lib.hid (OwnEnt.lower hO3 (show w.heap.size ≤ _ from by first | exact hlw | (simp; omega)))
            clear X1 hx2 z2
            clear hA3 hO3
            go_wp2_with fail
            have q2 := Q2.out
            have q3 := Q3.out
            have q4 := Q4.out
            obtain rfl : er = 0 := (by rw [HV.out]; unfold cutG; (repeat' split) <;> first | omega | simp_all)
            obtain ⟨h1, h2, h3⟩ : R = cutL l v h p n ∧ S = cutS l v h p n ∧ U = cutA l v h p n := by have h := HR.out; rw [if_pos rfl] at h; simpa using h
            have hAB : ∀ b o s, A3 = some ⟨b, o, s⟩ → b < w2.heap.size := fun b o s e => (OwnEnt.in_ HO.out b o s e).2
            have hBw := Ext.size X2.out
            have HX2 : Hid (Ext w _) := Lib.hid (by repeat (first | with_reducible exact X2.out | with_reducible refine Ext.drew ?_ | with_reducible refine Ext.drewN ?_ _ | with_reducible refine Ext.alloc ?_ _ | with_reducible refine Ext.setCell ?_ (by first | omega | (simp; done) | (simp; omega)) _))
            have HTB := Lib.hid (HTT.out (by omega))
            obtain ⟨B, hB⟩ : ∃ B, B = w2.heap.size := ⟨_, rfl⟩
            have hBB : B ≤ w2.heap.size := by omega
            rw [← hB] at hAB hBw
            have HAB := Lib.hid hAB
            have HE := Lib.hid (And.intro h1 (And.intro h2 h3))
            have HO0 : Hid (OwnEnt _ w.heap.size (.slice A3 n c3) n l) := Lib.hid (HO.out.ext (by repeat (first | with_reducible exact Ext.refl _ | with_reducible refine Ext.drew ?_ | with_reducible refine Ext.drewN ?_ _ | with_reducible refine Ext.alloc ?_ _ | with_reducible refine Ext.setCell ?_ (by first | omega | (simp; done) | (simp; omega)) _)))
            clear hAB h1 h2 h3 hB CC CH HR HV HTT HO X2 HS d2 d3 d4 q1 q1b
            go_loopg [15, 16, 17] n (fun gh q a i wx => gh ≤ n ∧ i = .int .i64 ((n - gh : Nat) : Int) ∧ a = .int .u64 (cutA l v h p (n - gh)) ∧ (∃ A2 c2, q = .slice A2 (cutS l v h p (n - gh)).length c2) ∧ Hid (OwnEnt wx w.heap.size (.slice A3 n c3) n (cutL l v h p (n - gh))) ∧ Hid (OwnShave wx B q (cutS l v h p (n - gh)).length (cutS l v h p (n - gh))) ∧ B ≤ wx.heap.size ∧ Hid (Ext w wx))
            case atStart => exact ⟨Nat.le_refl _, by simp, by rw [Nat.sub_self]; rfl, by rw [Nat.sub_self]; exact ⟨none, 0, rfl⟩, by rw [Nat.sub_self]; exact HO0, by rw [Nat.sub_self]; exact Lib.hid (World.ownsRow_nil _ _ _ _), by first | exact hBB | (simp; done) | (simp; omega), HX2⟩
            case round =>
              obtain ⟨hg, hi, ha, ⟨A2, c2, rfl⟩, HO, HW, hBr, XR⟩ := hrel
              obtain ⟨k, hk⟩ : ∃ k, k = n - gk := ⟨_, rfl⟩
              have hCA := cutA_bound HF.out v h p0 (show p ≤ 1000000000 from by omega) k
              have hCl := cutS_len l v h p k
              rw [← hk] at hi ha HO HW
              rw [← hk]
              subst hi
              have hTk := totB_le HF.out k
              have hTB := HTB.out
              by_cases hz : gk = 0
              · have hkn : ¬ (k : Int) < (n : Int) := by omega
                obtain rfl : k = n := by omega
                obtain ⟨h1, h2, h3⟩ := HE.out
                rw [← h1] at HO
                rw [← h2] at HW
                rw [← h2]
                rw [← h3] at ha
                have E := Lib.hid (show RetCut R S U 0 w (.returned (.tuple #[.slice A3 k c3, .slice A2 S.length c2, .int .u64 U, .int .i64 0])) wr from RetCut.mk HO.out HW.out hBw HAB.out (by rw [h1, cutL_len]; exact HLL.out.symm) XR.out)
                subst ha
                clear hk hg hz HO HW HO0 h1 h2 h3 HE hCA hCl hTk hTB XR
                go_wp2
                refine bodyPost_ret (v := .tuple #[.slice A3 k c3, .slice A2 S.length c2, .int .u64 U, .int .i64 0]) (by simp [results, Try.results19, go_sem]; try rfl) rfl ?_
                exact E.out
              · have hkn : (k : Int) < (n : Int) := by omega
                have hkl : k < l.length := by have := HLL.out; omega
                obtain ⟨CA, hCAe⟩ : ∃ CA, CA = cutA l v h p k := ⟨_, rfl⟩
                obtain ⟨CS, hCSe⟩ : ∃ CS, CS = cutS l v h p k := ⟨_, rfl⟩
                obtain ⟨LC, hLCe⟩ : ∃ LC, LC = cutL l v h p k := ⟨_, rfl⟩
                rw [← hCAe] at ha hCA
                rw [← hCSe] at HW hCl ⊢
                rw [← hLCe] at HO
                subst ha
                obtain ⟨g, rfl, hgw, hgr⟩ := OwnEnt.box HO.out (show 0 < n from by omega)
                have hgB : g < B := HAB.out g 0 none rfl
                obtain ⟨xw, hl_x⟩ : ∃ x, l[k]? = some x := ⟨_, List.getElem?_eq_getElem (by omega)⟩
                have hLCx : LC[k]? = some xw := by rw [hLCe, cutL_get l v h p k (Nat.le_refl _)]; exact hl_x
                have hLCn : LC.length = n := by rw [hLCe, cutL_len]; exact HLL.out
                obtain ⟨xo, xv, xs, xp, xf, xc, xi, xb⟩ := xw
                have HC : Hid (Cur 27 entC 8 wr w.heap.size g n c3 LC k (xo, xv, xs, xp, xf, xc, xi, xb)) := Lib.hid (Cur.mk HO.out hLCx hLCn)
                have hset : LC.set k (xo, xv, xs, xp, xf, xc, xi, xb) = LC := by obtain ⟨q1, q2⟩ := List.getElem?_eq_some_iff.1 hLCx; rw [← q2, List.set_getElem_self]
                have hba := (HF.out _ (List.mem_of_getElem? hl_x)).ba
                obtain ⟨u1, u2, _⟩ := prt_bounds hba.1 p0 (show p ≤ 1000000000 from by omega)
                have pa := pa_prt hba p0 (show p ≤ 1000000000 from by omega)
                have hTn := totB_take hl_x
                have hTk1 := totB_le HF.out (k + 1)
                obtain ⟨P, hP⟩ : ∃ P, P = prt (baE (xo, xv, xs, xp, xf, xc, xi, xb)) p := ⟨_, rfl⟩
                have CT : bkE (xo, xv, xs, xp, xf, xc, xi, xb) v h = true → cutL l v h p (k + 1) = LC.set k (xo, xv, xs, xp, xf, xc, xi, xb - P) ∧ cutS l v h p (k + 1) = CS ++ [((k : Int), P)] ∧ cutA l v h p (k + 1) = CA + P := fun e => by rw [hLCe, hCSe, hCAe, hP]; exact cut_t hl_x e
                have CF : bkE (xo, xv, xs, xp, xf, xc, xi, xb) v h = false → cutL l v h p (k + 1) = LC ∧ cutS l v h p (k + 1) = CS ∧ cutA l v h p (k + 1) = CA := fun e => by rw [hLCe, hCSe, hCAe]; exact cut_f hl_x e
                have CB := Lib.hid (fun w => rBacked12_any xv xs xp xf v h xc HH.out w)
                have CP := Lib.hid (fun w => rPart_any xb p hba ⟨p0, by omega⟩ w)
                rw [show paN xb p = P from by rw [hP]; exact pa.1, show paE xb p = 0 from pa.2] at CP
                rw [← hP] at u1 u2
                change P ≤ xb at u2
                change totB (l.take (k + 1)) = totB (l.take k) + xb at hTn
                have b0 : 0 ≤ xb := hba.1
                have b1' : xb < 18446744073709551616 := hba.2
                rw [show bkdB xv xs xp xf v h xc = bkE (xo, xv, xs, xp, xf, xc, xi, xb) v h from rfl] at CB
                have HCT := Lib.hid (And.intro CT CF)
                have HSET := Lib.hid hset
                have HK := Lib.hid (And.intro hk (And.intro hg hz))
                have cu1 : 0 ≤ CA + P := by omega
                have cu2 : CA + P ≤ 4611686018427387904 := by omega
                have cu3 : 0 ≤ xb - P := by omega
                have cu4 : xb - P < 18446744073709551616 := by omega
                have hCS : CS.length ≤ 100000 := by omega
            
                obtain ⟨b1, o1, rfl, hb1, hc_x⟩ := HS0.out.rec_ entC_len (show 0 < n from by omega)
                have y_0 := XR.out.has (hc_x k (xo, xv, xs, xp, xf, xc, xi, xb) hl_x 0 _ rfl)
                have y_1 := XR.out.has (hc_x k (xo, xv, xs, xp, xf, xc, xi, xb) hl_x 1 _ rfl)
                have y_2 := XR.out.has (hc_x k (xo, xv, xs, xp, xf, xc, xi, xb) hl_x 2 _ rfl)
                have y_3 := XR.out.has (hc_x k (xo, xv, xs, xp, xf, xc, xi, xb) hl_x 3 _ rfl)
                have y_4 := XR.out.has (hc_x k (xo, xv, xs, xp, xf, xc, xi, xb) hl_x 4 _ rfl)
                have y_5 := XR.out.has (hc_x k (xo, xv, xs, xp, xf, xc, xi, xb) hl_x 5 _ rfl)
                have y_6 := XR.out.has (hc_x k (xo, xv, xs, xp, xf, xc, xi, xb) hl_x 6 _ rfl)
                have y_7 := XR.out.has (hc_x k (xo, xv, xs, xp, xf, xc, xi, xb) hl_x 7 _ rfl)
                simp only at y_0 y_1 y_2 y_3 y_4 y_5 y_6 y_7
                rw [Nat.add_zero] at y_0
                rw [← Nat.add_assoc] at y_1 y_2 y_3 y_4 y_5 y_6 y_7
                clear hc_x
                have x_0 : wr.cell? ⟨g, k * 8, none⟩ = _ := Cur.cell entC_len HC.out (j := 0) rfl
                have x_1 : wr.cell? ⟨g, k * 8 + 1, none⟩ = _ := Cur.cell entC_len HC.out (j := 1) rfl
                have x_2 : wr.cell? ⟨g, k * 8 + 2, none⟩ = _ := Cur.cell entC_len HC.out (j := 2) rfl
                have x_3 : wr.cell? ⟨g, k * 8 + 3, none⟩ = _ := Cur.cell entC_len HC.out (j := 3) rfl
                have x_4 : wr.cell? ⟨g, k * 8 + 4, none⟩ = _ := Cur.cell entC_len HC.out (j := 4) rfl
                have x_5 : wr.cell? ⟨g, k * 8 + 5, none⟩ = _ := Cur.cell entC_len HC.out (j := 5) rfl
                have x_6 : wr.cell? ⟨g, k * 8 + 6, none⟩ = _ := Cur.cell entC_len HC.out (j := 6) rfl
                have x_7 : wr.cell? ⟨g, k * 8 + 7, none⟩ = _ := Cur.cell entC_len HC.out (j := 7) rfl
                have x_7f : wr.frozen? ⟨g, k * 8 + 7, none⟩ = false := Cur.froz HC.out 7
                have rx : g < wr.heap.size := hgr
                simp only [] at x_0 x_1 x_2 x_3 x_4 x_5 x_6 x_7
                clear hk hg hz hkl hl_x hLCx hLCn hba pa hTn hTk1 hP CT CF hset hCAe hCSe hLCe HO HO0 hCA hCl hTk hTB
                cases e1 : bkE (xo, xv, xs, xp, xf, xc, xi, xb) v h
                · rw [e1] at CB
                  obtain ⟨k1, k2, k3⟩ := HCT.out.2 e1
                  have HT := Lib.hid (And.intro k1 (And.intro k2 k3))
                  clear k1 k2 k3 e1 HCT
                  go_wp2_with fail
                  refine wp_region_held_drew (S := fun w' => w'.cell? ⟨b1, o1 + k * 8 + 1, none⟩ = some (.int .i64 xv) ∧ w'.cell? ⟨b1, o1 + k * 8 + 2, none⟩ = some (.int .i64 xs) ∧ w'.cell? ⟨b1, o1 + k * 8 + 3, none⟩ = some (.int .i64 xp) ∧ w'.cell? ⟨b1, o1 + k * 8 + 4, none⟩ = some (.int .i64 xf) ∧ w'.cell? ⟨b1, o1 + k * 8 + 5, none⟩ = some (.int .i64 xc)) (by kernel_rfl) (by first | exact ⟨y_1, y_2, y_3, y_4, y_5⟩ | (simp [go_sem, World.cell?_alloc_past, x_0, x_1, x_2, x_3, x_4, x_5, x_6, x_7, x_7f, y_0, y_1, y_2, y_3, y_4, y_5, y_6, y_7]; done)) (fun hHeld => ?_)
                  (refine' take_in 0 rfl (by kernel_rfl) (by kernel_rfl) (by kernel_rfl) (fun _ _ _ h => h) (by rfl) (by assumption) ?_ ?_; rotate_left; focus (intro w hSw; (try dsimp only at hSw); go_simp; try with_reducible rfl)); try simp only [Act.put, List.setIfInBounds_toArray, List.set_cons_zero, List.set_cons_succ]
                  (refine' take_in 1 rfl (by kernel_rfl) (by kernel_rfl) (by kernel_rfl) (fun _ _ _ h => h) (by rfl) (by assumption) ?_ ?_; rotate_left; focus (intro w hSw; (try dsimp only at hSw); go_simp; try with_reducible rfl)); try simp only [Act.put, List.setIfInBounds_toArray, List.set_cons_zero, List.set_cons_succ]
                  (refine' take_in 2 rfl (by kernel_rfl) (by kernel_rfl) (by kernel_rfl) (fun _ _ _ h => h) (by rfl) (by assumption) ?_ ?_; rotate_left; focus (intro w hSw; (try dsimp only at hSw); go_simp; try with_reducible rfl)); try simp only [Act.put, List.setIfInBounds_toArray, List.set_cons_zero, List.set_cons_succ]
                  (refine' take_in 3 rfl (by kernel_rfl) (by kernel_rfl) (by kernel_rfl) (fun _ _ _ h => h) (by rfl) (by assumption) ?_ ?_; rotate_left; focus (intro w hSw; (try dsimp only at hSw); go_simp; try with_reducible rfl)); try simp only [Act.put, List.setIfInBounds_toArray, List.set_cons_zero, List.set_cons_succ]
                  (refine' take_in 4 rfl (by kernel_rfl) (by kernel_rfl) (by kernel_rfl) (fun _ _ _ h => h) (by rfl) (by assumption) ?_ ?_; rotate_left; focus (intro w hSw; (try dsimp only at hSw); go_simp; try with_reducible rfl)); try simp only [Act.put, List.setIfInBounds_toArray, List.set_cons_zero, List.set_cons_succ]
                  (refine' take_in 5 rfl (by kernel_rfl) (by kernel_rfl) (by kernel_rfl) (fun _ _ _ h => h) (by rfl) (by assumption) ?_ ?_; rotate_left; focus (intro w hSw; (try dsimp only at hSw); go_simp; try with_reducible rfl)); try simp only [Act.put, List.setIfInBounds_toArray, List.set_cons_zero, List.set_cons_succ]
                  (refine' take_in 6 rfl (by kernel_rfl) (by kernel_rfl) (by kernel_rfl) (fun _ _ _ h => h) (by rfl) (by assumption) ?_ ?_; rotate_left; focus (intro w hSw; (try dsimp only at hSw); go_simp; try with_reducible rfl)); try simp only [Act.put, List.setIfInBounds_toArray, List.set_cons_zero, List.set_cons_succ]
                  (refine' take_in 7 rfl (by kernel_rfl) (by kernel_rfl) (by kernel_rfl) (fun _ _ _ h => h) (by rfl) (by assumption) ?_ ?_; rotate_left; focus (intro w hSw; (try dsimp only at hSw); go_simp; try with_reducible rfl)); try simp only [Act.put, List.setIfInBounds_toArray, List.set_cons_zero, List.set_cons_succ]
                  (refine' take_in 8 rfl (by kernel_rfl) (by kernel_rfl) (by kernel_rfl) (fun _ _ _ h => h) (by rfl) (by assumption) ?_ ?_; rotate_left; focus (intro w hSw; (try dsimp only at hSw); go_simp; try with_reducible rfl)); try simp only [Act.put, List.setIfInBounds_toArray, List.set_cons_zero, List.set_cons_succ]
                  (refine' take_in 9 rfl (by kernel_rfl) (by kernel_rfl) (by kernel_rfl) (fun _ _ _ h => h) (by rfl) (by assumption) ?_ ?_; rotate_left; focus (intro w hSw; (try dsimp only at hSw); go_simp; try with_reducible rfl)); try simp only [Act.put, List.setIfInBounds_toArray, List.set_cons_zero, List.set_cons_succ]
                  (refine' take_in 10 rfl (by kernel_rfl) (by kernel_rfl) (by kernel_rfl) (fun _ _ _ h => h) (by rfl) (by assumption) ?_ ?_; rotate_left; focus (intro w hSw; (try dsimp only at hSw); go_simp; try with_reducible rfl)); try simp only [Act.put, List.setIfInBounds_toArray, List.set_cons_zero, List.set_cons_succ]
                  (refine' take_in 11 rfl (by kernel_rfl) (by kernel_rfl) (by kernel_rfl) (fun _ _ _ h => h) (by rfl) (by assumption) ?_ ?_; rotate_left; focus (intro w hSw; (try dsimp only at hSw); go_simp; try with_reducible rfl)); try simp only [Act.put, List.setIfInBounds_toArray, List.set_cons_zero, List.set_cons_succ]
                  refine' next_in 12 rfl (by kernel_rfl) (by rfl) (fun K hK => ?_)
                  go_simp
                  (with_reducible refine (CB.out _).mono ?_)
                  rintro e w11 ⟨rfl, hx11⟩
                  replace y_1 : w11.cell? ⟨b1, o1 + k * 8 + 1, none⟩ = some (.int .i64 xv) := hx11.has (by first | exact y_1 | (simp [go_sem, World.cell?_alloc_past, x_0, x_1, x_2, x_3, x_4, x_5, x_6, x_7, x_7f, y_0, y_1, y_2, y_3, y_4, y_5, y_6, y_7]; done))
                  replace y_2 : w11.cell? ⟨b1, o1 + k * 8 + 2, none⟩ = some (.int .i64 xs) := hx11.has (by first | exact y_2 | (simp [go_sem, World.cell?_alloc_past, x_0, x_1, x_2, x_3, x_4, x_5, x_6, x_7, x_7f, y_0, y_1, y_2, y_3, y_4, y_5, y_6, y_7]; done))
                  replace y_3 : w11.cell? ⟨b1, o1 + k * 8 + 3, none⟩ = some (.int .i64 xp) := hx11.has (by first | exact y_3 | (simp [go_sem, World.cell?_alloc_past, x_0, x_1, x_2, x_3, x_4, x_5, x_6, x_7, x_7f, y_0, y_1, y_2, y_3, y_4, y_5, y_6, y_7]; done))
                  replace y_4 : w11.cell? ⟨b1, o1 + k * 8 + 4, none⟩ = some (.int .i64 xf) := hx11.has (by first | exact y_4 | (simp [go_sem, World.cell?_alloc_past, x_0, x_1, x_2, x_3, x_4, x_5, x_6, x_7, x_7f, y_0, y_1, y_2, y_3, y_4, y_5, y_6, y_7]; done))
                  replace y_5 : w11.cell? ⟨b1, o1 + k * 8 + 5, none⟩ = some (.int .i64 xc) := hx11.has (by first | exact y_5 | (simp [go_sem, World.cell?_alloc_past, x_0, x_1, x_2, x_3, x_4, x_5, x_6, x_7, x_7f, y_0, y_1, y_2, y_3, y_4, y_5, y_6, y_7]; done))
                  have z11 := hx11.size
                  try simp at z11
                  have ry : b1 < w11.heap.size := by omega
                  have rya : b1 < w11.heap.size + 1 := by omega
                  have ryb : b1 < w11.heap.size + 1 + 1 := by omega
                  have ryc : b1 < w11.heap.size + 1 + 1 + 1 := by omega
                  have ryn : ¬ b1 = w11.heap.size := by omega
                  replace HC := Lib.hid (HC.out.ext (Ext.trans (by repeat (first | with_reducible exact Ext.refl _ | with_reducible refine Ext.drew ?_ | with_reducible refine Ext.drewN ?_ _ | with_reducible refine Ext.alloc ?_ _ | with_reducible refine Ext.setCell ?_ (by first | omega | (simp; done) | (simp; omega)) _)) hx11))
                  replace HW := Lib.hid (HW.out.ext (Ext.trans (by repeat (first | with_reducible exact Ext.refl _ | with_reducible refine Ext.drew ?_ | with_reducible refine Ext.drewN ?_ _ | with_reducible refine Ext.alloc ?_ _ | with_reducible refine Ext.setCell ?_ (by first | omega | (simp; done) | (simp; omega)) _)) hx11))
                  have X11 : Hid (Ext w w11) := Lib.hid (Ext.trans (by repeat (first | with_reducible exact XR.out | with_reducible refine Ext.drew ?_ | with_reducible refine Ext.drewN ?_ _ | with_reducible refine Ext.alloc ?_ _ | with_reducible refine Ext.setCell ?_ (by first | omega | (simp; done) | (simp; omega)) _)) hx11)
                  clear x_2 x_3 x_1 x_6 x_0 x_7 x_5 x_7f x_4 y_0 y_6 y_7 XR hx11
                  refine hK.out _ _ (by (first | exact ⟨y_1, y_2, y_3, y_4, y_5⟩ | (simp [go_sem, World.cell?_alloc_past, y_1, y_2, y_3, y_4, y_5, ry, rya, ryb, ryc, ryn]; done))) (fun hHeld => ?_); clear hK K; try simp only [Act.put, List.setIfInBounds_toArray, List.set_cons_zero, List.set_cons_succ]
                  (refine' take_in 13 rfl (by kernel_rfl) (by kernel_rfl) (by kernel_rfl) (fun _ _ _ h => h) (by rfl) (by assumption) ?_ ?_; rotate_left; focus (intro w hSw; (try dsimp only at hSw); go_simp; try with_reducible rfl)); try simp only [Act.put, List.setIfInBounds_toArray, List.set_cons_zero, List.set_cons_succ]
                  refine wpAnyH_done (by kernel_rfl) ?_ _
                  go_wp2_with fail
                  go_roundg (gk - 1)
                  case measure => have := HK.out; omega
                  case rel =>
                    have e3 : n - (gk - 1) = k + 1 := by have := HK.out; omega
                    rw [e3]
                    obtain ⟨k1, k2, k3⟩ := HT.out
                    rw [k1, k2, k3]
                    exact ⟨by have := HK.out; omega, num_eq (by have := HK.out; omega), rfl, ⟨_, _, rfl⟩, Lib.hid (by have h := Cur.own (HC.out.ext (by repeat (first | with_reducible exact Ext.refl _ | with_reducible refine Ext.drew ?_ | with_reducible refine Ext.drewN ?_ _ | with_reducible refine Ext.alloc ?_ _ | with_reducible refine Ext.setCell ?_ (by first | omega | (simp; done) | (simp; omega)) _))); rw [HSET.out] at h; exact h), Lib.hid (show OwnShave _ _ _ _ _ from (HW.out.ext (by repeat (first | with_reducible exact Ext.refl _ | with_reducible refine Ext.drew ?_ | with_reducible refine Ext.drewN ?_ _ | with_reducible refine Ext.alloc ?_ _ | with_reducible refine Ext.setCell ?_ (by first | omega | (simp; done) | (simp; omega)) _)))), by first | omega | (simp; omega), Lib.hid (by repeat (first | with_reducible exact X11.out | with_reducible refine Ext.drew ?_ | with_reducible refine Ext.drewN ?_ _ | with_reducible refine Ext.alloc ?_ _ | with_reducible refine Ext.setCell ?_ (by first | omega | (simp; done) | (simp; omega)) _))⟩
                · rw [e1] at CB
                  obtain ⟨k1, k2, k3⟩ := HCT.out.1 e1
                  have HT := Lib.hid (And.intro k1 (And.intro k2 k3))
                  clear k1 k2 k3 e1 HCT
                  go_wp2_with fail
                  refine wp_region_held_drew (S := fun w' => w'.cell? ⟨b1, o1 + k * 8 + 1, none⟩ = some (.int .i64 xv) ∧ w'.cell? ⟨b1, o1 + k * 8 + 2, none⟩ = some (.int .i64 xs) ∧ w'.cell? ⟨b1, o1 + k * 8 + 3, none⟩ = some (.int .i64 xp) ∧ w'.cell? ⟨b1, o1 + k * 8 + 4, none⟩ = some (.int .i64 xf) ∧ w'.cell? ⟨b1, o1 + k * 8 + 5, none⟩ = some (.int .i64 xc)) (by kernel_rfl) (by first | exact ⟨y_1, y_2, y_3, y_4, y_5⟩ | (simp [go_sem, World.cell?_alloc_past, x_0, x_1, x_2, x_3, x_4, x_5, x_6, x_7, x_7f, y_0, y_1, y_2, y_3, y_4, y_5, y_6, y_7]; done)) (fun hHeld => ?_)
                  (refine' take_in 0 rfl (by kernel_rfl) (by kernel_rfl) (by kernel_rfl) (fun _ _ _ h => h) (by rfl) (by assumption) ?_ ?_; rotate_left; focus (intro w hSw; (try dsimp only at hSw); go_simp; try with_reducible rfl)); try simp only [Act.put, List.setIfInBounds_toArray, List.set_cons_zero, List.set_cons_succ]
                  (refine' take_in 1 rfl (by kernel_rfl) (by kernel_rfl) (by kernel_rfl) (fun _ _ _ h => h) (by rfl) (by assumption) ?_ ?_; rotate_left; focus (intro w hSw; (try dsimp only at hSw); go_simp; try with_reducible rfl)); try simp only [Act.put, List.setIfInBounds_toArray, List.set_cons_zero, List.set_cons_succ]
                  (refine' take_in 2 rfl (by kernel_rfl) (by kernel_rfl) (by kernel_rfl) (fun _ _ _ h => h) (by rfl) (by assumption) ?_ ?_; rotate_left; focus (intro w hSw; (try dsimp only at hSw); go_simp; try with_reducible rfl)); try simp only [Act.put, List.setIfInBounds_toArray, List.set_cons_zero, List.set_cons_succ]
                  (refine' take_in 3 rfl (by kernel_rfl) (by kernel_rfl) (by kernel_rfl) (fun _ _ _ h => h) (by rfl) (by assumption) ?_ ?_; rotate_left; focus (intro w hSw; (try dsimp only at hSw); go_simp; try with_reducible rfl)); try simp only [Act.put, List.setIfInBounds_toArray, List.set_cons_zero, List.set_cons_succ]
                  (refine' take_in 4 rfl (by kernel_rfl) (by kernel_rfl) (by kernel_rfl) (fun _ _ _ h => h) (by rfl) (by assumption) ?_ ?_; rotate_left; focus (intro w hSw; (try dsimp only at hSw); go_simp; try with_reducible rfl)); try simp only [Act.put, List.setIfInBounds_toArray, List.set_cons_zero, List.set_cons_succ]
                  (refine' take_in 5 rfl (by kernel_rfl) (by kernel_rfl) (by kernel_rfl) (fun _ _ _ h => h) (by rfl) (by assumption) ?_ ?_; rotate_left; focus (intro w hSw; (try dsimp only at hSw); go_simp; try with_reducible rfl)); try simp only [Act.put, List.setIfInBounds_toArray, List.set_cons_zero, List.set_cons_succ]
                  (refine' take_in 6 rfl (by kernel_rfl) (by kernel_rfl) (by kernel_rfl) (fun _ _ _ h => h) (by rfl) (by assumption) ?_ ?_; rotate_left; focus (intro w hSw; (try dsimp only at hSw); go_simp; try with_reducible rfl)); try simp only [Act.put, List.setIfInBounds_toArray, List.set_cons_zero, List.set_cons_succ]
                  (refine' take_in 7 rfl (by kernel_rfl) (by kernel_rfl) (by kernel_rfl) (fun _ _ _ h => h) (by rfl) (by assumption) ?_ ?_; rotate_left; focus (intro w hSw; (try dsimp only at hSw); go_simp; try with_reducible rfl)); try simp only [Act.put, List.setIfInBounds_toArray, List.set_cons_zero, List.set_cons_succ]
                  (refine' take_in 8 rfl (by kernel_rfl) (by kernel_rfl) (by kernel_rfl) (fun _ _ _ h => h) (by rfl) (by assumption) ?_ ?_; rotate_left; focus (intro w hSw; (try dsimp only at hSw); go_simp; try with_reducible rfl)); try simp only [Act.put, List.setIfInBounds_toArray, List.set_cons_zero, List.set_cons_succ]
                  (refine' take_in 9 rfl (by kernel_rfl) (by kernel_rfl) (by kernel_rfl) (fun _ _ _ h => h) (by rfl) (by assumption) ?_ ?_; rotate_left; focus (intro w hSw; (try dsimp only at hSw); go_simp; try with_reducible rfl)); try simp only [Act.put, List.setIfInBounds_toArray, List.set_cons_zero, List.set_cons_succ]
                  (refine' take_in 10 rfl (by kernel_rfl) (by kernel_rfl) (by kernel_rfl) (fun _ _ _ h => h) (by rfl) (by assumption) ?_ ?_; rotate_left; focus (intro w hSw; (try dsimp only at hSw); go_simp; try with_reducible rfl)); try simp only [Act.put, List.setIfInBounds_toArray, List.set_cons_zero, List.set_cons_succ]
                  (refine' take_in 11 rfl (by kernel_rfl) (by kernel_rfl) (by kernel_rfl) (fun _ _ _ h => h) (by rfl) (by assumption) ?_ ?_; rotate_left; focus (intro w hSw; (try dsimp only at hSw); go_simp; try with_reducible rfl)); try simp only [Act.put, List.setIfInBounds_toArray, List.set_cons_zero, List.set_cons_succ]
                  refine' next_in 12 rfl (by kernel_rfl) (by rfl) (fun K hK => ?_)
                  go_simp
                  (with_reducible refine (CB.out _).mono ?_)
                  rintro e w11 ⟨rfl, hx11⟩
                  replace x_7f : w11.frozen? ⟨g, k * 8 + 7, none⟩ = false := hx11.froz (v := .int .u64 xb) (by first | exact x_7 | (simp [go_sem, World.cell?_alloc_past, x_0, x_1, x_2, x_3, x_4, x_5, x_6, x_7, x_7f, y_0, y_1, y_2, y_3, y_4, y_5, y_6, y_7]; done)) (by first | exact x_7f | (simp [go_sem, World.cell?_alloc_past, x_0, x_1, x_2, x_3, x_4, x_5, x_6, x_7, x_7f, y_0, y_1, y_2, y_3, y_4, y_5, y_6, y_7]; done))
                  replace x_7 : w11.cell? ⟨g, k * 8 + 7, none⟩ = some (.int .u64 xb) := hx11.has (by first | exact x_7 | (simp [go_sem, World.cell?_alloc_past, x_0, x_1, x_2, x_3, x_4, x_5, x_6, x_7, x_7f, y_0, y_1, y_2, y_3, y_4, y_5, y_6, y_7]; done))
                  replace y_1 : w11.cell? ⟨b1, o1 + k * 8 + 1, none⟩ = some (.int .i64 xv) := hx11.has (by first | exact y_1 | (simp [go_sem, World.cell?_alloc_past, x_0, x_1, x_2, x_3, x_4, x_5, x_6, x_7, x_7f, y_0, y_1, y_2, y_3, y_4, y_5, y_6, y_7]; done))
                  replace y_2 : w11.cell? ⟨b1, o1 + k * 8 + 2, none⟩ = some (.int .i64 xs) := hx11.has (by first | exact y_2 | (simp [go_sem, World.cell?_alloc_past, x_0, x_1, x_2, x_3, x_4, x_5, x_6, x_7, x_7f, y_0, y_1, y_2, y_3, y_4, y_5, y_6, y_7]; done))
                  replace y_3 : w11.cell? ⟨b1, o1 + k * 8 + 3, none⟩ = some (.int .i64 xp) := hx11.has (by first | exact y_3 | (simp [go_sem, World.cell?_alloc_past, x_0, x_1, x_2, x_3, x_4, x_5, x_6, x_7, x_7f, y_0, y_1, y_2, y_3, y_4, y_5, y_6, y_7]; done))
                  replace y_4 : w11.cell? ⟨b1, o1 + k * 8 + 4, none⟩ = some (.int .i64 xf) := hx11.has (by first | exact y_4 | (simp [go_sem, World.cell?_alloc_past, x_0, x_1, x_2, x_3, x_4, x_5, x_6, x_7, x_7f, y_0, y_1, y_2, y_3, y_4, y_5, y_6, y_7]; done))
                  replace y_5 : w11.cell? ⟨b1, o1 + k * 8 + 5, none⟩ = some (.int .i64 xc) := hx11.has (by first | exact y_5 | (simp [go_sem, World.cell?_alloc_past, x_0, x_1, x_2, x_3, x_4, x_5, x_6, x_7, x_7f, y_0, y_1, y_2, y_3, y_4, y_5, y_6, y_7]; done))
                  replace y_7 : w11.cell? ⟨b1, o1 + k * 8 + 7, none⟩ = some (.int .u64 xb) := hx11.has (by first | exact y_7 | (simp [go_sem, World.cell?_alloc_past, x_0, x_1, x_2, x_3, x_4, x_5, x_6, x_7, x_7f, y_0, y_1, y_2, y_3, y_4, y_5, y_6, y_7]; done))
                  have z11 := hx11.size
                  try simp at z11
                  have ne_x_y : ¬ g = b1 := by omega
                  have ne_y_x : ¬ b1 = g := by omega
                  have rx : g < w11.heap.size := by omega
                  have rxa : g < w11.heap.size + 1 := by omega
                  have rxb : g < w11.heap.size + 1 + 1 := by omega
                  have rxc : g < w11.heap.size + 1 + 1 + 1 := by omega
                  have rxn : ¬ g = w11.heap.size := by omega
                  have ry : b1 < w11.heap.size := by omega
                  have rya : b1 < w11.heap.size + 1 := by omega
                  have ryb : b1 < w11.heap.size + 1 + 1 := by omega
                  have ryc : b1 < w11.heap.size + 1 + 1 + 1 := by omega
                  have ryn : ¬ b1 = w11.heap.size := by omega
                  replace HC := Lib.hid (HC.out.ext (Ext.trans (by repeat (first | with_reducible exact Ext.refl _ | with_reducible refine Ext.drew ?_ | with_reducible refine Ext.drewN ?_ _ | with_reducible refine Ext.alloc ?_ _ | with_reducible refine Ext.setCell ?_ (by first | omega | (simp; done) | (simp; omega)) _)) hx11))
                  replace HW := Lib.hid (HW.out.ext (Ext.trans (by repeat (first | with_reducible exact Ext.refl _ | with_reducible refine Ext.drew ?_ | with_reducible refine Ext.drewN ?_ _ | with_reducible refine Ext.alloc ?_ _ | with_reducible refine Ext.setCell ?_ (by first | omega | (simp; done) | (simp; omega)) _)) hx11))
                  have X11 : Hid (Ext w w11) := Lib.hid (Ext.trans (by repeat (first | with_reducible exact XR.out | with_reducible refine Ext.drew ?_ | with_reducible refine Ext.drewN ?_ _ | with_reducible refine Ext.alloc ?_ _ | with_reducible refine Ext.setCell ?_ (by first | omega | (simp; done) | (simp; omega)) _)) hx11)
                  clear x_2 x_3 x_1 x_6 x_0 x_5 x_4 y_0 y_6 XR hx11
                  refine hK.out _ _ (by (first | exact ⟨y_1, y_2, y_3, y_4, y_5⟩ | (simp [go_sem, World.cell?_alloc_past, x_7f, x_7, y_1, y_2, y_3, y_4, y_5, y_7, ne_x_y, ne_y_x, rx, rxa, rxb, rxc, rxn, ry, rya, ryb, ryc, ryn]; done))) (fun hHeld => ?_); clear hK K; try simp only [Act.put, List.setIfInBounds_toArray, List.set_cons_zero, List.set_cons_succ]
                  (refine' take_in 13 rfl (by kernel_rfl) (by kernel_rfl) (by kernel_rfl) (fun _ _ _ h => h) (by rfl) (by assumption) ?_ ?_; rotate_left; focus (intro w hSw; (try dsimp only at hSw); go_simp; try with_reducible rfl)); try simp only [Act.put, List.setIfInBounds_toArray, List.set_cons_zero, List.set_cons_succ]
                  refine wpAnyH_done (by kernel_rfl) ?_ _
                  go_wp2_with fail
                  (with_reducible refine (CP.out _).mono ?_)
                  rintro e w_1 ⟨rfl, rfl⟩
                  have HC2 := Lib.hid (Cur.put entC_len (HC.out.ext (by repeat (first | with_reducible exact Ext.refl _ | with_reducible refine Ext.drew ?_ | with_reducible refine Ext.drewN ?_ _ | with_reducible refine Ext.alloc ?_ _ | with_reducible refine Ext.setCell ?_ (by first | omega | (simp; done) | (simp; omega)) _))) 7 (.int .u64 (xb - P)) (xo, xv, xs, xp, xf, xc, xi, xb - P) (by decide) rfl)
                  have HW2 : Hid (OwnShave (w11.setCell ⟨g, k * 8 + 7, none⟩ (.int .u64 (xb - P))) B (.slice A2 CS.length c2) CS.length CS) := Lib.hid (ownsRow_setCell_below (show OwnShave w11 B (.slice A2 CS.length c2) CS.length CS from (HW.out.ext (by repeat (first | with_reducible exact Ext.refl _ | with_reducible refine Ext.drew ?_ | with_reducible refine Ext.drewN ?_ _ | with_reducible refine Ext.alloc ?_ _ | with_reducible refine Ext.setCell ?_ (by first | omega | (simp; done) | (simp; omega)) _)))) (a := ⟨g, k * 8 + 7, none⟩) hgB (.int .u64 (xb - P)))
                  have XW : Hid (Ext w (w11.setCell ⟨g, k * 8 + 7, none⟩ (.int .u64 (xb - P)))) := Lib.hid (Ext.setCell (show Ext w w11 from (by repeat (first | with_reducible exact X11.out | with_reducible refine Ext.drew ?_ | with_reducible refine Ext.drewN ?_ _ | with_reducible refine Ext.alloc ?_ _ | with_reducible refine Ext.setCell ?_ (by first | omega | (simp; done) | (simp; omega)) _))) (by show w.heap.size ≤ g; exact hgw) (.int .u64 (xb - P)))
                  have hBs : B ≤ (w11.setCell ⟨g, k * 8 + 7, none⟩ (.int .u64 (xb - P))).heap.size := by (try simp); omega
                  clear HW X11
                  go_wp2_with (at_builtin; refine wpList_append_new _ rfl _ _ 38 rfl B 68 i0 (.agg #[.int .i64 0, .int .u64 0]) 2 16 Try.underlying38 hi0 hz0 hz1 hz2 rfl (by decide) _ CS.length (CS.flatMap shaveC) (by rfl) HW2.out #[.int .i64 (k : Int), .int .u64 P] 1 (by first | rfl | simp [Act.eval, go_sem]) rfl (by intro u hu; simp at hu; rcases hu with rfl | rfl <;> rfl) (by omega) (by decide) (by first | omega | (simp; omega)) ?_; intro v9 w9 hown9 hb9 ; clear HW2; have E0 := Lib.hid (And.intro hown9 hb9); clear hown9 hb9)
                  obtain ⟨A9, c9, rfl, _, _⟩ := own_parts2 E0.out.1
                  have E1 : Hid (OwnShave w9 B (.slice A9 (CS.length + 1) c9) (CS ++ [((k : Int), P)]).length (CS ++ [((k : Int), P)])) := Lib.hid (by
                    rw [List.length_append]
                    unfold OwnShave
                    rw [List.flatMap_append]
                    exact E0.out.1)
                  have HC9 : Hid (OwnEnt w9 w.heap.size (.slice (some ⟨g, 0, none⟩) n c3) n (LC.set k (xo, xv, xs, xp, xf, xc, xi, xb - P))) := Lib.hid (own_bel (Cur.own HC2.out) E0.out.2 hgB)
                  have X9 : Hid (Ext w w9) := Lib.hid (Below.trans XW.out (Below.mono E0.out.2 hBw))
                  have z9 := Below.size E0.out.2
                  clear HC2 XW E0
                  go_wp2
                  
                  go_roundg (gk - 1)
                  case measure => have := HK.out; omega
                  case rel =>
                    have e3 : n - (gk - 1) = k + 1 := by have := HK.out; omega
                    rw [e3]
                    obtain ⟨k1, k2, k3⟩ := HT.out
                    rw [k1, k2, k3]
                    exact ⟨by have := HK.out; omega, num_eq (by have := HK.out; omega), rfl, ⟨_, _, by rw [List.length_append]; rfl⟩, HC9, E1, by first | omega | (simp; omega), X9⟩
end Go.Proofs.Ytnbeejgppooamaa
