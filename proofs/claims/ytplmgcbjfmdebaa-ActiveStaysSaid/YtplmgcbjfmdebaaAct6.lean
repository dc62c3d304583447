/- container/heap: up, down, Push, Pop over the heap of amounts. Conditions stand in each lemma. -/
import Derived.Test.YtplmgcbjfmdebaaAct5
set_option linter.unusedVariables false
set_option linter.unusedSimpArgs false
namespace Go.Proofs.Ytplmgcbjfmdebaa
open Go.RowKit Go.Shelf Go.ChangeShapes Go.WideShapes Go.Deep

set_option maxRecDepth 100000 in
set_option maxHeartbeats 2000000 in
theorem hUp_any {B g c : Nat} {A : Option Addr} {L0 : List (Int × Int)} (j0 : Nat) (w : World) (h : HP B g A c w L0) (hu : UpOk L0 j0) (hj : j0 < L0.length) (hs : L0.length ≤ 1099511627776) :
    Calls Try.prog 55 #[.iface 52 (.pointer (some ⟨g, 0, none⟩)), .int .i64 (j0 : Int)] w fun e w' => (∃ v, e = .returned v) ∧ (∃ L, HP B g A c w' L ∧ L.Perm L0 ∧ HeapL L) ∧ But (HS g A) w w' := by
  have hlo := h.lo
  have hB0 : B ≤ w.heap.size := by have := h.lt; omega
  have HH := Lib.hid h
  have HU := Lib.hid hu
  obtain ⟨N, hN⟩ : ∃ N, N = L0.length := ⟨_, rfl⟩
  rw [← hN] at hj hs
  have HN := Lib.hid hN
  clear h hu hN
  go_enter Try.func55, Try.ntmps55
  go_wp2
  go_loopg [1] j0 (fun gh q wx => gh < N ∧ q = .int .i64 (gh : Int) ∧ ∃ L, Hid (HP B g A c wx L) ∧ Hid (L.Perm L0) ∧ Hid (UpOk L gh) ∧ Hid (But (HS g A) w wx))
  case atStart => exact ⟨hj, rfl, L0, HH, Lib.hid (List.Perm.refl _), HU, Lib.hid (But.refl _ _)⟩
  case round =>
    obtain ⟨hg, rfl, L, hp, hpm, huo, hbw⟩ := hrel
    have hLN : L.length = N := by rw [hpm.out.length_eq, HN.out]
    by_cases hz : gk = 0
    · subst hz
      have HD := Lib.hid (show HeapL L from up_done huo.out (.inl rfl))
      have e1 : IntKind.i64.wrap ((0 : Int) - 1) = -1 := by decide
      have e2 : (-1 : Int).tdiv 2 = 0 := by decide
      clear huo HH HU
      go_wp2
      go_end0
      exact ⟨⟨_, rfl⟩, ⟨L, hp.out, hpm.out, HD.out⟩, hbw.out⟩
    · obtain ⟨k, rfl⟩ : ∃ k, gk = k + 1 := ⟨gk - 1, by omega⟩
      obtain ⟨p, hpk⟩ : ∃ p, p = k / 2 := ⟨_, rfl⟩
      have hpL : (k + 1 - 1) / 2 = p := by rw [Nat.add_sub_cancel]; exact hpk.symm
      have hpk2 : p ≤ k := by omega
      have e2 : (k : Int).tdiv 2 = (p : Int) := by rw [Int.tdiv_eq_ediv_of_nonneg (by omega)]; omega
      have e3 : ((p : Int) == (k : Int) + 1) = false := by simp; omega
      obtain ⟨a, ha⟩ : ∃ a, L[k + 1]? = some a := ⟨_, List.getElem?_eq_getElem (by omega)⟩
      obtain ⟨b, hb⟩ : ∃ b, L[p]? = some b := ⟨_, List.getElem?_eq_getElem (by omega)⟩
      obtain ⟨v, hv⟩ : ∃ v, v = decide (rich a b) := ⟨_, rfl⟩
      have hcl := hp.out.less ha hb v hv
      have mL := mLess g A L.length c wr hp.out.c0
      rw [hLN] at hcl mL
      rw [show ((k + 1 : Nat) : Int) = (k : Int) + 1 from by omega] at hcl ⊢
      have HCL := Lib.hid hcl
      have HAB := Lib.hid (And.intro ha (And.intro hb (And.intro hpL (And.intro hpk2 hLN))))
      have HV := Lib.hid hv
      clear hcl ha hb hv hpk hpL HH HU hLN hz
      cases v
      · have HD := Lib.hid (show HeapL L from up_done huo.out (.inr (fun a' b' h1 h2 => by
          have h := HAB.out
          rw [h.1] at h1
          rw [h.2.2.1, h.2.1] at h2
          obtain rfl := Option.some.inj h1
          obtain rfl := Option.some.inj h2
          have := HV.out
          simpa using this)))
        clear huo
        go_wp2_with fail
        refine HCL.out.mono ?_
        rintro e wl ⟨rfl, hx⟩
        have E := Lib.hid (And.intro (hp.out.ext hx) (show But (HS g A) w wl from But.trans hbw.out (But.ofExt hx)))
        clear hx hp hbw mL HCL
        go_wp2
        go_end0
        exact ⟨⟨_, rfl⟩, ⟨L, E.out.1, hpm.out, HD.out⟩, E.out.2⟩
      · go_wp2_with fail
        refine HCL.out.mono ?_
        rintro e wl ⟨rfl, hx⟩
        have hpl := hp.out.ext hx
        have E := Lib.hid (show But (HS g A) w wl from But.trans hbw.out (But.ofExt hx))
        have mS := mSwap g A L.length c wl hpl.c0
        have hsw := hpl.swap HAB.out.2.1 HAB.out.1
        have hLN := HAB.out.2.2.2.2
        rw [hLN] at hsw mS
        rw [show ((k + 1 : Nat) : Int) = (k : Int) + 1 from by omega] at hsw
        have HSW := Lib.hid hsw
        clear hx hp hpl hbw mL HCL hsw hLN
        go_wp2_with fail
        refine HSW.out.mono ?_
        rintro e w2 ⟨⟨v, rfl⟩, h1, h2⟩
        have E2 := Lib.hid (And.intro h1 (show But (HS g A) w w2 from But.trans E.out h2))
        clear h1 h2 HSW mS
        go_wp2
        go_roundg p
        case measure => have := HAB.out; omega
        case rel =>
          refine ⟨by have := HAB.out; omega, rfl, swp L p (k + 1), Lib.hid E2.out.1, Lib.hid ?_, Lib.hid ?_, Lib.hid E2.out.2⟩
          · have h := HAB.out
            exact (swp_perm (by omega) (by omega)).trans hpm.out
          · have h := HAB.out
            have hr : rich a b := by have := HV.out; simpa using this.symm
            have h3 := up_step huo.out (by omega) h.1 (by rw [h.2.2.1]; exact h.2.1) hr
            rw [h.2.2.1] at h3
            exact h3
set_option maxRecDepth 100000 in
set_option maxHeartbeats 4000000 in
theorem hDown_any {B g c n : Nat} {A : Option Addr} {L0 : List (Int × Int)} (w : World) (h : HP B g A c w L0) (hu : DownOk L0 n 0) (hn : n ≤ L0.length) (hs : L0.length ≤ 1099511627776) :
    Calls Try.prog 56 #[.iface 52 (.pointer (some ⟨g, 0, none⟩)), .int .i64 0, .int .i64 (n : Int)] w fun e w' => (∃ v, e = .returned v) ∧ (∃ L, HP B g A c w' L ∧ L.Perm L0 ∧ HeapL (L.take n) ∧ ∀ k, n ≤ k → L[k]? = L0[k]?) ∧ But (HS g A) w w' := by
  have hlo := h.lo
  have hB0 : B ≤ w.heap.size := by have := h.lt; omega
  have HH := Lib.hid h
  have HU := Lib.hid hu
  obtain ⟨N, hN⟩ : ∃ N, N = L0.length := ⟨_, rfl⟩
  rw [← hN] at hn hs
  have HN := Lib.hid hN
  have hn2 : (n : Int) ≤ 1099511627776 := by omega
  clear h hu hN
  go_enter Try.func56, Try.ntmps56
  go_wp2
  go_loopg [7] n (fun gh q wx => ∃ (i : Nat) (L : List (Int × Int)), q = .int .i64 (i : Int) ∧ gh = n - i ∧ (i < n ∨ i = 0) ∧ Hid (HP B g A c wx L) ∧ Hid (L.Perm L0) ∧ Hid (DownOk L n i) ∧ Hid (∀ k, n ≤ k → L[k]? = L0[k]?) ∧ Hid (But (HS g A) w wx))
  case atStart => exact ⟨0, L0, rfl, by omega, .inr rfl, HH, Lib.hid (List.Perm.refl _), HU, Lib.hid (fun _ _ => rfl), Lib.hid (But.refl _ _)⟩
  case round =>
    obtain ⟨i, L, rfl, hg, hin, hp, hpm, hdo, hkp, hbw⟩ := hrel
    have hLN : L.length = N := by rw [hpm.out.length_eq, HN.out]
    have hin2 : (i : Int) ≤ 1099511627776 := by omega
    obtain ⟨p, hpi⟩ : ∃ p, p = 2 * i + 1 := ⟨_, rfl⟩
    have e1 : 2 * (i : Int) + 1 = (p : Int) := by omega
    by_cases hz : n ≤ p
    · have hnp : (n : Int) ≤ (p : Int) := by omega
      have HD := Lib.hid (show HeapL (L.take n) from down_done hdo.out (fun k a b hk hkn hpk => by omega))
      clear hdo HH HU hpi hin
      go_wp2
      go_ret
      exact ⟨⟨_, rfl⟩, ⟨L, hp.out, hpm.out, HD.out, hkp.out⟩, hbw.out⟩
    · have hnp : ¬ (n : Int) ≤ (p : Int) := by omega
      have hp0 : ¬ (p : Int) < 0 := by omega
      obtain ⟨q, hq⟩ : ∃ q, q = p + 1 := ⟨_, rfl⟩
      have e2 : (p : Int) + 1 = (q : Int) := by omega
      obtain ⟨b, hb⟩ : ∃ b, L[i]? = some b := ⟨_, List.getElem?_eq_getElem (by omega)⟩
      obtain ⟨a1, ha1⟩ : ∃ a, L[p]? = some a := ⟨_, List.getElem?_eq_getElem (by omega)⟩
      have HI := Lib.hid (And.intro hpi (And.intro hq (And.intro hg (And.intro hin hLN))))
      have HB := Lib.hid hb
      by_cases hqn : q < n
      · have hqn2 : (q : Int) < (n : Int) := by omega
        obtain ⟨a2, ha2⟩ : ∃ a, L[q]? = some a := ⟨_, List.getElem?_eq_getElem (by omega)⟩
        obtain ⟨v, hv⟩ : ∃ v, v = decide (rich a2 a1) := ⟨_, rfl⟩
        have hcl := hp.out.less ha2 ha1 v hv
        have mL := mLess g A L.length c wr hp.out.c0
        rw [hLN] at hcl mL
        have HCL := Lib.hid hcl
        have HV := Lib.hid hv
        have HA1 := Lib.hid ha1
        have HA2 := Lib.hid ha2
        clear hcl hv ha1 ha2 hb HH HU hLN hpi hq hin hg hqn
        cases v
        · have hno := Lib.hid (show ∀ k x, 0 < k → k < n → (k - 1) / 2 = i → L[k]? = some x → ¬ rich x a1 from by
            intro k x hk hkn hpk hx
            have h := HI.out
            rcases (show k = p ∨ k = q by omega) with rfl | rfl
            · rw [HA1.out] at hx; obtain rfl := Option.some.inj hx; exact rich_irr _
            · rw [HA2.out] at hx; obtain rfl := Option.some.inj hx; have := HV.out; simpa using this)
          go_wp2_with fail
          refine HCL.out.mono ?_
          rintro e wl ⟨rfl, hx⟩
          have HPL := Lib.hid (hp.out.ext hx)
          have HBL := Lib.hid (show But (HS g A) w wl from But.trans hbw.out (But.ofExt hx))
          clear hx hp hbw mL HCL
          obtain ⟨v2, hv2⟩ : ∃ v, v = decide (rich a1 b) := ⟨_, rfl⟩
          have hcl := HPL.out.less HA1.out HB.out v2 hv2
          have mL := mLess g A L.length c wl HPL.out.c0
          rw [HI.out.2.2.2.2] at hcl mL
          have HCL := Lib.hid hcl
          have HV2 := Lib.hid hv2
          clear hcl hv2
          cases v2
          · have HD := Lib.hid (show HeapL (L.take n) from down_done hdo.out (fun k a' b' hk hkn hpk h1 h2 => by
              rw [HB.out] at h2
              obtain rfl := Option.some.inj h2
              have h3 := hno.out k a' hk hkn hpk h1
              exact rich_neg h3 (by have := HV2.out; simpa using this)))
            clear hdo
            go_wp2_with fail
            refine HCL.out.mono ?_
            rintro e w3 ⟨rfl, hx⟩
            have E := Lib.hid (And.intro (HPL.out.ext hx) (show But (HS g A) w w3 from But.trans HBL.out (But.ofExt hx)))
            clear hx HPL HBL mL HCL
            go_wp2
            go_ret
            exact ⟨⟨_, rfl⟩, ⟨L, E.out.1, hpm.out, HD.out, hkp.out⟩, E.out.2⟩
          · go_wp2_with fail
            refine HCL.out.mono ?_
            rintro e w3 ⟨rfl, hx⟩
            have hpl := HPL.out.ext hx
            have E := Lib.hid (show But (HS g A) w w3 from But.trans HBL.out (But.ofExt hx))
            have mS := mSwap g A L.length c w3 hpl.c0
            have hsw := hpl.swap HB.out HA1.out
            rw [HI.out.2.2.2.2] at hsw mS
            have HSW := Lib.hid hsw
            clear hx HPL hpl HBL mL HCL hsw
            go_wp2_with fail
            refine HSW.out.mono ?_
            rintro e w4 ⟨⟨v, rfl⟩, h1, h2⟩
            have E2 := Lib.hid (And.intro h1 (show But (HS g A) w w4 from But.trans E.out h2))
            clear h1 h2 HSW mS E
            go_wp2
            go_roundg (n - p)
            case measure => have := HI.out; omega
            case rel =>
              have h := HI.out
              have hr : rich a1 b := by have := HV2.out; simpa using this.symm
              refine ⟨p, swp L i p, rfl, rfl, .inl (by omega), Lib.hid E2.out.1, Lib.hid ((swp_perm (by omega) (by omega)).trans hpm.out), Lib.hid (down_step hdo.out (by omega) (by omega) (by omega) HA1.out HB.out hr hno.out), Lib.hid (fun k hk => ?_), Lib.hid E2.out.2⟩
              rw [swp_get HB.out HA1.out, if_neg (by omega), if_neg (by omega)]
              exact hkp.out k hk
        · have hno := Lib.hid (show ∀ k x, 0 < k → k < n → (k - 1) / 2 = i → L[k]? = some x → ¬ rich x a2 from by
            intro k x hk hkn hpk hx
            have h := HI.out
            have hr : rich a2 a1 := by have := HV.out; simpa using this.symm
            rcases (show k = p ∨ k = q by omega) with rfl | rfl
            · rw [HA1.out] at hx; obtain rfl := Option.some.inj hx; exact rich_asymm hr
            · rw [HA2.out] at hx; obtain rfl := Option.some.inj hx; exact rich_irr _)
          go_wp2_with fail
          refine HCL.out.mono ?_
          rintro e wl ⟨rfl, hx⟩
          have HPL := Lib.hid (hp.out.ext hx)
          have HBL := Lib.hid (show But (HS g A) w wl from But.trans hbw.out (But.ofExt hx))
          clear hx hp hbw mL HCL
          obtain ⟨v2, hv2⟩ : ∃ v, v = decide (rich a2 b) := ⟨_, rfl⟩
          have hcl := HPL.out.less HA2.out HB.out v2 hv2
          have mL := mLess g A L.length c wl HPL.out.c0
          rw [HI.out.2.2.2.2] at hcl mL
          have HCL := Lib.hid hcl
          have HV2 := Lib.hid hv2
          clear hcl hv2
          cases v2
          · have HD := Lib.hid (show HeapL (L.take n) from down_done hdo.out (fun k a' b' hk hkn hpk h1 h2 => by
              rw [HB.out] at h2
              obtain rfl := Option.some.inj h2
              have h3 := hno.out k a' hk hkn hpk h1
              exact rich_neg h3 (by have := HV2.out; simpa using this)))
            clear hdo
            go_wp2_with fail
            refine HCL.out.mono ?_
            rintro e w3 ⟨rfl, hx⟩
            have E := Lib.hid (And.intro (HPL.out.ext hx) (show But (HS g A) w w3 from But.trans HBL.out (But.ofExt hx)))
            clear hx HPL HBL mL HCL
            go_wp2
            go_ret
            exact ⟨⟨_, rfl⟩, ⟨L, E.out.1, hpm.out, HD.out, hkp.out⟩, E.out.2⟩
          · go_wp2_with fail
            refine HCL.out.mono ?_
            rintro e w3 ⟨rfl, hx⟩
            have hpl := HPL.out.ext hx
            have E := Lib.hid (show But (HS g A) w w3 from But.trans HBL.out (But.ofExt hx))
            have mS := mSwap g A L.length c w3 hpl.c0
            have hsw := hpl.swap HB.out HA2.out
            rw [HI.out.2.2.2.2] at hsw mS
            have HSW := Lib.hid hsw
            clear hx HPL hpl HBL mL HCL hsw
            go_wp2_with fail
            refine HSW.out.mono ?_
            rintro e w4 ⟨⟨v, rfl⟩, h1, h2⟩
            have E2 := Lib.hid (And.intro h1 (show But (HS g A) w w4 from But.trans E.out h2))
            clear h1 h2 HSW mS E
            go_wp2
            go_roundg (n - q)
            case measure => have := HI.out; omega
            case rel =>
              have h := HI.out
              have hr : rich a2 b := by have := HV2.out; simpa using this.symm
              refine ⟨q, swp L i q, rfl, rfl, .inl (by omega), Lib.hid E2.out.1, Lib.hid ((swp_perm (by omega) (by omega)).trans hpm.out), Lib.hid (down_step hdo.out (by omega) (by omega) (by omega) HA2.out HB.out hr hno.out), Lib.hid (fun k hk => ?_), Lib.hid E2.out.2⟩
              rw [swp_get HB.out HA2.out, if_neg (by omega), if_neg (by omega)]
              exact hkp.out k hk
      · have hqn2 : ¬ (q : Int) < (n : Int) := by omega
        have hno := Lib.hid (show ∀ k x, 0 < k → k < n → (k - 1) / 2 = i → L[k]? = some x → ¬ rich x a1 from by
          intro k x hk hkn hpk hx
          obtain rfl : k = p := by omega
          rw [ha1] at hx; obtain rfl := Option.some.inj hx; exact rich_irr _)
        have HA1 := Lib.hid ha1
        have HPL := Lib.hid hp.out
        have HBL := Lib.hid hbw.out
        obtain ⟨wl, hwl⟩ : ∃ wl, wl = wr := ⟨_, rfl⟩
        rw [← hwl] at HPL HBL ⊢
        clear hp hbw hb ha1 HH HU hLN hpi hq hin hg hqn hwl
        obtain ⟨v2, hv2⟩ : ∃ v, v = decide (rich a1 b) := ⟨_, rfl⟩
        have hcl := HPL.out.less HA1.out HB.out v2 hv2
        have mL := mLess g A L.length c wl HPL.out.c0
        rw [HI.out.2.2.2.2] at hcl mL
        have HCL := Lib.hid hcl
        have HV2 := Lib.hid hv2
        clear hcl hv2
        cases v2
        · have HD := Lib.hid (show HeapL (L.take n) from down_done hdo.out (fun k a' b' hk hkn hpk h1 h2 => by
            rw [HB.out] at h2
            obtain rfl := Option.some.inj h2
            have h3 := hno.out k a' hk hkn hpk h1
            exact rich_neg h3 (by have := HV2.out; simpa using this)))
          clear hdo
          go_wp2_with fail
          refine HCL.out.mono ?_
          rintro e w3 ⟨rfl, hx⟩
          have E := Lib.hid (And.intro (HPL.out.ext hx) (show But (HS g A) w w3 from But.trans HBL.out (But.ofExt hx)))
          clear hx HPL HBL mL HCL
          go_wp2
          go_ret
          exact ⟨⟨_, rfl⟩, ⟨L, E.out.1, hpm.out, HD.out, hkp.out⟩, E.out.2⟩
        · go_wp2_with fail
          refine HCL.out.mono ?_
          rintro e w3 ⟨rfl, hx⟩
          have hpl := HPL.out.ext hx
          have E := Lib.hid (show But (HS g A) w w3 from But.trans HBL.out (But.ofExt hx))
          have mS := mSwap g A L.length c w3 hpl.c0
          have hsw := hpl.swap HB.out HA1.out
          rw [HI.out.2.2.2.2] at hsw mS
          have HSW := Lib.hid hsw
          clear hx HPL hpl HBL mL HCL hsw
          go_wp2_with fail
          refine HSW.out.mono ?_
          rintro e w4 ⟨⟨v, rfl⟩, h1, h2⟩
          have E2 := Lib.hid (And.intro h1 (show But (HS g A) w w4 from But.trans E.out h2))
          clear h1 h2 HSW mS E
          go_wp2
          go_roundg (n - p)
          case measure => have := HI.out; omega
          case rel =>
            have h := HI.out
            have hr : rich a1 b := by have := HV2.out; simpa using this.symm
            refine ⟨p, swp L i p, rfl, rfl, .inl (by omega), Lib.hid E2.out.1, Lib.hid ((swp_perm (by omega) (by omega)).trans hpm.out), Lib.hid (down_step hdo.out (by omega) (by omega) (by omega) HA1.out HB.out hr hno.out), Lib.hid (fun k hk => ?_), Lib.hid E2.out.2⟩
            rw [swp_get HB.out HA1.out, if_neg (by omega), if_neg (by omega)]
            exact hkp.out k hk
set_option maxRecDepth 100000 in
theorem hPush_any {B g c : Nat} {A : Option Addr} {L : List (Int × Int)} (x0 x1 : Int) (w : World) (h : HP B g A c w L) (hh : HeapL L) (hs : L.length < 1099511627776) :
    Calls Try.prog 41 #[.iface 52 (.pointer (some ⟨g, 0, none⟩)), .iface 63 (.agg #[.int .i64 x0, .int .u64 x1])] w fun e w' => (∃ v, e = .returned v) ∧ (∃ A' c' L', HP B g A' c' w' L' ∧ L'.Perm (L ++ [(x0, x1)]) ∧ HeapL L') ∧ Below B w w' := by
  have mP := mPush ⟨g, 0, none⟩ w
  have H1 := Lib.hid (richPush_any x0 x1 w h hs)
  have HU := Lib.hid (up_start hh (x0, x1))
  have hl : (L ++ [(x0, x1)]).length = L.length + 1 := by simp
  obtain ⟨N, hN⟩ : ∃ N, N = L.length := ⟨_, rfl⟩
  rw [← hN] at hs
  have HN := Lib.hid (And.intro hN hl)
  have eN : (N : Int) + 1 - 1 = (N : Int) := by omega
  clear h hh hN hl
  go_enter Try.func41, Try.ntmps41
  go_wp2_with fail
  refine H1.out.mono ?_
  rintro e w1 ⟨⟨v, rfl⟩, ⟨A1, c1, h1⟩, b1⟩
  have mL := mLen g A1 _ c1 w1 h1.c0
  have hup := hUp_any L.length w1 h1 HU.out (by rw [HN.out.2]; omega) (by rw [HN.out.2, ← HN.out.1]; omega)
  rw [← HN.out.1] at hup
  rw [HN.out.2, ← HN.out.1] at mL
  have HUP := Lib.hid hup
  have B1 := Lib.hid (fun w2 (hx : But (HS g A1) w1 w2) => Below.trans b1 (h1.below hx))
  clear h1 b1 hup H1
  go_wp2_with fail
  refine (rowLen_any _ _ _ _).mono ?_
  rintro e w2 ⟨rfl, rfl⟩
  go_wp2_with fail
  refine HUP.out.mono ?_
  rintro e w2 ⟨⟨v, rfl⟩, ⟨L2, q1, q2, q3⟩, b2⟩
  have E := Lib.hid (And.intro q1 (And.intro q2 (And.intro q3 (B1.out _ b2))))
  clear q1 q2 q3 b2 HUP mL
  go_wp2
  go_end0
  exact ⟨⟨_, rfl⟩, ⟨A1, c1, L2, E.out.1, E.out.2.1, E.out.2.2.1⟩, E.out.2.2.2⟩
set_option maxRecDepth 100000 in
theorem hPop_any {B g c n : Nat} {A : Option Addr} {L : List (Int × Int)} {t : Int × Int} (w : World) (h : HP B g A c w L) (hh : HeapL L) (hn : L.length = n + 1) (hs : L.length ≤ 1099511627776) (ht : L[0]? = some t) :
    Calls Try.prog 43 #[.iface 52 (.pointer (some ⟨g, 0, none⟩))] w fun e w' => e = .returned (.iface 63 (.agg #[.int .i64 t.1, .int .u64 t.2])) ∧ (∃ L', HP B g A c w' L' ∧ (t :: L').Perm L ∧ HeapL L' ∧ ∀ x ∈ L', ¬ rich x t) ∧ But (HS g A) w w' := by
  obtain ⟨b, hb⟩ : ∃ b, L[n]? = some b := ⟨_, List.getElem?_eq_getElem (by omega)⟩
  have hsw := h.swap ht hb
  have mL := mLen g A _ c w h.c0
  have mS := mSwap g A _ c w h.c0
  rw [hn] at hsw mL mS
  have hs1 : n + 1 ≤ 1099511627776 := by omega
  have HSW := Lib.hid hsw
  have HT := Lib.hid (And.intro ht (And.intro hb (And.intro hh hn)))
  have eN : IntKind.i64.wrap (((n + 1 : Nat) : Int) - 1) = (n : Int) := by push_cast; rw [Int.add_sub_cancel]; exact IntWalk.i64_in _ (by omega)
  have eN2 : (n : Int) + 1 - 1 = (n : Int) := by omega
  have hns : (n : Int) ≤ 1099511627776 := by omega
  have hlo := h.lo
  clear h hh hsw ht hb hn
  go_enter Try.func43, Try.ntmps43
  go_wp2_with fail
  refine (rowLen_any _ _ _ _).mono ?_
  rintro e w2 ⟨rfl, rfl⟩
  go_wp2_with fail
  refine HSW.out.mono ?_
  rintro e w1 ⟨⟨v, rfl⟩, h1, b1⟩
  have hdn := hDown_any (n := n) w1 h1 (down_start HT.out.2.2.1 n HT.out.1 HT.out.2.1) (by rw [swp_len, HT.out.2.2.2]; omega) (by rw [swp_len, HT.out.2.2.2]; omega)
  have HDN := Lib.hid hdn
  have B1 := Lib.hid b1
  clear h1 b1 hdn HSW mL mS
  go_wp2_with fail
  refine HDN.out.mono ?_
  rintro e w2 ⟨⟨v, rfl⟩, ⟨L2, q1, q2, q3, q4⟩, b2⟩
  have mQ := mPop ⟨g, 0, none⟩ w2
  have hl2 : L2.length = n + 1 := by rw [q2.length_eq, swp_len, HT.out.2.2.2]
  have hx2 : L2[n]? = some t := by rw [q4 n (Nat.le_refl _), swp_get HT.out.1 HT.out.2.1, if_pos rfl]
  have hpq := q1.pop hl2 hx2 (by rw [hl2]; omega)
  have HPQ := Lib.hid hpq
  have hpp := heap_pop HT.out.2.2.1 HT.out.1 (q2.trans (swp_perm (by rw [HT.out.2.2.2]; omega) (by rw [HT.out.2.2.2]; omega))) HT.out.2.2.2 hx2
  have E := Lib.hid (And.intro hpp (And.intro q3 (But.trans B1.out b2)))
  clear q1 q2 q3 q4 b2 hl2 hx2 hpq hpp HDN
  go_wp2_with fail
  refine HPQ.out.mono ?_
  rintro e w3 ⟨rfl, r1, r2⟩
  have E2 := Lib.hid (And.intro r1 r2)
  clear r1 r2 HPQ mQ
  go_wp2_with fail
  refine bodyPost_ret (v := .iface 63 (.agg #[.int .i64 t.1, .int .u64 t.2])) (by simp [results, Try.results43]; try rfl) rfl ⟨rfl, ?_, ?_⟩
  · exact ⟨L2.take n, E2.out.1, E.out.1.1, E.out.2.1, E.out.1.2⟩
  · exact But.trans E.out.2.2 E2.out.2
end Go.Proofs.Ytplmgcbjfmdebaa
