/- active: Rank and Choose: those that count, the richest first; who is in. Conditions stand in each lemma. -/
import Derived.Test.YtplmgcbjfmdebaaAct6
import Derived.Test.YtplmgcbjfmdebaaAct7
import Derived.Test.YtplmgcbjfmdebaaFixSpec
set_option linter.unusedVariables false
set_option linter.unusedSimpArgs false
namespace Go.Proofs.Ytplmgcbjfmdebaa
open Go.RowKit Go.Shelf Go.ChangeShapes Go.WideShapes Go.Deep

/-- append of one element that the operation itself has just laid: which blocks turn, and where the new row lies -/
theorem wpList_append_but {P : Program} (w : World) {ops : Array Oper} {rest : List Oper} {o : Oper} {a : Act} {Q : Exit → Act → World → Prop} (hgd : o.guard = none) (s x : Operand) (t : TypeId)
    (ho : o.op = .call { callee := .builtin .append, args := #[s, x], argTypes := #[t, t] })
    (base : Nat) (e : TypeId) (i : TypeInfo) (z : Value) (size bytes : Nat) (ht : P.underlying t = some (.slice e)) (hi : P.info? e = some i) (hz : i.zero = some z)
    (hsize : i.size = size) (hby : i.bytes = bytes) (hzs : z.cells.size = size) (hsz : 0 < size)
    (v : Value) (n : Nat) (xs : List Value) (hs : a.eval s = v) (hown : w.ownsRow base e size v n xs) (news : Array Value) (c : Nat)
    (hx : a.eval x = .slice (some ⟨w.heap.size, 0, none⟩) 1 c) (hl : news.size = size) (h1 : ∀ u ∈ news.toList, u.oneCell' = true)
    (hn : n < 1099511627776) (hb128 : bytes ≤ 127) (hbase : base ≤ w.heap.size)
    (h : ∀ v' w', w'.ownsRow base e size v' (n + 1) (xs ++ news.toList) → But (fun k => v.ownBlock = some k) w w' → (∀ k, v'.ownBlock = some k → v.ownBlock = some k ∨ w.heap.size ≤ k) → wpList P ops Q rest (a.put o.dst v') w') :
    wpList P ops Q (o :: rest) a (w.alloc (.cells news e)) := by
  have hcells : ∀ j u, news.toList[j]? = some u → (w.alloc (.cells news e)).cell? ((⟨w.heap.size, 0, none⟩ : Addr).add j) = some u := by
    intro j u hu
    rw [addr_add, Nat.zero_add, cell_of_row _ _ j news e (0, 0) (heap_alloc_new w _)]
    simpa using hu
  have hby2 : (n + 1) * bytes ≤ 140737488355328 := by
    have : (n + 1) * bytes ≤ 1099511627776 * 127 := Nat.mul_le_mul (by omega) hb128
    omega
  obtain ⟨v', w', hr, g2, g3, g4⟩ := run_append_fresh (P := P) (w := w.alloc (.cells news e)) base t o.type e i z size bytes ht hi hz hsize hby hzs hsz v n xs (hown.alloc _) ⟨w.heap.size, 0, none⟩ 1 c news.toList (by simpa using hl) hcells h1
    (by simp [maxLen]; omega) hby2 (by simp; omega)
  refine wpList_plain hgd fun K hK => ?_
  unfold Oper.wp execOp
  simp only [ho, resolve, invoke, builtin, Sem.run_bind, Sem.run_pure, Result.andThen_ok, List.map_toArray, List.map_cons, List.map_nil, hs, hx, hr]
  refine hK _ _ (h v' w' g2 ?_ ?_)
  · exact ((But.refl _ w).alloc _).trans ((But.ofGrown g3).mono fun k _ hk => hk)
  · intro k hk
    rcases g4 with g4 | g4
    · exact .inl (g4 ▸ hk)
    · have := g4 k hk
      simp at this
      exact .inr (by omega)
theorem Ext.trans2 {S : Nat → Prop} {a b c : World} (h : Ext a b) (hx : But S b c) (hs : ∀ k, k < a.heap.size → S k → False) : Ext a c := Below.trans h (hx.below (Ext.size h) (fun k hk hh => hs k hk hh))
theorem hold {P : Prop} (h : Hid P) : P := h.out
theorem HP.but {B g c : Nat} {A : Option Addr} {S : Nat → Prop} {w w' : World} {L : List (Int × Int)} (h : HP B g A c w L) (hx : But S w w') (hS : ∀ k, HS g A k → ¬ S k) : HP B g A c w' L := by
  have hg := hS g (.inl rfl)
  refine ⟨hx.has hg h.c0, hx.froz hg h.c0 h.f0, own_but1Word h.own hx ?_, h.ne, h.lo⟩
  intro j hj
  cases A with
  | none => cases hj
  | some a => obtain ⟨b, o, s⟩ := a
              injection hj with hj
              have hj2 : b = j := hj
              subst hj2
              exact hS b (.inr ⟨o, s, rfl⟩)
theorem HP.hs_lt {B g c k : Nat} {A : Option Addr} {w : World} {L : List (Int × Int)} (h : HP B g A c w L) (hk : HS g A k) : k < w.heap.size := by
  rcases hk with rfl | ⟨o, s, rfl⟩
  · exact h.lt
  · exact (World.ownsRow.lt h.own k rfl).2
theorem ownInt_but {S : Nat → Prop} {w w' : World} {base n : Nat} {v : Value} {l : List Int} (h : OwnInt w base v n l) (hx : But S w w') (hS : ∀ k, v.ownBlock = some k → ¬ S k) : OwnInt w' base v n l := own_but1Word h hx hS
theorem hp_new (w : World) : HP w.heap.size w.heap.size none 0 (w.alloc (.cells #[.slice none 0 0] 56)) [] := by
  refine ⟨by simp [go_sem], ?_, World.ownsRow_nil _ _ _ _, (fun k o s e => by cases e), Nat.le_refl _⟩
  simp [go_sem]
theorem sorted_snoc {S L : List (Int × Int)} {t : Int × Int} (hs : Sorted S) (h : ∀ s ∈ S, ∀ x ∈ t :: L, ¬ rich x s) : Sorted (S ++ [t]) := by
  unfold Sorted at *
  rw [List.pairwise_append]
  refine ⟨hs, by simp, fun a ha b hb => ?_⟩
  simp at hb
  subst hb
  exact h a ha b (List.mem_cons_self ..)
set_option maxRecDepth 100000 in
set_option maxHeartbeats 4000000 in
theorem actRank_any (A B : Option Addr) (n c m d : Nat) (ts : List Int) (ms : List Bool) (w : World) (h : Sl w 1 A n c (iv .u64 ts)) (k : Sl w 1 B m d (bv ms)) (hn : n ≤ 1000) (hm : m ≤ 1000) (hw : ∀ x ∈ ts, Word x) :
    Calls Try.prog 12 #[.slice A n c, .slice B m d] w (RetInt (rankV ts ms) w) := by
  obtain ⟨i0, hi0, hz0, hz1, hz2⟩ := info_parts infoInt
  obtain ⟨K, hK⟩ : ∃ K, K = max n m := ⟨_, rfl⟩
  have hKa : allN ts ms = K := by unfold allN; rw [h.ilen, k.blen, hK]
  have hKs : K ≤ 1000 := by omega
  have HT := Lib.hid h
  have HM := Lib.hid k
  have HKK := Lib.hid (And.intro hK hKa)
  have HW := Lib.hid hw
  have hg0 : w.heap.size < (w.alloc (.cells #[.slice none 0 0] 56)).heap.size := by simp
  have HN := Lib.hid (hp_new w)
  obtain ⟨g, hg⟩ : ∃ g, g = w.heap.size := ⟨_, rfl⟩
  have HG := Lib.hid hg
  clear h k hK hKa hw hg0
  go_enter Try.func12, Try.ntmps12
  go_wp2_with fail
  refine (allWB_any A B n c m d K _ HKK.out.1).mono ?_
  rintro e w2 ⟨rfl, rfl⟩
  rw [← hg] at HN ⊢
  clear hg
  go_wp2_with fail
  go_loopg [19] K (fun gh i wx => gh ≤ K ∧ i = .int .i64 ((K - gh : Nat) : Int) ∧ ∃ A1 c1 L, Hid (HP g g A1 c1 wx L) ∧ Hid (HeapL L) ∧ Hid (L.Perm (cntL ts ms (K - gh))) ∧ Hid (Ext w wx))
  case atStart =>
    refine ⟨Nat.le_refl _, by simp, none, 0, [], HN, Lib.hid (fun k a b _ h => by simp at h), Lib.hid ?_, Lib.hid ?_⟩
    · rw [Nat.sub_self]; exact List.Perm.refl _
    · exact (Ext.refl w).alloc _
  case round =>
    obtain ⟨hgk, hi, A1, c1, L, hp, hh, hpm, hx⟩ := hrel
    obtain ⟨k, hk⟩ : ∃ k, k = K - gk := ⟨_, rfl⟩
    rw [← hk] at hi hpm
    subst hi
    by_cases hz : gk = 0
    · have hkn : ¬ (k : Int) < (K : Int) := by omega
      have hpm2 : Hid (L.Perm (cntL ts ms K)) := Lib.hid (by have h := hpm.out; rw [show k = K by omega] at h; exact h)
      clear hk hgk hz hpm HN
      go_wp2_with fail
      go_loopg [11] L.length (fun gh q wx => ∃ (A2 : Option Addr) (c2 : Nat) (S L2 : List (Int × Int)), q = .slice A2 S.length c2 ∧ gh = L2.length ∧ Hid (HP g g A1 c1 wx L2) ∧ Hid (HeapL L2) ∧ Hid ((S ++ L2).Perm (cntL ts ms K)) ∧ Hid (Sorted S) ∧ Hid (∀ s ∈ S, ∀ x ∈ L2, ¬ rich x s) ∧ Hid (OwnInt wx g q S.length (S.map Prod.fst)) ∧ Hid (∀ k, q.ownBlock = some k → ¬ HS g A1 k) ∧ Hid (Ext w wx))
      case atStart => exact ⟨none, 0, [], L, rfl, rfl, hp, hh, by simpa using hpm2, Lib.hid List.Pairwise.nil, Lib.hid (fun s hs => by simp at hs), Lib.hid (OwnInt.nil _ _), Lib.hid (fun k hk => by cases hk), hx⟩
      case round =>
        clear hp hh hpm2 hx
        obtain ⟨A2, c2, S, L2, rfl, hgl, hp, hh, hpm, hso, hle, hO, hap, hx⟩ := hrel
        have g_0 := hp.out.c0
        by_cases hz : gk = 0
        · have hL2 : L2 = [] := List.eq_nil_of_length_eq_zero (by omega)
          subst hL2
          have R := Lib.hid (show RetInt (rankV ts ms) w (.returned (.slice A2 S.length c2)) wr from by
            have hp2 := hpm.out
            rw [List.append_nil] at hp2
            have e : rankV ts ms = S.map Prod.fst := rank_sorted (by rw [HKK.out.2]; exact hp2) hso.out
            rw [e]
            refine RetInt.mk ?_ hx.out
            rw [List.length_map, ← HG.out]
            exact hO.out)
          clear hgl hz hp hh hpm hso hle hO hap hx
          have e0 : ((([] : List (Int × Int)).length : Nat) : Int) = 0 := rfl
          rw [show ([] : List (Int × Int)).length = 0 from rfl] at g_0
          go_wp2_with fail
          refine (rowLen_any _ _ _ _).mono ?_
          rintro e w2 ⟨rfl, rfl⟩
          go_wp2_with fail
          go_ret
          exact R.out
        · obtain ⟨N, hN⟩ : ∃ N, L2.length = N + 1 := ⟨L2.length - 1, by omega⟩
          obtain ⟨t, ht⟩ : ∃ t, L2[0]? = some t := ⟨_, List.getElem?_eq_getElem (by omega)⟩
          have hlen : (S ++ L2).length ≤ 1000 := by
            rw [hpm.out.length_eq]
            exact Nat.le_trans (cntL_len_le _ _ _) hKs
          rw [List.length_append] at hlen
          have HPP := Lib.hid (hPop_any wr hp.out hh.out hN (by omega) ht)
          have HE := Lib.hid (And.intro hgl (And.intro hN (And.intro hpm.out (And.intro hso.out (And.intro hle.out (And.intro hap.out hlen))))))
          have HPW := hp
          have hpos : (0 : Int) < (N : Int) + 1 := by omega
          have hSl : S.length ≤ 1000 := by omega
          rw [hN] at g_0
          clear hgl hh hpm hso hle hap hN ht hz hp hlen
          go_wp2_with fail
          refine (rowLen_any _ _ _ _).mono ?_
          rintro e w2 ⟨rfl, rfl⟩
          go_wp2_with fail
          refine HPP.out.mono ?_
          rintro e wl ⟨rfl, ⟨L3, q1, q2, q3, q4⟩, hb⟩
          have hO2 := ownInt_but hO.out hb (fun k hk => HE.out.2.2.2.2.2.1 k hk)
          have hgl3 : L3.length = N := by have h := q2.length_eq; rw [HE.out.2.1] at h; simpa using h
          have hxl : Ext w wl := hx.out.trans2 hb (fun k hk hs => by
            rcases hs with rfl | ⟨o, s, rfl⟩
            · have := HG.out; omega
            · have := (World.ownsRow.lt HPW.out.own k rfl).1; have := HG.out; omega)
          have H1 := Lib.hid q1
          have H3 := Lib.hid q3
          have HQ := Lib.hid (And.intro q2 (And.intro q4 hgl3))
          have HO2 := Lib.hid hO2
          have HXL := Lib.hid hxl
          have hta : ∀ (w : World), (Instr.typeAssert (.iface 63 (.agg #[.int .i64 t.1, .int .u64 t.2])) 20 63 true).run Try.prog w = .ok (.tuple #[.agg #[.int .i64 t.1, .int .u64 t.2], .bool true]) w := fun w => one_is _ w
          have hgw : g ≤ wl.heap.size := by have := q1.lt; omega
          clear q1 q2 q3 q4 hb hO2 hgl3 hxl HPP hO hx HPW g_0
          go_wp2_with (at_builtin; refine wpList_append_but _ rfl _ _ 27 rfl g 3 i0 (.int .i64 0) 1 8 Try.underlying27 hi0 hz0 hz1 hz2 rfl (by decide) _ S.length (iv .i64 (S.map Prod.fst)) (by rfl) (HO2.out.ext ((Ext.refl _).alloc _)) #[.int .i64 t.1] 1 (by first | rfl | simp [Act.eval, go_sem]) rfl (by intro u hu; simp at hu; subst hu; rfl) (by omega) (by decide) (by simp; omega) ?_; intro v7 w7 hown7 hb7 hf7)
          obtain ⟨A7, c7, rfl, s7⟩ := own_parts hown7
          have hown7' : OwnInt w7 g (.slice A7 (S.length + 1) c7) (S ++ [t]).length ((S ++ [t]).map Prod.fst) := by
            unfold OwnInt
            rw [List.map_append, List.length_append]
            simpa [iv] using hown7
          have hb8 := (But.ofExt ((Ext.refl wl).alloc (.cells #[.int .i64 t.1, .int .u64 t.2] 63))).trans hb7
          have E1 := Lib.hid (H1.out.but hb8 (fun k hk hs => HE.out.2.2.2.2.2.1 k hs hk))
          have E2 := Lib.hid hown7'
          have E3 := Lib.hid (show ∀ k, (Value.slice A7 (S.length + 1) c7).ownBlock = some k → ¬ HS g A1 k from fun k hk hs => by
            rcases hf7 k hk with h | h
            · exact HE.out.2.2.2.2.2.1 k h hs
            · have := H1.out.hs_lt hs
              simp at h
              omega)
          have E4 := Lib.hid (show Ext w w7 from HXL.out.trans2 hb8 (fun k hk hs => by
            have h := (World.ownsRow.lt HO2.out k hs).1
            have := HG.out
            omega))
          clear hown7 hb7 hf7 s7 hown7' hb8 HO2 HXL
          go_wp2
          go_roundg N
          case measure => have h := HE.out; omega
          case rel =>
            have h := HE.out
            have hq := HQ.out
            refine ⟨A7, c7, S ++ [t], L3, by simp, hq.2.2.symm, E1, H3, Lib.hid ?_, Lib.hid ?_, Lib.hid ?_, by simpa using E2, by simpa using E3, E4⟩
            · rw [List.append_assoc]
              exact ((List.perm_append_left_iff S).2 hq.1).trans h.2.2.1
            · exact sorted_snoc (L := L3) h.2.2.2.1 (fun s hs x hx => h.2.2.2.2.1 s hs x (hq.1.subset hx))
            · intro s hs x hx
              rcases List.mem_append.1 hs with hs | hs
              · exact h.2.2.2.2.1 s hs x (hq.1.subset (List.mem_cons_of_mem _ hx))
              · simp at hs
                subst hs
                exact hq.2.1 x hx
    · have hkn : (k : Int) < (K : Int) := by omega
      obtain ⟨v, hv⟩ : ∃ v, v = tk ts k := ⟨_, rfl⟩
      obtain ⟨f, hf⟩ : ∃ f, f = isB ms k := ⟨_, rfl⟩
      obtain ⟨i, hi⟩ : ∃ i, i = decide (k < m) := ⟨_, rfl⟩
      have c1' := atW_any A n c ts k wr (HT.out.ext hx.out)
      have c2' := atB_any B m d ms k wr (HM.out.ext hx.out)
      rw [← hv] at c1'
      rw [← hf, ← hi] at c2'
      have C1 := Lib.hid c1'
      have C2 := Lib.hid c2'
      have hcs := cntL_snoc ts ms k
      have hcn : cnt ts ms k = (f && decide (0 < v)) := by unfold cnt; rw [hf, hv]
      have hif : f = true → i = true := by
        intro hft
        rw [hi]
        refine decide_eq_true (Classical.byContradiction fun hh => ?_)
        rw [isB_of (by have := HM.out.blen; omega)] at hf
        rw [hf] at hft
        cases hft
      have HK := Lib.hid (And.intro hk (And.intro hgk hz))
      have HC := Lib.hid (And.intro hcs (And.intro hcn hv))
      clear hk hgk hz hv hf hi c1' c2' hcs hcn HN
      by_cases hc : f = true ∧ 0 < v
      · obtain ⟨hft, hv0⟩ := hc
        have hit := hif hft
        subst hft
        subst hit
        have hlen : L.length ≤ 1000 := by
          rw [hpm.out.length_eq]
          exact Nat.le_trans (cntL_len_le _ _ _) (by have := HK.out; omega)
        have HPU := Lib.hid (hPush_any (k : Int) v wr hp.out hh.out (by omega))
        have HPL := hp
        clear hif hlen hp hh
        go_wp2_with fail
        refine C1.out.mono ?_
        rintro e w2 ⟨rfl, rfl⟩
        go_wp2_with fail
        refine C2.out.mono ?_
        rintro e w2 ⟨rfl, rfl⟩
        go_wp2_with fail
        refine HPU.out.mono ?_
        rintro e w2 ⟨⟨v9, rfl⟩, ⟨A3, c3, L3, q1, q2, q3⟩, hb⟩
        have E := Lib.hid (And.intro q1 (And.intro q2 (And.intro q3 (show Ext w w2 from Ext.below hx.out (by rw [← HG.out]; exact hb)))))
        clear q1 q2 q3 hb HPU C1 C2 HPL
        go_wp2
        go_roundg (gk - 1)
        case measure => have := HK.out; omega
        case rel =>
          refine ⟨by have := HK.out; omega, num_eq (by have := HK.out; omega), A3, c3, L3, Lib.hid E.out.1, Lib.hid E.out.2.2.1, Lib.hid ?_, Lib.hid E.out.2.2.2⟩
          rw [show K - (gk - 1) = k + 1 from by have := HK.out; omega, HC.out.1, if_pos (by rw [HC.out.2.1]; simpa using hv0)]
          refine E.out.2.1.trans ?_
          rw [show pr ts k = ((k : Int), v) from by unfold pr; rw [HC.out.2.2]]
          exact (List.perm_append_right_iff _).2 hpm.out
      · have hno : cnt ts ms k = false := by
          rw [HC.out.2.1]
          cases f
          · rfl
          · simp at hc ⊢; omega
        have E := Lib.hid (show L.Perm (cntL ts ms (k + 1)) from by rw [HC.out.1, if_neg (by rw [hno]; simp), List.append_nil]; exact hpm.out)
        have hv0 : f = false ∨ (f = true ∧ ¬ 0 < v) := by
          cases f
          · exact .inl rfl
          · exact .inr ⟨rfl, fun hh => hc ⟨rfl, hh⟩⟩
        clear hno hc
        rcases hv0 with rfl | ⟨rfl, hv0⟩
        · clear hif
          cases i
          all_goals
            go_wp2_with fail
            refine C1.out.mono ?_
            rintro e w2 ⟨rfl, rfl⟩
            go_wp2_with fail
            refine C2.out.mono ?_
            rintro e w2 ⟨rfl, rfl⟩
            go_wp2
            go_roundg (gk - 1)
            case measure => have := HK.out; omega
            case rel =>
              refine ⟨by have := HK.out; omega, num_eq (by have := HK.out; omega), A1, c1, L, hp, hh, ?_, hx⟩
              rw [show K - (gk - 1) = k + 1 from by have := HK.out; omega]
              exact E
        · have hit := hif rfl
          subst hit
          clear hif
          go_wp2_with fail
          refine C1.out.mono ?_
          rintro e w2 ⟨rfl, rfl⟩
          go_wp2_with fail
          refine C2.out.mono ?_
          rintro e w2 ⟨rfl, rfl⟩
          go_wp2
          go_roundg (gk - 1)
          case measure => have := HK.out; omega
          case rel =>
            refine ⟨by have := HK.out; omega, num_eq (by have := HK.out; omega), A1, c1, L, hp, hh, ?_, hx⟩
            rw [show K - (gk - 1) = k + 1 from by have := HK.out; omega]
            exact E
end Go.Proofs.Ytplmgcbjfmdebaa
