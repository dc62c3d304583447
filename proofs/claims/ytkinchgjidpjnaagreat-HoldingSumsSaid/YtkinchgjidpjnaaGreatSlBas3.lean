/- Bas, part 3 of 6: Hd15, Hd16, Hd17, ShareM, Hd18, Hd19. Conditions stand in each lemma. -/
import Derived.WalkKit
import Derived.Deep.QuietTactic
import Derived.Deep.Draws
import Derived.Lib.Hide
import Derived.Laws.OwnMore
import Derived.Laws.AppendOwn
import Derived.OwnWalk
import Derived.Maps.AppendAt
import Derived.Deep.RegionHeld3
import Derived.RangeFuncBox
import Derived.RangeFuncLeaves
import Derived.Shelf.Abstract
import Derived.OwnWalkIn
import Derived.TacticsInMore
import Derived.LoopNIn
import Derived.LoopIn
import Derived.Test.YtkinchgjidpjnaaGreatRows
import Derived.Deep.Onto
import Derived.ProofKit
import Derived.ChangeOld
import Derived.OpenShut
import Derived.Deep.Slices
import Derived.BigQuiet
import Derived.IntWalk
import Derived.Lib.SliceRun
import Derived.Deep.LoopGhost
import Derived.WalkSpells
import Derived.WalkLawsBesides
import Derived.Lib.SmallJoins
import Derived.Test.YtkinchgjidpjnaaGreatShelf
import Derived.Test.YtkinchgjidpjnaaGreatDivNorm
import Derived.Deep.DeepCutAuto
import Derived.Deep.CutBlock
import Derived.Shelf.Spec.BitsCarry
import Derived.Test.YtkinchgjidpjnaaGreatFixRefMath
import Derived.Test.YtkinchgjidpjnaaGreatFixDivideMath
import Derived.Handy
import Derived.ArgAppend
import Derived.Laws.CopyRow
import Derived.Lib.AppendZerosOnto
import Derived.Laws.Externs
import Derived.Lib.Overlaps
import Derived.Shelf.RegionOpenPlain
import Derived.Lib.AppendZeros
import Derived.WalkMore
import Derived.Laws.IdiomCopy
import Derived.Laws.StructEq
import Derived.RangeFuncNested
import Derived.Test.YtkinchgjidpjnaaGreatSlBas2
set_option linter.unusedVariables false
set_option linter.unusedSimpArgs false
namespace Go.Proofs.YtkinchgjidpjnaaGreat
section
open Go.RowKit Go.ChangeShapes Go.WideShapes Go.Deep Go.Joins Go.Shelf
theorem zSlBas3_0 {P : Prop} (h : P := by simp [results, Tryz.results67, go_sem, World.cell?_alloc_past, *]; try rfl) : P := h
theorem make_words {i0 : TypeInfo} (hi0 : Tryz.prog.info? 32 = some i0) (hz0 : i0.zero = some (.int .u64 0)) (hz1 : i0.size = 1) (hz2 : i0.bytes = 8) (n : Nat) (hn : n < 1099511627776) (w : World) :
    ∃ w', (Instr.makeSlice 85 (.int .i64 (n : Int)) (.int .i64 (n : Int))).run Tryz.prog w = .ok (.slice (some ⟨w.heap.size, 0, none⟩) n n) w' ∧ OwnWord w' w.heap.size (.slice (some ⟨w.heap.size, 0, none⟩) n n) n (List.replicate n 0) ∧ Ext w w' := by
  obtain ⟨w', h1, h2, h3⟩ := run_make_full (P := Tryz.prog) w w.heap.size 85 32 i0 _ 1 Tryz.underlying85 hi0 hz0 hz1 .i64 .i64 n (by rw [hz2]; omega) (by simp [maxLen]; omega) (Nat.le_refl _)
  refine ⟨w', h1, ?_, (Ext.refl w).grown h3 (fun k e => by cases e)⟩
  have e : (madeCells (Value.int .u64 0).cells (n * 1)).toList = iv .u64 (List.replicate n 0) := by
    simp [madeCells, iv, Value.cells, Nat.mod_one, List.map_const']
  rw [e] at h2
  exact h2
theorem OwnWord.put {w : World} {base g n d : Nat} {l : List Int} (h : OwnWord w base (.slice (some ⟨g, 0, none⟩) n d) n l) (k : Nat) (x : Int) : OwnWord (w.setCell ⟨g, k, none⟩ (.int .u64 x)) base (.slice (some ⟨g, 0, none⟩) n d) n (l.set k x) := by
  have h4 := (World.ownsRow.stored h k (.int .u64 x)).1
  have h5 : (iv .u64 l).set k (.int .u64 x) = iv .u64 (l.set k x) := by simp [iv, List.map_set]
  rw [h5] at h4
  exact h4
theorem OwnWord.cel {w : World} {base g n d k : Nat} {y : Int} {l : List Int} (h : OwnWord w base (.slice (some ⟨g, 0, none⟩) n d) n l) (hk : k < n) (hy : l[k]? = some y) : w.cell? ⟨g, k, none⟩ = some (.int .u64 y) ∧ w.frozen? ⟨g, k, none⟩ = false :=
  ⟨(World.ownsRow.cellAt h k (by omega)).trans (by simp [iv, hy]), World.ownsRow.frozenAt h k⟩
theorem OwnWord.inb {w : World} {base g n d : Nat} {l : List Int} (h : OwnWord w base (.slice (some ⟨g, 0, none⟩) n d) n l) : base ≤ g ∧ g < w.heap.size := World.ownsRow.lt h g rfl
theorem found_len {cl : List (Int × Int × Int × Int × Int × Int)} {q : List Int} {m : Nat} {n : Nat} (hf : Found cl (fun x => cmpK (kC x) q) m true) (hl : cl.length = n) : m < n := by have := hf.in_ rfl; omega
set_option maxRecDepth 100000 in
set_option maxHeartbeats 4000000 in
theorem hbpositions_any (q n c n2 c2 : Nat) (A A2 : Option Addr) (cl ps : List (Int × Int × Int × Int × Int × Int)) (w : World) (h : Sl w 6 A n c (cl.flatMap clsC)) (h2 : Sl w 6 A2 n2 c2 (ps.flatMap posC)) (hn : n < 1099511627776) (hn2 : n2 < 1099511627776) (hw : ∀ x ∈ cl, WdC x) (hw2 : ∀ x ∈ ps, WdP x) (q_0 : w.cell? ⟨q, 0, none⟩ = some (.slice A n c)) (q_1 : w.cell? ⟨q, 1, none⟩ = some (.slice A2 n2 c2)) :
    Calls Tryz.prog 125 #[.pointer (some ⟨q, 0, none⟩)] w fun r w' => ∃ v, r = .returned (.int .i64 v) ∧ (SortK kC cl → v = posV cl ps) ∧ Ext w w' := by
  have hll := h.rlen clsC_len (by decide)
  have hll2 := h2.rlen posC_len (by decide)
  have hq := cell_lt q_0
  obtain ⟨i0, hi0, hz0, hz1, hz2⟩ := info_parts infoWord
  obtain ⟨w1, mk, hO0, hX0⟩ := make_words hi0 hz0 hz1 hz2 n hn w
  have HS := Lib.hid h
  have HT := Lib.hid h2
  have HW := Lib.hid (And.intro hw hw2)
  have HLL := Lib.hid (And.intro hll hll2)
  have Q0 := Lib.hid (And.intro q_0 q_1)
  have HO0 := Lib.hid hO0
  have X0 := Lib.hid hX0
  have q1_1 := X0.out.has q_1
  have hw1 := OwnWord.inb HO0.out
  clear h h2 hw hw2 hll hll2 hO0 hX0 q_1
  go_enter Tryz.func125, Tryz.ntmps125
  go_wp2
  go_loopg [4, 26] n2 (fun gh o i wx => gh ≤ n2 ∧ i = .int .i64 ((n2 - gh : Nat) : Int) ∧ (∃ wr held, o = .bool wr ∧ Hid (PosI cl ps (n2 - gh) wr held) ∧ Hid (OwnWord wx w.heap.size (.slice (some ⟨w.heap.size, 0, none⟩) n n) n held)) ∧ Hid (Ext w wx))
  case atStart => exact ⟨Nat.le_refl _, by simp, ⟨false, List.replicate n 0, rfl, by rw [Nat.sub_self, show n = cl.length from HLL.out.1.symm]; exact Lib.hid (PosI.start cl ps), HO0⟩, X0⟩
  case round =>
    obtain ⟨hg, hi, ⟨wv, held, rfl, HI, HO⟩, XR⟩ := hrel
    obtain ⟨k, hk⟩ : ∃ k, k = n2 - gk := ⟨_, rfl⟩
    rw [← hk] at hi HI
    subst hi
    clear q_0 q1_1 hw1 mk
    have q_0 := XR.out.has Q0.out.1
    have q_1 := XR.out.has Q0.out.2
    have hwr := OwnWord.inb HO.out
    by_cases hz : gk = 0
    · have hkn : ¬ (k : Int) < (n2 : Int) := by omega
      have HD := Lib.hid (fun b hb => HI.out.done (b := b) HW.out.1 (by have := HLL.out; omega) hb)
      have HLH := Lib.hid HI.out.len
      clear hk hg hz HI
      obtain ⟨wp, hwp⟩ : ∃ wp, wp = wv := ⟨_, rfl⟩
      rw [← hwp]
      rw [← hwp] at HD
      have HW0 := Lib.hid (show WrI cl held wp 0 wv from by rw [hwp]; exact WrI.start cl held wv)
      go_wp2
      go_loopg [4, 93] n (fun gh o i wx => gh ≤ n ∧ i = .int .i64 ((n - gh : Nat) : Int) ∧ (∃ b, o = .bool b ∧ Hid (WrI cl held wp (n - gh) b)) ∧ Hid (OwnWord wx w.heap.size (.slice (some ⟨w.heap.size, 0, none⟩) n n) n held) ∧ Hid (Ext w wx))
      case atStart => exact ⟨Nat.le_refl _, by simp, ⟨_, rfl, by rw [Nat.sub_self]; exact HW0⟩, HO, XR⟩
      case round =>
        clear HO XR q_0 q_1 hwr hwp hkn HW0
        obtain ⟨hg, hi, ⟨wb, rfl, HI⟩, HO, XR⟩ := hrel
        obtain ⟨k2, hk2⟩ : ∃ k2, k2 = n - gk := ⟨_, rfl⟩
        rw [← hk2] at hi HI
        subst hi
        by_cases hz : gk = 0
        · have hkn : ¬ (k2 : Int) < (n : Int) := by omega
          have HD2 := Lib.hid (HD.out wb (by rw [show cl.length = k2 from by have := HLL.out; omega]; exact HI.out))
          clear hk2 hg hz HI
          cases wb
          · go_wp2
            go_ret
            exact ⟨_, rfl, HD2.out, XR.out⟩
          · go_wp2
            go_ret
            exact ⟨_, rfl, HD2.out, XR.out⟩
        · have hkn : (k2 : Int) < (n : Int) := by omega
          have hkl : k2 < cl.length := by have := HLL.out; omega
          have HSr := Lib.hid (HS.out.ext XR.out)
          obtain ⟨b1, o1, rfl, hb1, hc_x⟩ := HSr.out.rec_ clsC_len (show 0 < n from by omega)
          obtain ⟨xw, hl_x⟩ : ∃ x, cl[k2]? = some x := ⟨_, List.getElem?_eq_getElem (by omega)⟩
          have x_0 := hc_x (k2) xw hl_x 0 _ rfl
          have x_1 := hc_x (k2) xw hl_x 1 _ rfl
          have x_2 := hc_x (k2) xw hl_x 2 _ rfl
          have x_3 := hc_x (k2) xw hl_x 3 _ rfl
          have x_4 := hc_x (k2) xw hl_x 4 _ rfl
          have x_5 := hc_x (k2) xw hl_x 5 _ rfl
          obtain ⟨cv, cs, cp, cf, ct, ch⟩ := xw
          simp only at x_0 x_1 x_2 x_3 x_4 x_5
          rw [Nat.add_zero] at x_0
          rw [← Nat.add_assoc] at x_1 x_2 x_3 x_4 x_5
          obtain ⟨y, hy⟩ : ∃ y, held[k2]? = some y := ⟨_, List.getElem?_eq_getElem (by have := HLH.out; omega)⟩
          have hd_0 := (OwnWord.cel HO.out (show k2 < n from by omega) hy).1
          have HN := Lib.hid (fun b' hb => HI.out.next (b' := b') hl_x hy hb)
          have HK := Lib.hid (And.intro hk2 (And.intro hg hz))
          have hwr := OwnWord.inb HO.out
          have hb1s : ¬ b1 = wr.heap.size := by omega
          have hgs : ¬ w.heap.size = wr.heap.size := by omega
          have hgs2 : w.heap.size < wr.heap.size := hwr.2
          have hkn2 : k2 < n := by omega
          clear hk2 hg hz hkl hl_x hy hc_x HSr hwr
          rcases (show wb = true ∨ wb = false from by cases wb <;> simp) with rfl | rfl
          · go_wp2_with fail
            refine wp_region_held_drew (S := fun w' => w'.cell? ⟨wr.heap.size, 5, none⟩ = some (.int .u64 ch) ∧ w'.cell? ⟨w.heap.size, k2, none⟩ = some (.int .u64 y)) (by kernel_rfl) (by first | exact ⟨c0_5, hd_0⟩ | (simp [go_sem, World.cell?_alloc_past, *]; done)) (fun hHeld => ?_)
            refine' zt 0 ?_
            refine' zt 1 ?_
            refine' zs 2 ?_
            refine' zs 3 ?_
            refine' zs 4 ?_
            refine' zs 5 ?_
            refine' zs 6 ?_
            refine' zs 7 ?_
            refine' zs 8 ?_
            refine' zs 9 ?_
            refine' zt 10 ?_
            refine' zt 11 ?_
            refine wpAnyH_done (by kernel_rfl) ?_ _
            go_wp2_with fail
            go_roundg (gk - 1)
            case measure => have := HK.out; omega
            case rel => exact ⟨by have := HK.out; omega, num_eq (by have := HK.out; omega), ⟨_, rfl, by rw [show n - (gk - 1) = k2 + 1 from by have := HK.out; omega]; exact Lib.hid (HN.out _ (by simp [shC]))⟩, Lib.hid (HO.out.ext zxt), Lib.hid zxt⟩
          · go_wp2_with fail
            refine wp_region_held_drew (S := fun w' => w'.cell? ⟨wr.heap.size, 5, none⟩ = some (.int .u64 ch) ∧ w'.cell? ⟨w.heap.size, k2, none⟩ = some (.int .u64 y)) (by kernel_rfl) (by first | exact ⟨c0_5, hd_0⟩ | (simp [go_sem, World.cell?_alloc_past, *]; done)) (fun hHeld => ?_)
            refine' zt 0 ?_
            refine' zt 1 ?_
            refine' zt 2 ?_
            refine' zt 3 ?_
            refine' zt 4 ?_
            refine' zt 5 ?_
            refine' zt 6 ?_
            refine' zt 7 ?_
            refine' zt 8 ?_
            refine' zt 9 ?_
            refine' zt 10 ?_
            refine' zt 11 ?_
            refine wpAnyH_done (by kernel_rfl) ?_ _
            go_wp2_with fail
            go_roundg (gk - 1)
            case measure => have := HK.out; omega
            case rel => exact ⟨by have := HK.out; omega, num_eq (by have := HK.out; omega), ⟨_, rfl, by rw [show n - (gk - 1) = k2 + 1 from by have := HK.out; omega]; exact Lib.hid (HN.out _ (by simp [shC]))⟩, Lib.hid (HO.out.ext zxt), Lib.hid zxt⟩
    · have hkn : (k : Int) < (n2 : Int) := by omega
      have hkl : k < ps.length := by have := HLL.out; omega
      have HSr := Lib.hid (HT.out.ext XR.out)
      obtain ⟨b1, o1, rfl, hb1, hc_x⟩ := HSr.out.rec_ posC_len (show 0 < n2 from by omega)
      obtain ⟨xw, hl_x⟩ : ∃ x, ps[k]? = some x := ⟨_, List.getElem?_eq_getElem (by omega)⟩
      have x_0 := hc_x (k) xw hl_x 0 _ rfl
      have x_1 := hc_x (k) xw hl_x 1 _ rfl
      have x_2 := hc_x (k) xw hl_x 2 _ rfl
      have x_3 := hc_x (k) xw hl_x 3 _ rfl
      have x_4 := hc_x (k) xw hl_x 4 _ rfl
      have x_5 := hc_x (k) xw hl_x 5 _ rfl
      obtain ⟨xo, xv, xs, xp, xf, xn⟩ := xw
      simp only at x_0 x_1 x_2 x_3 x_4 x_5
      rw [Nat.add_zero] at x_0
      rw [← Nat.add_assoc] at x_1 x_2 x_3 x_4 x_5
      have hwx : Word xn := HW.out.2 _ (List.mem_of_getElem? hl_x)
      replace HS := Lib.hid (HS.out.ext XR.out)
      have CO := Lib.hid (fun w => howner_any xo w)
      obtain ⟨OB, hOB⟩ : ∃ OB, OB = decide (0 ≤ xo ∧ xo < 64) := ⟨_, rfl⟩
      rw [← hOB] at CO
      have HOB := Lib.hid hOB
      have HWX := Lib.hid hwx
      have HX := Lib.hid hl_x
      have HK := Lib.hid (And.intro hk (And.intro hg hz))
      have hb1s : ¬ b1 = wr.heap.size := by omega
      have hqr : q < wr.heap.size := cell_lt q_0
      have hqs : ¬ q = wr.heap.size := by omega
      have hgs : ¬ w.heap.size = wr.heap.size := by omega
      have hgs2 : w.heap.size < wr.heap.size := hwr.2
      have hqg : ¬ q = w.heap.size := by omega
      by_cases hk0 : k = 0
      · subst hk0
        have HP := Lib.hid (show prevGe (prK kP ps 0) [xo, xv, xs, xp, xf] = false from rfl)
        clear hk hg hz hkl hl_x hwx hOB hc_x HSr hwr
        simp only [Nat.zero_mul, Nat.add_zero] at x_0 x_1 x_2 x_3 x_4 x_5
        simp only [Int.cast_ofNat_Int] at hkn ⊢
        go_wp2_with fail
        (with_reducible refine (hbclass_any q A n c cl xv xs xp xf _ (HS.out.ext zxt) hn (by first | exact q_0 | (simp [go_sem, World.cell?_alloc_past, q_0, hqr, hqs, hqg]; done))).mono ?_)
        rintro e w11 ⟨z, b, rfl, hfo, hx11⟩
        replace q_0 : w11.cell? ⟨q, 0, none⟩ = some (.slice A n c) := hx11.has zcv
        have c0_0 : w11.cell? ⟨wr.heap.size, 0, none⟩ = some (.int .i64 xo) := hx11.has zcv
        have c0_5 : w11.cell? ⟨wr.heap.size, 5, none⟩ = some (.int .u64 xn) := hx11.has zcv
        have z11 := hx11.size
        try simp at z11
        have lt_q_c0 : q < wr.heap.size := by omega
        have ne_q_c0 : ¬ q = wr.heap.size := by omega
        have ne_c0_q : ¬ wr.heap.size = q := by omega
        have zq := zrc (show q < w11.heap.size from by omega)
        obtain ⟨rq, rqa, rqb, rqc, rqn⟩ := zq
        have zq := zrc (show wr.heap.size < w11.heap.size from by omega)
        obtain ⟨rc0, rc0a, rc0b, rc0c, rc0n⟩ := zq
        replace HS := Lib.hid (HS.out.ext (Ext.trans zxt hx11))
        replace HO := Lib.hid (HO.out.ext (Ext.trans zxt hx11))
        have X11 : Hid (Ext w w11) := Lib.hid (Ext.trans zxt hx11)
        clear x_0 x_2 x_4 x_5 x_3 x_1 q_1 XR hx11 z11
        have HFo := Lib.hid hfo
        clear hfo
        go_wp2_with fail
        (with_reducible refine (CO.out _).mono ?_)
        rintro e w_1 ⟨rfl, rfl⟩
        rcases (show OB = false ∨ OB = true from by cases OB <;> simp) with rfl | rfl
        · have HV := Lib.hid (HI.out.fail HX.out (v := 3) (fun _ => posOne_range (of_decide_eq_false HOB.out.symm)) (by decide))
          go_wp2_with fail
          go_ret
          exact ⟨_, rfl, HV.out, zxt⟩
        · go_wp2_with fail
          refine wp_region_held_drew (S := fun w' => True) (by kernel_rfl) (by first | exact trivial | (simp [go_sem, World.cell?_alloc_past, *]; done)) (fun hHeld => ?_)
          refine' zt 0 ?_
          refine' zt 1 ?_
          refine' zt 2 ?_
          refine' zs 3 ?_
          refine' zs 4 ?_
          refine' zs 5 ?_
          refine' zs 6 ?_
          refine' zs 7 ?_
          refine' zs 8 ?_
          refine' zs 9 ?_
          refine' zs 10 ?_
          refine' zs 11 ?_
          refine' zs 12 ?_
          refine' zs 13 ?_
          refine' zs 14 ?_
          refine' zt 15 ?_
          refine' zt 16 ?_
          refine wpAnyH_done (by kernel_rfl) ?_ _
          by_cases q5 : xn = 0
          · have q5b : (xn == 0) = true := by simpa using q5
            have HV := Lib.hid (HI.out.fail HX.out (v := 14) (fun _ => posOne_dust (show 0 ≤ xo ∧ xo < 64 from of_decide_eq_true HOB.out.symm) HP.out q5) (by decide))
            go_wp2_with fail
            go_ret
            exact ⟨_, rfl, HV.out, zxt⟩
          · have q5b : (xn == 0) = false := by simpa using q5
            rcases (show b = false ∨ b = true from by cases b <;> simp) with rfl | rfl
            · have HV := Lib.hid (HI.out.fail HX.out (v := 10) (posOne_unknown HFo.out (show 0 ≤ xo ∧ xo < 64 from of_decide_eq_true HOB.out.symm) HP.out q5) (by decide))
              go_wp2_with fail
              go_ret
              exact ⟨_, rfl, HV.out, zxt⟩
            · have hzn := found_len HFo.out HLL.out.1
              have hzi : (z : Int) < (n : Int) := by omega
              have HOn := Lib.hid (show OwnWord _ w.heap.size (.slice (some ⟨w.heap.size, 0, none⟩) n n) n held from (HO.out.ext zxt))
              obtain ⟨y2, hy2⟩ : ∃ y2, held[z]? = some y2 := ⟨_, List.getElem?_eq_getElem (by have := HI.out.len; have := HLL.out; omega)⟩
              have hd_0 := (OwnWord.cel HOn.out hzn hy2).1
              have hd_0f := (OwnWord.cel HOn.out hzn hy2).2
              clear HOn
              have CA := Lib.hid (fun w => fAdd_any y2 xn (HI.out.wo _ (List.mem_of_getElem? hy2)) HWX.out w)
              obtain ⟨N, hN⟩ : ∃ N, N = addN y2 xn := ⟨_, rfl⟩
              obtain ⟨EA, hEA⟩ : ∃ EA, EA = addE y2 xn := ⟨_, rfl⟩
              rw [← hN, ← hEA] at CA
              have HN := Lib.hid (fun o' ho => (show PosI cl ps (0 + 1) o' (held.set z N) from by have hh := HI.out.next HX.out HW.out.2 (wr' := o') (posOne_ok HFo.out (show 0 ≤ xo ∧ xo < 64 from of_decide_eq_true HOB.out.symm) HP.out q5) HFo.out hy2 (by rw [show addE y2 (shP (xo, xv, xs, xp, xf, xn)) = EA from hEA.symm]; exact ho); rw [show addN y2 (shP (xo, xv, xs, xp, xf, xn)) = N from hN.symm] at hh; exact hh))
              clear hN hEA hy2
              go_wp2_with fail
              refine wp_region_held_drew (S := fun w' => w'.cell? ⟨wr.heap.size, 5, none⟩ = some (.int .u64 xn) ∧ w'.cell? ⟨w.heap.size, z, none⟩ = some (.int .u64 y2)) (by kernel_rfl) (by first | exact ⟨c0_5, hd_0⟩ | (simp [go_sem, World.cell?_alloc_past, *]; done)) (fun hHeld => ?_)
              refine' zt 0 ?_
              refine' zt 1 ?_
              refine' zt 2 ?_
              refine' zt 3 ?_
              refine' zt 4 ?_
              refine' zt 5 ?_
              refine' zn 6 (fun K hK => ?_)
              go_simp
              (with_reducible refine (CA.out _).mono ?_)
              rintro e w12 ⟨rfl, hx12⟩
              replace q_0 : w12.cell? ⟨q, 0, none⟩ = some (.slice A n c) := hx12.has zcv
              replace c0_5 : w12.cell? ⟨wr.heap.size, 5, none⟩ = some (.int .u64 xn) := hx12.has zcv
              replace hd_0f : w12.frozen? ⟨w.heap.size, z, none⟩ = false := hx12.froz (v := .int .u64 y2) zcv zcv
              replace hd_0 : w12.cell? ⟨w.heap.size, z, none⟩ = some (.int .u64 y2) := hx12.has zcv
              have z12 := hx12.size
              try simp at z12
              have ne_c0_hd : ¬ wr.heap.size = w.heap.size := by omega
              have ne_hd_c0 : ¬ w.heap.size = wr.heap.size := by omega
              have zq := zrc (show q < w12.heap.size from by omega)
              clear rq rqa rqb rqc rqn
              obtain ⟨rq, rqa, rqb, rqc, rqn⟩ := zq
              have zq := zrc (show wr.heap.size < w12.heap.size from by omega)
              clear rc0 rc0a rc0b rc0c rc0n
              obtain ⟨rc0, rc0a, rc0b, rc0c, rc0n⟩ := zq
              have zq := zrc (show w.heap.size < w12.heap.size from by omega)
              obtain ⟨rhd, rhda, rhdb, rhdc, rhdn⟩ := zq
              replace HS := Lib.hid (HS.out.ext (Ext.trans zxt hx12))
              replace HO := Lib.hid (HO.out.ext (Ext.trans zxt hx12))
              have X12 : Hid (Ext w w12) := Lib.hid (Ext.trans zxt hx12)
              clear c0_0 X11 hx12 z12
              refine hK.out _ _ (by (first | exact ⟨c0_5, hd_0⟩ | (simp [go_sem, World.cell?_alloc_past, *]; done))) (fun hHeld => ?_); clear hK K; try simp only [Act.put, List.setIfInBounds_toArray, List.set_cons_zero, List.set_cons_succ]
              refine' zt 7 ?_
              refine' zt 8 ?_
              refine' zt 9 ?_
              refine' zt 10 ?_
              refine' zt 11 ?_
              refine wpAnyH_done (by kernel_rfl) ?_ _
              rcases (show wv = true ∨ wv = false from by cases wv <;> simp) with rfl | rfl
              · go_wp2_with fail
                go_roundg (gk - 1)
                case measure => have := HK.out; omega
                case rel => exact ⟨by have := HK.out; omega, num_eq (by have := HK.out; omega), ⟨_, _, rfl, by rw [show n2 - (gk - 1) = 0 + 1 from by have := HK.out; omega]; exact Lib.hid (HN.out _ (by simp [*])), Lib.hid (OwnWord.put (HO.out.ext zxt) z N)⟩, Lib.hid zxt⟩
              · go_wp2_with fail
                go_roundg (gk - 1)
                case measure => have := HK.out; omega
                case rel => exact ⟨by have := HK.out; omega, num_eq (by have := HK.out; omega), ⟨_, _, rfl, by rw [show n2 - (gk - 1) = 0 + 1 from by have := HK.out; omega]; exact Lib.hid (HN.out _ (by simp [*])), Lib.hid (OwnWord.put (HO.out.ext zxt) z N)⟩, Lib.hid zxt⟩
      · obtain ⟨m, rfl⟩ : ∃ m, k = m + 1 := ⟨k - 1, by omega⟩
        obtain ⟨yw, hl_y⟩ : ∃ x, ps[m]? = some x := ⟨_, List.getElem?_eq_getElem (by omega)⟩
        have y_0 := hc_x m yw hl_y 0 _ rfl
        have y_1 := hc_x m yw hl_y 1 _ rfl
        have y_2 := hc_x m yw hl_y 2 _ rfl
        have y_3 := hc_x m yw hl_y 3 _ rfl
        have y_4 := hc_x m yw hl_y 4 _ rfl
        have y_5 := hc_x m yw hl_y 5 _ rfl
        obtain ⟨yo, yv, ys, yp, yf, yn⟩ := yw
        simp only at y_0 y_1 y_2 y_3 y_4 y_5
        rw [Nat.add_zero] at y_0
        rw [← Nat.add_assoc] at y_1 y_2 y_3 y_4 y_5
        obtain ⟨G, hG⟩ : ∃ G, G = cmpK [yo, yv, ys, yp, yf] [xo, xv, xs, xp, xf] := ⟨_, rfl⟩
        have HG := Lib.hid hG
        have HP := Lib.hid (show prevGe (prK kP ps (m + 1)) [xo, xv, xs, xp, xf] = decide (0 ≤ G) from by rw [prK_succ hl_y, hG]; rfl)
        have hm1 : (m : Int) + 1 - 1 = (m : Int) := by omega
        have hmd : decide ((0 : Int) < (m : Int) + 1) = true := decide_eq_true (by omega)
        have hmp : (0 : Int) < (m : Int) + 1 := by omega
        have hml : (m : Int) < (n2 : Int) := by omega
        have hmw : IntKind.i64.wrap (m : Int) = (m : Int) := IntWalk.i64_in _ (by omega)
        have hmw2 : IntKind.i64.wrap ((m : Int) + 1 - 1) = (m : Int) := by rw [hm1]; exact hmw
        have hms : m ≤ 9223372036854775806 := by omega
        clear hk hg hz hkl hl_x hl_y hwx hOB hG hc_x HSr hwr
        go_wp2_with fail
        (with_reducible refine (hbclass_any q A n c cl xv xs xp xf _ (HS.out.ext zxt) hn (by first | exact q_0 | (simp [go_sem, World.cell?_alloc_past, q_0, hqr, hqs, hqg]; done))).mono ?_)
        rintro e w11 ⟨z, b, rfl, hfo, hx11⟩
        replace y_0 : w11.cell? ⟨b1, o1 + m * 6, none⟩ = some (.int .i64 yo) := hx11.has zcv
        replace y_1 : w11.cell? ⟨b1, o1 + m * 6 + 1, none⟩ = some (.int .i64 yv) := hx11.has zcv
        replace y_2 : w11.cell? ⟨b1, o1 + m * 6 + 2, none⟩ = some (.int .i64 ys) := hx11.has zcv
        replace y_3 : w11.cell? ⟨b1, o1 + m * 6 + 3, none⟩ = some (.int .i64 yp) := hx11.has zcv
        replace y_4 : w11.cell? ⟨b1, o1 + m * 6 + 4, none⟩ = some (.int .i64 yf) := hx11.has zcv
        replace y_5 : w11.cell? ⟨b1, o1 + m * 6 + 5, none⟩ = some (.int .u64 yn) := hx11.has zcv
        replace q_0 : w11.cell? ⟨q, 0, none⟩ = some (.slice A n c) := hx11.has zcv
        replace q_1 : w11.cell? ⟨q, 1, none⟩ = some (.slice (some ⟨b1, o1, none⟩) n2 c2) := hx11.has zcv
        have c0_0 : w11.cell? ⟨wr.heap.size, 0, none⟩ = some (.int .i64 xo) := hx11.has zcv
        have c0_1 : w11.cell? ⟨wr.heap.size, 1, none⟩ = some (.int .i64 xv) := hx11.has zcv
        have c0_2 : w11.cell? ⟨wr.heap.size, 2, none⟩ = some (.int .i64 xs) := hx11.has zcv
        have c0_3 : w11.cell? ⟨wr.heap.size, 3, none⟩ = some (.int .i64 xp) := hx11.has zcv
        have c0_4 : w11.cell? ⟨wr.heap.size, 4, none⟩ = some (.int .i64 xf) := hx11.has zcv
        have c0_5 : w11.cell? ⟨wr.heap.size, 5, none⟩ = some (.int .u64 xn) := hx11.has zcv
        have z11 := hx11.size
        try simp at z11
        have lt_y_c0 : b1 < wr.heap.size := by omega
        have ne_y_c0 : ¬ b1 = wr.heap.size := by omega
        have lt_q_c0 : q < wr.heap.size := by omega
        have ne_q_c0 : ¬ q = wr.heap.size := by omega
        have ne_c0_y : ¬ wr.heap.size = b1 := by omega
        have ne_c0_q : ¬ wr.heap.size = q := by omega
        have zq := zrc (show b1 < w11.heap.size from by omega)
        obtain ⟨ry, rya, ryb, ryc, ryn⟩ := zq
        have zq := zrc (show q < w11.heap.size from by omega)
        obtain ⟨rq, rqa, rqb, rqc, rqn⟩ := zq
        have zq := zrc (show wr.heap.size < w11.heap.size from by omega)
        obtain ⟨rc0, rc0a, rc0b, rc0c, rc0n⟩ := zq
        replace HS := Lib.hid (HS.out.ext (Ext.trans zxt hx11))
        replace HO := Lib.hid (HO.out.ext (Ext.trans zxt hx11))
        have X11 : Hid (Ext w w11) := Lib.hid (Ext.trans zxt hx11)
        clear x_0 x_4 x_2 x_5 x_1 x_3 XR hx11 z11
        have HFo := Lib.hid hfo
        clear hfo
        go_wp2_with fail
        (with_reducible refine (CO.out _).mono ?_)
        rintro e w_1 ⟨rfl, rfl⟩
        rcases (show OB = false ∨ OB = true from by cases OB <;> simp) with rfl | rfl
        · have HV := Lib.hid (HI.out.fail HX.out (v := 3) (fun _ => posOne_range (of_decide_eq_false HOB.out.symm)) (by decide))
          go_wp2_with fail
          go_ret
          exact ⟨_, rfl, HV.out, zxt⟩
        · go_wp2_with fail
          refine wp_region_held_drew (S := fun w' => w'.cell? ⟨wr.heap.size, 0, none⟩ = some (.int .i64 xo) ∧ w'.cell? ⟨wr.heap.size, 1, none⟩ = some (.int .i64 xv) ∧ w'.cell? ⟨wr.heap.size, 2, none⟩ = some (.int .i64 xs) ∧ w'.cell? ⟨wr.heap.size, 3, none⟩ = some (.int .i64 xp) ∧ w'.cell? ⟨wr.heap.size, 4, none⟩ = some (.int .i64 xf) ∧ w'.cell? ⟨wr.heap.size, 5, none⟩ = some (.int .u64 xn) ∧ w'.cell? ⟨q, 1, none⟩ = some (.slice (some ⟨b1, o1, none⟩) n2 c2) ∧ w'.cell? ⟨b1, o1 + m * 6, none⟩ = some (.int .i64 yo) ∧ w'.cell? ⟨b1, o1 + m * 6 + 1, none⟩ = some (.int .i64 yv) ∧ w'.cell? ⟨b1, o1 + m * 6 + 2, none⟩ = some (.int .i64 ys) ∧ w'.cell? ⟨b1, o1 + m * 6 + 3, none⟩ = some (.int .i64 yp) ∧ w'.cell? ⟨b1, o1 + m * 6 + 4, none⟩ = some (.int .i64 yf) ∧ w'.cell? ⟨b1, o1 + m * 6 + 5, none⟩ = some (.int .u64 yn)) (by kernel_rfl) (by first | exact ⟨c0_0, c0_1, c0_2, c0_3, c0_4, c0_5, q_1, y_0, y_1, y_2, y_3, y_4, y_5⟩ | (simp [go_sem, World.cell?_alloc_past, *]; done)) (fun hHeld => ?_)
          refine' zt 0 ?_
          refine' zt 1 ?_
          refine' zt 2 ?_
          refine' zt 3 ?_
          refine' zt 4 ?_
          refine' zt 5 ?_
          refine' zt 6 ?_
          refine' zt 7 ?_
          refine' zt 8 ?_
          refine' zt 9 ?_
          refine' zt 10 ?_
          refine' zt 11 ?_
          refine' zt 12 ?_
          refine' zn 13 (fun K hK => ?_)
          go_simp
          (with_reducible refine (horder_at yo yv ys yp yf yn xo xv xs xp xf xn G _ HG.out).mono ?_)
          rintro e w12 ⟨rfl, hx12⟩
          replace y_0 : w12.cell? ⟨b1, o1 + m * 6, none⟩ = some (.int .i64 yo) := hx12.has zcv
          replace y_1 : w12.cell? ⟨b1, o1 + m * 6 + 1, none⟩ = some (.int .i64 yv) := hx12.has zcv
          replace y_2 : w12.cell? ⟨b1, o1 + m * 6 + 2, none⟩ = some (.int .i64 ys) := hx12.has zcv
          replace y_3 : w12.cell? ⟨b1, o1 + m * 6 + 3, none⟩ = some (.int .i64 yp) := hx12.has zcv
          replace y_4 : w12.cell? ⟨b1, o1 + m * 6 + 4, none⟩ = some (.int .i64 yf) := hx12.has zcv
          replace y_5 : w12.cell? ⟨b1, o1 + m * 6 + 5, none⟩ = some (.int .u64 yn) := hx12.has zcv
          replace q_0 : w12.cell? ⟨q, 0, none⟩ = some (.slice A n c) := hx12.has zcv
          replace q_1 : w12.cell? ⟨q, 1, none⟩ = some (.slice (some ⟨b1, o1, none⟩) n2 c2) := hx12.has zcv
          replace c0_0 : w12.cell? ⟨wr.heap.size, 0, none⟩ = some (.int .i64 xo) := hx12.has zcv
          replace c0_1 : w12.cell? ⟨wr.heap.size, 1, none⟩ = some (.int .i64 xv) := hx12.has zcv
          replace c0_2 : w12.cell? ⟨wr.heap.size, 2, none⟩ = some (.int .i64 xs) := hx12.has zcv
          replace c0_3 : w12.cell? ⟨wr.heap.size, 3, none⟩ = some (.int .i64 xp) := hx12.has zcv
          replace c0_4 : w12.cell? ⟨wr.heap.size, 4, none⟩ = some (.int .i64 xf) := hx12.has zcv
          replace c0_5 : w12.cell? ⟨wr.heap.size, 5, none⟩ = some (.int .u64 xn) := hx12.has zcv
          have z12 := hx12.size
          try simp at z12
          have zq := zrc (show b1 < w12.heap.size from by omega)
          clear ry rya ryb ryc ryn
          obtain ⟨ry, rya, ryb, ryc, ryn⟩ := zq
          have zq := zrc (show q < w12.heap.size from by omega)
          clear rq rqa rqb rqc rqn
          obtain ⟨rq, rqa, rqb, rqc, rqn⟩ := zq
          have zq := zrc (show wr.heap.size < w12.heap.size from by omega)
          clear rc0 rc0a rc0b rc0c rc0n
          obtain ⟨rc0, rc0a, rc0b, rc0c, rc0n⟩ := zq
          replace HS := Lib.hid (HS.out.ext (Ext.trans zxt hx12))
          replace HO := Lib.hid (HO.out.ext (Ext.trans zxt hx12))
          have X12 : Hid (Ext w w12) := Lib.hid (Ext.trans zxt hx12)
          clear X11 hx12 z12
          refine hK.out _ _ (by (first | exact ⟨c0_0, c0_1, c0_2, c0_3, c0_4, c0_5, q_1, y_0, y_1, y_2, y_3, y_4, y_5⟩ | (simp [go_sem, World.cell?_alloc_past, *]; done))) (fun hHeld => ?_); clear hK K; try simp only [Act.put, List.setIfInBounds_toArray, List.set_cons_zero, List.set_cons_succ]
          refine' zt 14 ?_
          refine' zt 15 ?_
          refine' zt 16 ?_
          refine wpAnyH_done (by kernel_rfl) ?_ _
          by_cases q4 : 0 ≤ G
          · have q4b : decide (0 ≤ G) = true := decide_eq_true q4
            have HV := Lib.hid (HI.out.fail HX.out (v := 9) (fun _ => posOne_order (show 0 ≤ xo ∧ xo < 64 from of_decide_eq_true HOB.out.symm) (HP.out.trans q4b)) (by decide))
            go_wp2_with fail
            go_ret
            exact ⟨_, rfl, HV.out, zxt⟩
          · have q4b : decide (0 ≤ G) = false := decide_eq_false q4
            replace HP := Lib.hid (HP.out.trans q4b)
            by_cases q5 : xn = 0
            · have q5b : (xn == 0) = true := by simpa using q5
              have HV := Lib.hid (HI.out.fail HX.out (v := 14) (fun _ => posOne_dust (show 0 ≤ xo ∧ xo < 64 from of_decide_eq_true HOB.out.symm) HP.out q5) (by decide))
              go_wp2_with fail
              go_ret
              exact ⟨_, rfl, HV.out, zxt⟩
            · have q5b : (xn == 0) = false := by simpa using q5
              rcases (show b = false ∨ b = true from by cases b <;> simp) with rfl | rfl
              · have HV := Lib.hid (HI.out.fail HX.out (v := 10) (posOne_unknown HFo.out (show 0 ≤ xo ∧ xo < 64 from of_decide_eq_true HOB.out.symm) HP.out q5) (by decide))
                go_wp2_with fail
                go_ret
                exact ⟨_, rfl, HV.out, zxt⟩
              · have hzn := found_len HFo.out HLL.out.1
                have hzi : (z : Int) < (n : Int) := by omega
                have HOn := Lib.hid (show OwnWord _ w.heap.size (.slice (some ⟨w.heap.size, 0, none⟩) n n) n held from (HO.out.ext zxt))
                obtain ⟨y2, hy2⟩ : ∃ y2, held[z]? = some y2 := ⟨_, List.getElem?_eq_getElem (by have := HI.out.len; have := HLL.out; omega)⟩
                have hd_0 := (OwnWord.cel HOn.out hzn hy2).1
                have hd_0f := (OwnWord.cel HOn.out hzn hy2).2
                clear HOn
                have CA := Lib.hid (fun w => fAdd_any y2 xn (HI.out.wo _ (List.mem_of_getElem? hy2)) HWX.out w)
                obtain ⟨N, hN⟩ : ∃ N, N = addN y2 xn := ⟨_, rfl⟩
                obtain ⟨EA, hEA⟩ : ∃ EA, EA = addE y2 xn := ⟨_, rfl⟩
                rw [← hN, ← hEA] at CA
                have HN := Lib.hid (fun o' ho => (show PosI cl ps ((m + 1) + 1) o' (held.set z N) from by have hh := HI.out.next HX.out HW.out.2 (wr' := o') (posOne_ok HFo.out (show 0 ≤ xo ∧ xo < 64 from of_decide_eq_true HOB.out.symm) HP.out q5) HFo.out hy2 (by rw [show addE y2 (shP (xo, xv, xs, xp, xf, xn)) = EA from hEA.symm]; exact ho); rw [show addN y2 (shP (xo, xv, xs, xp, xf, xn)) = N from hN.symm] at hh; exact hh))
                clear hN hEA hy2
                go_wp2_with fail
                refine wp_region_held_drew (S := fun w' => w'.cell? ⟨wr.heap.size, 5, none⟩ = some (.int .u64 xn) ∧ w'.cell? ⟨w.heap.size, z, none⟩ = some (.int .u64 y2)) (by kernel_rfl) (by first | exact ⟨c0_5, hd_0⟩ | (simp [go_sem, World.cell?_alloc_past, *]; done)) (fun hHeld => ?_)
                refine' zt 0 ?_
                refine' zt 1 ?_
                refine' zt 2 ?_
                refine' zt 3 ?_
                refine' zt 4 ?_
                refine' zt 5 ?_
                refine' zn 6 (fun K hK => ?_)
                go_simp
                (with_reducible refine (CA.out _).mono ?_)
                rintro e w13 ⟨rfl, hx13⟩
                replace y_0 : w13.cell? ⟨b1, o1 + m * 6, none⟩ = some (.int .i64 yo) := hx13.has zcv
                replace y_1 : w13.cell? ⟨b1, o1 + m * 6 + 1, none⟩ = some (.int .i64 yv) := hx13.has zcv
                replace y_2 : w13.cell? ⟨b1, o1 + m * 6 + 2, none⟩ = some (.int .i64 ys) := hx13.has zcv
                replace y_3 : w13.cell? ⟨b1, o1 + m * 6 + 3, none⟩ = some (.int .i64 yp) := hx13.has zcv
                replace y_4 : w13.cell? ⟨b1, o1 + m * 6 + 4, none⟩ = some (.int .i64 yf) := hx13.has zcv
                replace y_5 : w13.cell? ⟨b1, o1 + m * 6 + 5, none⟩ = some (.int .u64 yn) := hx13.has zcv
                replace q_0 : w13.cell? ⟨q, 0, none⟩ = some (.slice A n c) := hx13.has zcv
                replace q_1 : w13.cell? ⟨q, 1, none⟩ = some (.slice (some ⟨b1, o1, none⟩) n2 c2) := hx13.has zcv
                replace c0_0 : w13.cell? ⟨wr.heap.size, 0, none⟩ = some (.int .i64 xo) := hx13.has zcv
                replace c0_1 : w13.cell? ⟨wr.heap.size, 1, none⟩ = some (.int .i64 xv) := hx13.has zcv
                replace c0_2 : w13.cell? ⟨wr.heap.size, 2, none⟩ = some (.int .i64 xs) := hx13.has zcv
                replace c0_3 : w13.cell? ⟨wr.heap.size, 3, none⟩ = some (.int .i64 xp) := hx13.has zcv
                replace c0_4 : w13.cell? ⟨wr.heap.size, 4, none⟩ = some (.int .i64 xf) := hx13.has zcv
                replace c0_5 : w13.cell? ⟨wr.heap.size, 5, none⟩ = some (.int .u64 xn) := hx13.has zcv
                replace hd_0f : w13.frozen? ⟨w.heap.size, z, none⟩ = false := hx13.froz (v := .int .u64 y2) zcv zcv
                replace hd_0 : w13.cell? ⟨w.heap.size, z, none⟩ = some (.int .u64 y2) := hx13.has zcv
                have z13 := hx13.size
                try simp at z13
                have ne_c0_hd : ¬ wr.heap.size = w.heap.size := by omega
                have ne_hd_c0 : ¬ w.heap.size = wr.heap.size := by omega
                have zq := zrc (show b1 < w13.heap.size from by omega)
                clear ry rya ryb ryc ryn
                obtain ⟨ry, rya, ryb, ryc, ryn⟩ := zq
                have zq := zrc (show q < w13.heap.size from by omega)
                clear rq rqa rqb rqc rqn
                obtain ⟨rq, rqa, rqb, rqc, rqn⟩ := zq
                have zq := zrc (show wr.heap.size < w13.heap.size from by omega)
                clear rc0 rc0a rc0b rc0c rc0n
                obtain ⟨rc0, rc0a, rc0b, rc0c, rc0n⟩ := zq
                have zq := zrc (show w.heap.size < w13.heap.size from by omega)
                obtain ⟨rhd, rhda, rhdb, rhdc, rhdn⟩ := zq
                replace HS := Lib.hid (HS.out.ext (Ext.trans zxt hx13))
                replace HO := Lib.hid (HO.out.ext (Ext.trans zxt hx13))
                have X13 : Hid (Ext w w13) := Lib.hid (Ext.trans zxt hx13)
                clear X12 hx13 z13
                refine hK.out _ _ (by (first | exact ⟨c0_5, hd_0⟩ | (simp [go_sem, World.cell?_alloc_past, *]; done))) (fun hHeld => ?_); clear hK K; try simp only [Act.put, List.setIfInBounds_toArray, List.set_cons_zero, List.set_cons_succ]
                refine' zt 7 ?_
                refine' zt 8 ?_
                refine' zt 9 ?_
                refine' zt 10 ?_
                refine' zt 11 ?_
                refine wpAnyH_done (by kernel_rfl) ?_ _
                rcases (show wv = true ∨ wv = false from by cases wv <;> simp) with rfl | rfl
                · go_wp2_with fail
                  go_roundg (gk - 1)
                  case measure => have := HK.out; omega
                  case rel => exact ⟨by have := HK.out; omega, num_eq (by have := HK.out; omega), ⟨_, _, rfl, by rw [show n2 - (gk - 1) = (m + 1) + 1 from by have := HK.out; omega]; exact Lib.hid (HN.out _ (by simp [*])), Lib.hid (OwnWord.put (HO.out.ext zxt) z N)⟩, Lib.hid zxt⟩
                · go_wp2_with fail
                  go_roundg (gk - 1)
                  case measure => have := HK.out; omega
                  case rel => exact ⟨by have := HK.out; omega, num_eq (by have := HK.out; omega), ⟨_, _, rfl, by rw [show n2 - (gk - 1) = (m + 1) + 1 from by have := HK.out; omega]; exact Lib.hid (HN.out _ (by simp [*])), Lib.hid (OwnWord.put (HO.out.ext zxt) z N)⟩, Lib.hid zxt⟩
end
section
open Go.RowKit Go.ChangeShapes Go.WideShapes Go.Deep Go.Joins
theorem own_box {w : World} {base n sz q o : Nat} {e : TypeId} {v u : Value} {xs : List Value} (h : w.ownsRow base e sz v n xs) (hq : q < base) : (w.setCell ⟨q, o, none⟩ u).ownsRow base e sz v n xs :=
  own_set_apart h (fun k hk hh => by have := (World.ownsRow.lt h k hk).1; omega)
/-- rows of different kinds lie in different blocks -/
theorem own_apart {w : World} {b1 b2 n m s1 s2 : Nat} {e1 e2 : TypeId} {v1 v2 : Value} {xs ys : List Value} (h1 : w.ownsRow b1 e1 s1 v1 n xs) (h2 : w.ownsRow b2 e2 s2 v2 m ys) (he : e1 ≠ e2) : ∀ k, v1.ownBlock = some k → ¬ v2.ownBlock = some k := by
  intro k hk hk2
  rcases h1.2 with ⟨rfl, _⟩ | ⟨g, cap, cur, rfl, _, hg, _⟩
  · cases hk
  rcases h2.2 with ⟨rfl, _⟩ | ⟨g2, cap2, cur2, rfl, _, hg2, _⟩
  · cases hk2
  obtain rfl : g = k := by simpa [Value.ownBlock] using hk
  obtain rfl : g2 = g := by simpa [Value.ownBlock] using hk2
  rw [hg] at hg2
  injection hg2 with hg2
  injection hg2 with _ hg2
  exact he hg2
theorem cls_pos : 79 ≠ 82 := by decide
/-- a holding handed back -/
def HoldR (cl ps : List (Int × Int × Int × Int × Int × Int)) (w : World) (v : Value) (w' : World) : Prop := ∃ B d B2 d2, v = .agg #[.slice B cl.length d, .slice B2 ps.length d2] ∧ (B = none → d = 0) ∧ (B2 = none → d2 = 0) ∧ OwnCls w' w.heap.size (.slice B cl.length d) cl.length cl ∧ OwnPos w' w.heap.size (.slice B2 ps.length d2) ps.length ps ∧ Ext w w'
set_option maxRecDepth 100000 in
set_option maxHeartbeats 4000000 in
theorem hbcheck_any (q n c n2 c2 : Nat) (A A2 : Option Addr) (cl ps : List (Int × Int × Int × Int × Int × Int)) (w : World) (h : Sl w 6 A n c (cl.flatMap clsC)) (h2 : Sl w 6 A2 n2 c2 (ps.flatMap posC)) (hn : n < 1099511627776) (hn2 : n2 < 1099511627776) (hw : ∀ x ∈ cl, WdC x) (hw2 : ∀ x ∈ ps, WdP x) (q_0 : w.cell? ⟨q, 0, none⟩ = some (.slice A n c)) (q_1 : w.cell? ⟨q, 1, none⟩ = some (.slice A2 n2 c2)) :
    Calls Tryz.prog 62 #[.pointer (some ⟨q, 0, none⟩)] w fun r w' => r = .returned (.int .i64 (chkH cl ps)) ∧ Ext w w' := by
  have C1 := Lib.hid (hbclasses_any q A n c cl w h hn hw q_0)
  have C2 := Lib.hid (fun (w' : World) (hx : Ext w w') => hbpositions_any q n c n2 c2 A A2 cl ps w' (h.ext hx) (h2.ext hx) hn hn2 hw hw2 (hx.has q_0) (hx.has q_1))
  obtain ⟨E, hE⟩ : ∃ E, E = clsV cl := ⟨_, rfl⟩
  rw [← hE] at C1
  have HE := Lib.hid hE
  clear h h2 hw hw2 q_0 q_1 hE
  go_enter Tryz.func62, Tryz.ntmps62
  go_wp2_with fail
  (with_reducible refine (C1.out).mono ?_)
  rintro e w1 ⟨rfl, hx1⟩
  have z1 := hx1.size
  try simp at z1
  have X1 : Hid (Ext w w1) := Lib.hid (Ext.trans zxt hx1)
  clear hx1 z1
  go_wp2_with fail
  (with_reducible refine (C2.out _ X1.out).mono ?_)
  rintro e w2 ⟨v, rfl, hv, hx2⟩
  have z2 := hx2.size
  try simp at z2
  have X2 : Hid (Ext w w2) := Lib.hid (Ext.trans zxt hx2)
  clear X1 hx2 z2
  obtain ⟨Fv, hFv⟩ : ∃ F, F = (if E ≠ 0 then E else v) := ⟨_, rfl⟩
  have CF := Lib.hid (fun b o c w h0 h1 => cmpOrE_two E v b o c w h0 h1)
  rw [← hFv] at CF
  have HV := Lib.hid (show Fv = chkH cl ps from by rw [hFv, HE.out]; exact chkH_of hv)
  clear hv hFv
  go_wp2_with fail
  (with_reducible refine (CF.out w2.heap.size 0 2 _ (by simp [go_sem]) (by simp [go_sem])).mono ?_)
  rintro e w_1 ⟨rfl, rfl⟩
  go_wp2_with fail
  go_ret
  exact ⟨ret_int HV.out, zxt⟩
set_option maxRecDepth 100000 in
set_option maxHeartbeats 4000000 in
theorem hCheck_any (n c n2 c2 : Nat) (A A2 : Option Addr) (cl ps : List (Int × Int × Int × Int × Int × Int)) (w : World) (h : Sl w 6 A n c (cl.flatMap clsC)) (h2 : Sl w 6 A2 n2 c2 (ps.flatMap posC)) (hn : n < 1099511627776) (hn2 : n2 < 1099511627776) (hw : ∀ x ∈ cl, WdC x) (hw2 : ∀ x ∈ ps, WdP x) :
    Calls Tryz.prog 14 #[.agg #[.slice A n c, .slice A2 n2 c2]] w fun r w' => r = .returned (.int .i64 (chkH cl ps)) ∧ Ext w w' := by
  have C1 := Lib.hid (fun (w' : World) (hx : Ext w w') (q : Nat) => hbcheck_any q n c n2 c2 A A2 cl ps w' (h.ext hx) (h2.ext hx) hn hn2 hw hw2)
  obtain ⟨E, hE⟩ : ∃ E, E = chkH cl ps := ⟨_, rfl⟩
  rw [← hE] at C1 ⊢
  clear h h2 hw hw2 hE
  go_enter Tryz.func14, Tryz.ntmps14
  go_wp2_with fail
  (with_reducible refine (C1.out _ zxt (w.heap.size + 1) (by simp [go_sem]) (by simp [go_sem])).mono ?_)
  rintro e w1 ⟨rfl, hx1⟩
  have z1 := hx1.size
  try simp at z1
  have X1 : Hid (Ext w w1) := Lib.hid (Ext.trans zxt hx1)
  clear hx1 z1
  go_wp2_with fail
  go_ret
  exact ⟨rfl, zxt⟩
set_option maxRecDepth 100000 in
set_option maxHeartbeats 4000000 in
theorem hcopied_any (c c2 : Nat) (A A2 : Option Addr) (cl ps : List (Int × Int × Int × Int × Int × Int)) (w : World) (h : Sl w 6 A cl.length c (cl.flatMap clsC)) (h2 : Sl w 6 A2 ps.length c2 (ps.flatMap posC)) (hn : cl.length < 1099511627776) (hn2 : ps.length < 1099511627776) (hA : A = none → c = 0) (hA2 : A2 = none → c2 = 0) :
    Calls Tryz.prog 73 #[.agg #[.slice A cl.length c, .slice A2 ps.length c2]] w fun r w' => ∃ v, r = .returned v ∧ HoldR cl ps w v w' := by
  have HS := Lib.hid h
  have HT := Lib.hid h2
  clear h h2
  go_enter Tryz.func73, Tryz.ntmps73
  go_wp2_with fail
  refine wp_region_held_drew (S := fun w' => w'.cell? ⟨w.heap.size, 0, none⟩ = some (.slice A cl.length c) ∧ w'.cell? ⟨w.heap.size, 1, none⟩ = some (.slice A2 ps.length c2)) (by kernel_rfl) (by first | exact ⟨c0_0, c0_1⟩ | (simp [go_sem, World.cell?_alloc_past]; done)) (fun hHeld => ?_)
  refine' zt 0 ?_
  refine' zt 1 ?_
  refine' zt 3 ?_
  refine' zt 4 ?_
  refine' zn 2 (fun K hK => ?_)
  go_simp
  (with_reducible refine (hcClone_any A c cl _ (HS.out.ext zxt) hn hA).mono ?_)
  rintro e w1 ⟨B, d, rfl, hB, ho, hx1⟩
  have c0_0 : w1.cell? ⟨w.heap.size, 0, none⟩ = some (.slice A cl.length c) := hx1.has zcv
  have c0_1 : w1.cell? ⟨w.heap.size, 1, none⟩ = some (.slice A2 ps.length c2) := hx1.has zcv
  have c1_0f : w1.frozen? ⟨w.heap.size + 1, 0, none⟩ = false := hx1.froz (v := .slice none 0 0) zcv zcv
  have c1_1f : w1.frozen? ⟨w.heap.size + 1, 1, none⟩ = false := hx1.froz (v := .slice none 0 0) zcv zcv
  have c1_0 : w1.cell? ⟨w.heap.size + 1, 0, none⟩ = some (.slice none 0 0) := hx1.has zcv
  have c1_1 : w1.cell? ⟨w.heap.size + 1, 1, none⟩ = some (.slice none 0 0) := hx1.has zcv
  have z1 := hx1.size
  try simp at z1
  have lt_c0_c1 : w.heap.size < w.heap.size + 1 := by omega
  have ne_c0_c1 : ¬ w.heap.size = w.heap.size + 1 := by omega
  have ne_c1_c0 : ¬ w.heap.size + 1 = w.heap.size := by omega
  have zq := zrc (show w.heap.size < w1.heap.size from by omega)
  obtain ⟨rc0, rc0a, rc0b, rc0c, rc0n⟩ := zq
  have zq := zrc (show w.heap.size + 1 < w1.heap.size from by omega)
  obtain ⟨rc1, rc1a, rc1b, rc1c, rc1n⟩ := zq
  replace HS := Lib.hid (HS.out.ext (Ext.trans zxt hx1))
  replace HT := Lib.hid (HT.out.ext (Ext.trans zxt hx1))
  have X1 : Hid (Ext w w1) := Lib.hid (Ext.trans zxt hx1)
  have HB := Lib.hid (show OwnCls _ (w.heap.size + 2) _ _ _ from own_lower ho (by first | omega | (simp; done) | (simp; omega)))
  clear hx1
  clear ho
  refine hK.out _ _ (by (first | exact ⟨c0_0, c0_1⟩ | (simp [go_sem, World.cell?_alloc_past, *]; done))) (fun hHeld => ?_); clear hK K; try simp only [Act.put, List.setIfInBounds_toArray, List.set_cons_zero, List.set_cons_succ]
  refine' zn 5 (fun K hK => ?_)
  go_simp
  (with_reducible refine (hpClone_any A2 c2 ps _ (HT.out.ext zxt) hn2 hA2).mono ?_)
  rintro e w2 ⟨B2, d2, rfl, hB2, ho, hx2⟩
  replace c0_0 := zh hx2 c0_0
  replace c0_1 := zh hx2 c0_1
  replace c1_0f := zf hx2 c1_0 c1_0f
  replace c1_1f := zf hx2 c1_1 c1_1f
  replace c1_0 := zh hx2 c1_0
  replace c1_1 := zh hx2 c1_1
  have z2 := hx2.size
  try simp at z2
  have zq := zrc (show w.heap.size < w2.heap.size from by omega)
  clear rc0 rc0a rc0b rc0c rc0n
  obtain ⟨rc0, rc0a, rc0b, rc0c, rc0n⟩ := zq
  have zq := zrc (show w.heap.size + 1 < w2.heap.size from by omega)
  clear rc1 rc1a rc1b rc1c rc1n
  obtain ⟨rc1, rc1a, rc1b, rc1c, rc1n⟩ := zq
  replace HS := Lib.hid (HS.out.ext (Ext.trans zxt hx2))
  replace HT := Lib.hid (HT.out.ext (Ext.trans zxt hx2))
  replace HB := Lib.hid (HB.out.ext (Ext.trans zxt hx2))
  have X2 : Hid (Ext w w2) := Lib.hid (Ext.trans zxt hx2)
  have HP := Lib.hid (show OwnPos _ (w.heap.size + 2) _ _ _ from own_lower ho (by first | omega | (simp; done) | (simp; omega)))
  clear X1 hx2
  clear ho
  refine hK.out _ _ (by (first | exact ⟨c0_0, c0_1⟩ | (simp [go_sem, World.cell?_alloc_past, *]; done))) (fun hHeld => ?_); clear hK K; try simp only [Act.put, List.setIfInBounds_toArray, List.set_cons_zero, List.set_cons_succ]
  refine' zt 6 ?_
  refine' zt 7 ?_
  refine' zn 8 (fun K hK => ?_)
  go_simp
  refine hK.out _ _ (by (first | exact ⟨c0_0, c0_1⟩ | (simp [go_sem, World.cell?_alloc_past, *]; done))) (fun hHeld => ?_); clear hK K; try simp only [Act.put, List.setIfInBounds_toArray, List.set_cons_zero, List.set_cons_succ]
  refine wpAnyH_done (by kernel_rfl) ?_ _
  go_wp2_with fail
  refine bodyPost_ret (v := .agg #[.slice B cl.length d, .slice B2 ps.length d2]) (by simp [results, Tryz.results73, go_sem, World.cell?_alloc_past, *]; try rfl) rfl ⟨_, rfl, B, d, B2, d2, rfl, hB, hB2, own_lower (show World.ownsRow _ (w.heap.size + 2) _ _ _ _ _ from by repeat (first | with_reducible refine World.ownsRow.drew ?_ | with_reducible refine own_box ?_ (by omega) | exact HB.out)) (by omega), own_lower (show World.ownsRow _ (w.heap.size + 2) _ _ _ _ _ from by repeat (first | with_reducible refine World.ownsRow.drew ?_ | with_reducible refine own_box ?_ (by omega) | exact HP.out)) (by omega), ?_⟩
  exact zxt
end
section
open Go.RowKit Go.ChangeShapes Go.WideShapes Go.Deep Go.Joins
theorem getK_take_none {l : List (Int × Int × Int × Int × Int × Int)} {q : List Int} {k : Nat} {x : (Int × Int × Int × Int × Int × Int)} (h : getK kC (l.take k) q = none) (hx : l[k]? = some x) (hn : kC x ≠ q) : getK kC (l.take (k + 1)) q = none := by
  unfold getK at h ⊢
  rw [List.take_add_one, hx, List.find?_append, h]
  simp [hn]
theorem getK_take_some {l : List (Int × Int × Int × Int × Int × Int)} {q : List Int} {k : Nat} {x : (Int × Int × Int × Int × Int × Int)} (h : getK kC (l.take k) q = none) (hx : l[k]? = some x) (he : kC x = q) : getK kC l q = some x := by
  have e : l = l.take k ++ x :: l.drop (k + 1) := by rw [← drop_at hx, List.take_append_drop]
  unfold getK at h ⊢
  rw [e, List.find?_append, h]
  simp [he]
theorem kC_eq {a b c d t s V S P Q : Int} (h : a = V ∧ b = S ∧ c = P ∧ d = Q) : kC (a, b, c, d, t, s) = [V, S, P, Q] := by simp [kC, h]
theorem kC_ne {a b c d t s V S P Q : Int} (h : ¬ (a = V ∧ b = S ∧ c = P ∧ d = Q)) : kC (a, b, c, d, t, s) ≠ [V, S, P, Q] := by simp [kC]; intro h1 h2 h3 h4; exact h ⟨h1, h2, h3, h4⟩
/-- what All tells -/
def allT (cl ps : List (Int × Int × Int × Int × Int × Int)) : Int := if chkH cl ps = 0 then totC cl else 0
theorem chkH_tot {cl ps : List (Int × Int × Int × Int × Int × Int)} (h : chkH cl ps = 0) : cl.length ≤ 1024 ∧ clsV cl = 0 ∧ totC cl ≤ 4611686018427387904 := by
  have hc : clsV cl = 0 := by
    unfold chkH at h
    split at h
    · omega
    · omega
  have hc2 := hc
  unfold clsV at hc
  split at hc
  · omega
  · split at hc
    · omega
    · split at hc
      · exact ⟨by omega, hc2, by assumption⟩
      · omega
set_option maxRecDepth 100000 in
set_option maxHeartbeats 4000000 in
theorem hFind_any (n c n2 c2 : Nat) (A A2 : Option Addr) (cl : List (Int × Int × Int × Int × Int × Int)) (V S P Q : Int) (w : World) (h : Sl w 6 A n c (cl.flatMap clsC)) :
    Calls Tryz.prog 32 #[.agg #[.slice A n c, .slice A2 n2 c2], .agg #[.int .i64 V, .int .i64 S, .int .i64 P, .int .i64 Q]] w fun r w' => r = .returned (.tuple #[.agg #[.int .u64 (fndT cl [V, S, P, Q]), .int .u64 (fndS cl [V, S, P, Q])], .bool (getK kC cl [V, S, P, Q]).isSome]) ∧ Ext w w' := by
  have hll := h.rlen clsC_len (by decide)
  have hsm := h.small
  have HS := Lib.hid h
  have HLL := Lib.hid hll
  have pq1 := stm_eq
  have pq2 := stm_eqg
  obtain ⟨R, hR⟩ : ∃ R, R = getK kC cl [V, S, P, Q] := ⟨_, rfl⟩
  obtain ⟨T, hT⟩ : ∃ T, T = fndT cl [V, S, P, Q] := ⟨_, rfl⟩
  obtain ⟨U, hU⟩ : ∃ U, U = fndS cl [V, S, P, Q] := ⟨_, rfl⟩
  obtain ⟨B, hB⟩ : ∃ B, B = (getK kC cl [V, S, P, Q]).isSome := ⟨_, rfl⟩
  rw [← hT, ← hU, ← hB]
  unfold fndT at hT
  unfold fndS at hU
  rw [← hR] at hT hU hB
  have HR := Lib.hid (And.intro hR (And.intro hT (And.intro hU hB)))
  clear h hll hR hT hU hB
  go_enter Tryz.func32, Tryz.ntmps32
  go_wp2
  go_loopg [11] n (fun gh i wx => gh ≤ n ∧ i = .int .i64 ((n - gh : Nat) : Int) ∧ Hid (getK kC (cl.take (n - gh)) [V, S, P, Q] = none) ∧ (wx.cell? ⟨w.heap.size + 1, 0, none⟩ = some (.int .i64 V) ∧ wx.cell? ⟨w.heap.size + 1, 1, none⟩ = some (.int .i64 S) ∧ wx.cell? ⟨w.heap.size + 1, 2, none⟩ = some (.int .i64 P) ∧ wx.cell? ⟨w.heap.size + 1, 3, none⟩ = some (.int .i64 Q) ∧ wx.cell? ⟨w.heap.size + 1 + 1, 0, none⟩ = some (.int .u64 0) ∧ wx.cell? ⟨w.heap.size + 1 + 1, 1, none⟩ = some (.int .u64 0) ∧ wx.frozen? ⟨w.heap.size + 1 + 1, 0, none⟩ = false ∧ wx.frozen? ⟨w.heap.size + 1 + 1, 1, none⟩ = false) ∧ Ext w wx)
  case atStart => exact ⟨Nat.le_refl _, by simp, by rw [Nat.sub_self]; exact Lib.hid (by simp [getK]), ⟨by simp [go_sem], by simp [go_sem], by simp [go_sem], by simp [go_sem], by simp [go_sem], by simp [go_sem], by simp [go_sem], by simp [go_sem]⟩, (by repeat (first | with_reducible exact Ext.refl _ | with_reducible refine Ext.alloc ?_ _))⟩
  case round =>
    obtain ⟨hg, hi, HI, ⟨s_0, s_1, s_2, s_3, r_0, r_1, r_0f, r_1f⟩, hx⟩ := hrel
    have XR := Lib.hid hx
    have hsr := cell_lt s_0
    have hrr := cell_lt r_0
    obtain ⟨k, hk⟩ : ∃ k, k = n - gk := ⟨_, rfl⟩
    rw [← hk] at hi HI
    subst hi
    by_cases hz : gk = 0
    · have hkn : ¬ (k : Int) < (n : Int) := by omega
      have hN : R = none := by rw [HR.out.1, ← HI.out, List.take_of_length_le (by have := HLL.out; omega)]
      obtain ⟨_, hT, hU, hB⟩ := HR.out
      subst hN
      obtain rfl : T = 0 := hT
      obtain rfl : U = 0 := hU
      obtain rfl : B = false := hB
      clear hk hg hz HI hx HR
      go_wp2
      refine bodyPost_ret (v := .tuple #[.agg #[.int .u64 0, .int .u64 0], .bool false]) (by simp [results, Tryz.results32, go_sem, World.cell?_alloc_past, *]; try rfl) rfl ⟨rfl, ?_⟩
      exact zxt
    · have hkn : (k : Int) < (n : Int) := by omega
      have hkl : k < cl.length := by have := HLL.out; omega
      have HSr := Lib.hid (HS.out.ext XR.out)
      obtain ⟨b1, o1, rfl, hb1, hc_x⟩ := HSr.out.rec_ clsC_len (show 0 < n from by omega)
      obtain ⟨xw, hl_x⟩ : ∃ x, cl[k]? = some x := ⟨_, List.getElem?_eq_getElem (by omega)⟩
      have x_0 := hc_x (k) xw hl_x 0 _ rfl
      have x_1 := hc_x (k) xw hl_x 1 _ rfl
      have x_2 := hc_x (k) xw hl_x 2 _ rfl
      have x_3 := hc_x (k) xw hl_x 3 _ rfl
      have x_4 := hc_x (k) xw hl_x 4 _ rfl
      have x_5 := hc_x (k) xw hl_x 5 _ rfl
      obtain ⟨xv, xs, xp, xf, xt, xh⟩ := xw
      simp only at x_0 x_1 x_2 x_3 x_4 x_5
      rw [Nat.add_zero] at x_0
      rw [← Nat.add_assoc] at x_1 x_2 x_3 x_4 x_5
      have HK := Lib.hid (And.intro hk (And.intro hg hz))
      have HX := Lib.hid hl_x
      have hb1s : ¬ b1 = wr.heap.size := by omega
      have hss : ¬ w.heap.size + 1 = wr.heap.size := by omega
      have hrs : ¬ w.heap.size + 1 + 1 = wr.heap.size := by omega
      clear hk hg hz hkl hl_x hc_x HSr hx
      by_cases hq : xv = V ∧ xs = S ∧ xp = P ∧ xf = Q
      · have hqb := four_true hq
        have HF : R = some (xv, xs, xp, xf, xt, xh) := by rw [HR.out.1]; exact getK_take_some HI.out HX.out (kC_eq hq)
        obtain ⟨_, hT, hU, hB⟩ := HR.out
        subst HF
        obtain rfl : T = xt := hT
        obtain rfl : U = xh := hU
        obtain rfl : B = true := hB
        clear HR
        go_wp2
        refine bodyPost_ret (v := .tuple #[.agg #[.int .u64 T, .int .u64 U], .bool true]) (by simp [results, Tryz.results32, go_sem, World.cell?_alloc_past, *]; try rfl) rfl ⟨rfl, ?_⟩
        exact zxt
      · have hqb := four_false hq
        have HN := Lib.hid (getK_take_none HI.out HX.out (kC_ne (t := xt) (s := xh) hq))
        go_wp2_with fail
        go_roundg (gk - 1)
        case measure => have := HK.out; omega
        case rel => exact ⟨by have := HK.out; omega, num_eq (by have := HK.out; omega), by rw [show n - (gk - 1) = k + 1 from by have := HK.out; omega]; exact HN, ⟨by simp [go_sem, World.cell?_alloc_past, *], by simp [go_sem, World.cell?_alloc_past, *], by simp [go_sem, World.cell?_alloc_past, *], by simp [go_sem, World.cell?_alloc_past, *], by simp [go_sem, World.cell?_alloc_past, *], by simp [go_sem, World.cell?_alloc_past, *], by simp [go_sem, World.cell?_alloc_past, *], by simp [go_sem, World.cell?_alloc_past, *]⟩, zxt⟩
set_option maxRecDepth 100000 in
set_option maxHeartbeats 4000000 in
theorem hAll_any (n c n2 c2 : Nat) (A A2 : Option Addr) (cl ps : List (Int × Int × Int × Int × Int × Int)) (w : World) (h : Sl w 6 A n c (cl.flatMap clsC)) (h2 : Sl w 6 A2 n2 c2 (ps.flatMap posC)) (hn : n < 1099511627776) (hn2 : n2 < 1099511627776) (hw : ∀ x ∈ cl, WdC x) (hw2 : ∀ x ∈ ps, WdP x) :
    Calls Tryz.prog 30 #[.agg #[.slice A n c, .slice A2 n2 c2]] w fun r w' => r = .returned (.tuple #[.int .u64 (allT cl ps), .int .i64 (chkH cl ps)]) ∧ Ext w w' := by
  have hll := h.rlen clsC_len (by decide)
  have C1 := Lib.hid (fun (w' : World) (hx : Ext w w') => hCheck_any n c n2 c2 A A2 cl ps w' (h.ext hx) (h2.ext hx) hn hn2 hw hw2)
  have HS := Lib.hid h
  have HLL := Lib.hid hll
  obtain ⟨R, hR⟩ : ∃ R, R = allT cl ps := ⟨_, rfl⟩
  obtain ⟨E, hE⟩ : ∃ E, E = chkH cl ps := ⟨_, rfl⟩
  unfold allT at hR
  rw [← hE] at C1 hR
  unfold allT
  rw [← hE, ← hR]
  by_cases he : E = 0
  · rw [if_pos he] at hR
    have hM := (chkH_tot (hE.symm.trans he)).2.2
    rw [← hR] at hM
    have HR := Lib.hid hR
    subst he
    have HM := Lib.hid (show ∀ k, 0 ≤ totC (cl.take k) ∧ totC (cl.take k) ≤ 4611686018427387904 from fun k => ⟨addF_nn (fun y hy => (hw y (List.mem_of_mem_take hy)).1.1), Int.le_trans (addF_le (fun y hy => (hw y hy).1.1) k) (by rw [show addF toC cl = R from hR.symm]; exact hM)⟩)
    have HW := Lib.hid hw
    clear h h2 hw hw2 hE hR hM hll
    go_enter Tryz.func30, Tryz.ntmps30
    go_wp2_with fail
    (with_reducible refine (C1.out _ zxt).mono ?_)
    rintro e w1 ⟨rfl, hx1⟩
    have c0_0 : w1.cell? ⟨w.heap.size, 0, none⟩ = some (.slice A n c) := hx1.has zcv
    have z1 := hx1.size
    try simp at z1
    have zq := zrc (show w.heap.size < w1.heap.size from by omega)
    obtain ⟨rc0, rc0a, rc0b, rc0c, rc0n⟩ := zq
    have X1 : Hid (Ext w w1) := Lib.hid (Ext.trans zxt hx1)
    clear hx1 z1
    go_wp2_with fail
    go_loopg [5, 16] n (fun gh a i wx => gh ≤ n ∧ i = .int .i64 ((n - gh : Nat) : Int) ∧ a = .int .u64 (totC (cl.take (n - gh))) ∧ Hid (Ext w wx))
    case atStart => exact ⟨Nat.le_refl _, by simp, by rw [Nat.sub_self]; rfl, Lib.hid zxt⟩
    case round =>
      obtain ⟨hg, hi, ha, XR⟩ := hrel
      obtain ⟨k, hk⟩ : ∃ k, k = n - gk := ⟨_, rfl⟩
      rw [← hk] at hi ha
      subst hi
      obtain ⟨t, ht⟩ : ∃ t, t = totC (cl.take k) := ⟨_, rfl⟩
      rw [← ht] at ha
      subst ha
      by_cases hz : gk = 0
      · have hkn : ¬ (k : Int) < (n : Int) := by omega
        have hTR : t = R := by rw [ht, HR.out, List.take_of_length_le (by have := HLL.out; omega)]
        have HT := Lib.hid hTR
        clear hk hg hz ht hTR
        go_wp2
        go_ret2
        exact ⟨by first | rfl | (simp; done) | (rw [HT.out]; rfl) | (simp [HT.out]; done), XR.out⟩
      · have hkn : (k : Int) < (n : Int) := by omega
        have hkl : k < cl.length := by have := HLL.out; omega
        have HSr := Lib.hid (HS.out.ext XR.out)
        obtain ⟨b1, o1, rfl, hb1, hc_x⟩ := HSr.out.rec_ clsC_len (show 0 < n from by omega)
        obtain ⟨xw, hl_x⟩ : ∃ x, cl[k]? = some x := ⟨_, List.getElem?_eq_getElem (by omega)⟩
        have x_0 := hc_x (k) xw hl_x 0 _ rfl
        have x_1 := hc_x (k) xw hl_x 1 _ rfl
        have x_2 := hc_x (k) xw hl_x 2 _ rfl
        have x_3 := hc_x (k) xw hl_x 3 _ rfl
        have x_4 := hc_x (k) xw hl_x 4 _ rfl
        have x_5 := hc_x (k) xw hl_x 5 _ rfl
        obtain ⟨xv, xs, xp, xf, xt, xh⟩ := xw
        simp only at x_0 x_1 x_2 x_3 x_4 x_5
        rw [Nat.add_zero] at x_0
        rw [← Nat.add_assoc] at x_1 x_2 x_3 x_4 x_5
        have hst : totC (cl.take (k + 1)) = t + xt := by rw [ht]; exact addF_take toC hl_x
        have hb0 := (HM.out k).1
        have hb2 := (HM.out (k + 1)).2
        have hxt : 0 ≤ xt := (HW.out _ (List.mem_of_getElem? hl_x)).1.1
        rw [hst] at hb2
        rw [← ht] at hb0
        have hwr : IntKind.u64.wrap (t + xt) = t + xt := IntWalk.u64_in _ (by omega)
        have HT := Lib.hid hst
        have HK := Lib.hid (And.intro hk (And.intro hg hz))
        have hb1s : ¬ b1 = wr.heap.size := by omega
        clear hk hg hz hkl hl_x hc_x HSr ht hst
        go_wp2_with fail
        go_roundg (gk - 1)
        case measure => have := HK.out; omega
        case rel => exact ⟨by have := HK.out; omega, num_eq (by have := HK.out; omega), num_eq (by rw [show n - (gk - 1) = k + 1 from by have := HK.out; omega]; exact HT.out.symm), Lib.hid zxt⟩
  · rw [if_neg he] at hR
    subst hR
    have heb : (E != 0) = true := by simpa using he
    clear h h2 hw hw2 hE hll
    go_enter Tryz.func30, Tryz.ntmps30
    go_wp2_with fail
    (with_reducible refine (C1.out _ zxt).mono ?_)
    rintro e w1 ⟨rfl, hx1⟩
    have z1 := hx1.size
    try simp at z1
    have X1 : Hid (Ext w w1) := Lib.hid (Ext.trans zxt hx1)
    clear hx1 z1
    go_wp2_with fail
    go_ret2
    exact ⟨rfl, zxt⟩
end
section
open Go.RowKit
/-- a pool that may be -/
structure PoolOk (T S : Int) : Prop where
  t0 : 0 ≤ T
  ts : T ≤ S
  tm : T ≤ 4611686018427387904
  sm : S < 18446744073709551616
  z : T = 0 → S = 0
theorem PoolOk.wt {T S : Int} (h : PoolOk T S) : Word T := ⟨h.t0, by have := h.tm; omega⟩
theorem PoolOk.ws {T S : Int} (h : PoolOk T S) : Word S := ⟨by have := h.t0; have := h.ts; omega, h.sm⟩
theorem PoolOk.chk {T S : Int} (h : PoolOk T S) : chkE T S = 0 := by
  obtain ⟨a, b, c, d, e⟩ := h
  unfold chkE
  rw [if_neg (by omega), if_neg (by omega)]
  split
  · rw [if_pos (e (by assumption))]
  · rfl
theorem pool_of_chk {T S : Int} (ht : Word T) (hs : Word S) (h : chkE T S = 0) : PoolOk T S := by
  obtain ⟨a, b, c⟩ := chk_ok ht hs h
  exact ⟨ht.1, a, b, hs.2, c⟩
theorem pool_zero : PoolOk 0 0 := ⟨by decide, by decide, by decide, by decide, fun _ => rfl⟩
theorem fl_le {n c : Int} (hc : 0 < c) : c * (n / c) ≤ n := Int.mul_ediv_self_le (by omega)
theorem fl_lt {n c : Int} (hc : 0 < c) : n < c * (n / c) + c := Int.lt_mul_ediv_self_add hc
theorem fl_nn {n c : Int} (hn : 0 ≤ n) (hc : 0 < c) : 0 ≤ n / c := Int.ediv_nonneg hn (by omega)

/-- a Join that is taken -/
theorem join_ok {T S N : Int} (h : PoolOk T S) (hN : Word N) (he : joiE T S N = 0) :
    0 < N ∧ joiT T S N = T + N ∧ joiS T S N = S + joiN T S N ∧ N ≤ joiN T S N ∧ PoolOk (T + N) (S + joiN T S N) ∧ (T = 0 → joiN T S N = N) ∧ (0 < T → T * joiN T S N ≤ N * S ∧ N * S < T * joiN T S N + T) := by
  have hj : joE T S N = 0 := by unfold joiE at he; rwa [if_pos h.chk] at he
  have h1 : joiT T S N = addN T N := if_pos he
  have h2 : joiS T S N = addN S (priN T S N) := if_pos he
  have h3 : joiN T S N = priN T S N := if_pos he
  rw [h1, h2, h3]
  unfold joE firstE at hj
  have hn0 : ¬ N = 0 := by intro hh; subst hh; simp at hj
  have hb : joB T S N = false := by
    cases hb : joB T S N
    · rfl
    · simp [hn0, hb, firstE] at hj
  unfold joB at hb
  simp only [decide_eq_false_iff_not, not_or, Int.not_lt, ne_eq, Decidable.not_not] at hb
  obtain ⟨b1, b2, b3, b4⟩ := hb
  obtain ⟨N0, N1⟩ := hN
  obtain ⟨a1, a2, a3, a4, a5⟩ := h
  have e1 : T + N < 18446744073709551616 := by
    unfold addE at b2
    split at b2
    · assumption
    · omega
  have e2 : S + priN T S N < 18446744073709551616 := by
    unfold addE at b3
    split at b3
    · assumption
    · omega
  have e3 : addN T N = T + N := by unfold addN; rw [if_pos e1]
  have e4 : addN S (priN T S N) = S + priN T S N := by unfold addN; rw [if_pos e2]
  rw [e3] at b4 ⊢
  rw [e4]
  have hp : N ≤ priN T S N ∧ (T = 0 → priN T S N = N) ∧ (0 < T → T * priN T S N ≤ N * S ∧ N * S < T * priN T S N + T) := by
    unfold priN priE at *
    by_cases h0 : T = 0
    · rw [if_pos h0]
      exact ⟨Int.le_refl _, fun _ => rfl, fun hh => by omega⟩
    · rw [if_neg h0] at b1 ⊢
      have hT : 0 < T := by omega
      unfold mdE at b1
      rw [if_neg h0] at b1
      have hlt : N * S / T < 18446744073709551616 := by
        split at b1
        · assumption
        · omega
      have e : mdN N S T = N * S / T := by unfold mdN; rw [if_neg h0, if_pos hlt]
      rw [e]
      refine ⟨?_, fun hh => absurd hh h0, fun _ => ⟨fl_le hT, fl_lt hT⟩⟩
      rw [Int.le_ediv_iff_mul_le hT]
      exact Int.mul_le_mul_of_nonneg_left a2 N0
  obtain ⟨p1, p2, p3⟩ := hp
  exact ⟨by omega, rfl, rfl, p1, ⟨by omega, by omega, b4, e2, fun hh => by omega⟩, p2, p3⟩
/-- a Cut -/
theorem cut_ok {T S P : Int} (h : PoolOk T S) (p0 : 0 ≤ P) (p1 : P ≤ 1000000000) :
    cutE T S P = 0 ∧ 0 ≤ cutN T S P ∧ cutN T S P ≤ T ∧ cutT T S P = T - cutN T S P ∧ cutS T S P = (if T - cutN T S P = 0 then 0 else S) ∧ cutN T S P = T * P / 1000000000 ∧ PoolOk (T - cutN T S P) (if T - cutN T S P = 0 then 0 else S) := by
  have hT := h.t0
  have hle : T * P / 1000000000 ≤ T := Int.ediv_le_of_le_mul (by decide) (Int.mul_le_mul_of_nonneg_left p1 hT)
  have hnn : 0 ≤ T * P / 1000000000 := fl_nn (Int.mul_nonneg hT p0) (by decide)
  have hm := h.tm
  have e0 : cutE T S P = 0 := by
    unfold cutE paE mdE
    rw [if_pos h.chk, if_neg (by omega), if_neg (by decide), if_pos (by omega)]
  have e1 : paN T P = T * P / 1000000000 := by
    unfold paN mdN
    rw [if_neg (by omega), if_neg (by decide), if_pos (by omega)]
  have e2 : cutN T S P = T * P / 1000000000 := by unfold cutN; rw [if_pos e0, e1]
  have e3 : cutT T S P = T - T * P / 1000000000 := by unfold cutT; rw [if_pos e0, e1]
  have e4 : cutS T S P = if T - T * P / 1000000000 = 0 then 0 else S := by unfold cutS; rw [if_pos e0, e1]
  rw [e2, e3, e4]
  generalize T * P / 1000000000 = V at *
  refine ⟨e0, hnn, hle, rfl, rfl, rfl, ?_⟩
  have := h.ts
  have := h.sm
  split
  · rename_i hz; rw [hz]; exact pool_zero
  · rename_i hz
    exact ⟨by omega, by omega, by omega, h.sm, fun hh => absurd hh hz⟩

end
section
open Go.RowKit
/-- may a class be, by itself? a position, beside these classes? -/
def GoodC (c : Int × Int × Int × Int × Int × Int) : Prop := chkS c.1 c.2.1 c.2.2.1 c.2.2.2.1 = 0 ∧ chkE (toC c) (shC c) = 0 ∧ ¬ (toC c = 0 ∧ shC c = 0)
def GoodP (cl : List (Int × Int × Int × Int × Int × Int)) (p : Int × Int × Int × Int × Int × Int) : Prop := (0 ≤ p.1 ∧ p.1 < 64) ∧ shP p ≠ 0 ∧ (getK kC cl (stP p)).isSome = true
/-- a holding that may be -/
structure HOk (cl ps : List (Int × Int × Int × Int × Int × Int)) : Prop where
  sc : SortK kC cl
  sp : SortK kP ps
  len : cl.length ≤ 1024
  tot : totC cl ≤ 4611686018427387904
  cls : ∀ c ∈ cl, GoodC c
  pos : ∀ p ∈ ps, GoodP cl p
  sum : ∀ c ∈ cl, shO ps (kC c) = shC c
theorem go_iff {α : Type} {key : α → List Int} {d : Nat} {one : Option (List Int) → α → Int} {go : Option (List Int) → List α → Int} {Good : α → Prop} (hd : ∀ x, (key x).length = d) (hgo0 : ∀ pr, go pr [] = 0) (hgo : ∀ pr x l, go pr (x :: l) = if one pr x ≠ 0 then one pr x else go (some (key x)) l) (hone : ∀ pr x, one pr x = 0 ↔ prevGe pr (key x) = false ∧ Good x) : ∀ (l : List α) (pr : Option (List Int)), (∀ p, pr = some p → p.length = d) → (go pr l = 0 ↔ SortK key l ∧ (∀ p, pr = some p → ∀ y ∈ l, cmpK p (key y) < 0) ∧ ∀ c ∈ l, Good c)
  | [], pr, _ => by
    rw [hgo0]
    exact ⟨fun _ => ⟨List.Pairwise.nil, fun _ _ y hy => (by simp at hy), fun y hy => (by simp at hy)⟩, fun _ => rfl⟩
  | x :: l, pr, hl => by
    have ih := go_iff hd hgo0 hgo hone l (some (key x)) (fun p hp => by injection hp with hp; rw [← hp, hd])
    have hpg : prevGe pr (key x) = false ↔ ∀ p, pr = some p → cmpK p (key x) < 0 := by
      cases pr with
      | none => exact ⟨fun _ p hp => (by cases hp), fun _ => rfl⟩
      | some p =>
        show decide (0 ≤ cmpK p (key x)) = false ↔ _
        rw [decide_eq_false_iff_not]
        exact ⟨fun h q hq => (by injection hq with hq; subst hq; omega), fun h => (by have := h p rfl; omega)⟩
    have h1 := hone pr x
    rw [hpg] at h1
    rw [hgo]
    by_cases h0 : one pr x = 0
    · rw [if_neg (by simpa using h0), ih]
      obtain ⟨hp, hg⟩ := h1.1 h0
      constructor
      · rintro ⟨hs, ha, hgd⟩
        refine ⟨List.pairwise_cons.2 ⟨ha _ rfl, hs⟩, fun p hp2 y hy => ?_, fun c hc => ?_⟩
        · rcases List.mem_cons.1 hy with rfl | hy
          · exact hp p hp2
          · exact cmpK_trans (by rw [hl p hp2, hd]) (by rw [hd, hd]) (hp p hp2) (ha _ rfl y hy)
        · rcases List.mem_cons.1 hc with rfl | hc
          · exact hg
          · exact hgd c hc
      · rintro ⟨hs, ha, hgd⟩
        exact ⟨hs.tail, fun p hp2 y hy => by injection hp2 with hp2; rw [← hp2]; exact hs.head y hy, fun c hc => hgd c (List.mem_cons_of_mem _ hc)⟩
    · rw [if_pos h0]
      refine ⟨fun h => absurd h h0, fun ⟨hs, ha, hgd⟩ => absurd (h1.2 ⟨fun p hp => ha p hp x (List.mem_cons_self ..), hgd x (List.mem_cons_self ..)⟩) h0⟩
theorem clsOne_iff (pr : Option (List Int)) (c : Int × Int × Int × Int × Int × Int) : clsOne pr c = 0 ↔ prevGe pr (kC c) = false ∧ GoodC c := by
  unfold clsOne GoodC
  by_cases h1 : chkS c.1 c.2.1 c.2.2.1 c.2.2.2.1 = 0
  · rw [if_neg (by simpa using h1)]
    cases h2 : prevGe pr (kC c)
    · rw [if_neg (by simp)]
      by_cases h3 : chkE (toC c) (shC c) = 0
      · rw [if_neg (by simpa using h3)]
        by_cases h4 : toC c = 0 ∧ shC c = 0
        · rw [if_pos h4]
          exact ⟨fun h => by omega, fun h => absurd h4 h.2.2.2⟩
        · rw [if_neg h4]
          exact ⟨fun _ => ⟨rfl, h1, h3, h4⟩, fun _ => rfl⟩
      · rw [if_pos h3]
        exact ⟨fun h => absurd h h3, fun h => absurd h.2.2.1 h3⟩
    · rw [if_pos rfl]
      exact ⟨fun h => by omega, fun h => by cases h.1⟩
  · rw [if_pos h1]
    exact ⟨fun h => by omega, fun h => absurd h.2.1 h1⟩
theorem posOne_iff (cl : List (Int × Int × Int × Int × Int × Int)) (pr : Option (List Int)) (p : Int × Int × Int × Int × Int × Int) : posOne cl pr p = 0 ↔ prevGe pr (kP p) = false ∧ GoodP cl p := by
  unfold posOne GoodP
  by_cases h1 : p.1 < 0 ∨ 64 ≤ p.1
  · rw [if_pos h1]
    exact ⟨fun h => by omega, fun h => by omega⟩
  · rw [if_neg h1]
    cases h2 : prevGe pr (kP p)
    · rw [if_neg (by simp)]
      by_cases h3 : shP p = 0
      · rw [if_pos h3]
        exact ⟨fun h => by omega, fun h => absurd h3 h.2.2.1⟩
      · rw [if_neg h3]
        cases h4 : getK kC cl (stP p)
        · rw [if_pos (by rfl)]
          exact ⟨fun h => by omega, fun h => by cases h.2.2.2⟩
        · rw [if_neg (by simp)]
          exact ⟨fun _ => ⟨rfl, by omega, h3, rfl⟩, fun _ => rfl⟩
    · rw [if_pos rfl]
      exact ⟨fun h => by omega, fun h => by cases h.1⟩
theorem clsV_iff (cl : List (Int × Int × Int × Int × Int × Int)) : clsV cl = 0 ↔ cl.length ≤ 1024 ∧ clsGo none cl = 0 ∧ totC cl ≤ 4611686018427387904 := by
  unfold clsV
  by_cases hl : 1024 < cl.length
  · rw [if_pos hl]
    exact ⟨fun h => by omega, fun h => by omega⟩
  · rw [if_neg hl]
    by_cases hg : clsGo none cl = 0
    · rw [if_neg (by simpa using hg)]
      by_cases ht : totC cl ≤ 4611686018427387904
      · rw [if_pos ht]
        exact ⟨fun _ => ⟨by omega, hg, ht⟩, fun _ => rfl⟩
      · rw [if_neg ht]
        exact ⟨fun h => by omega, fun h => absurd h.2.2 ht⟩
    · rw [if_pos hg]
      exact ⟨fun h => absurd h hg, fun h => absurd h.2.1 hg⟩
theorem posV_iff (cl ps : List (Int × Int × Int × Int × Int × Int)) : posV cl ps = 0 ↔ posGo cl none ps = 0 ∧ ∀ c ∈ cl, shO ps (kC c) = shC c := by
  unfold posV
  by_cases hg : posGo cl none ps = 0
  · rw [if_neg (by simpa using hg)]
    by_cases ha : cl.all (fun c => decide (shO ps (kC c) = shC c)) = true
    · rw [if_pos ha]
      exact ⟨fun _ => ⟨hg, fun c hc => by simpa using List.all_eq_true.1 ha c hc⟩, fun _ => rfl⟩
    · rw [if_neg ha]
      exact ⟨fun h => by omega, fun h => absurd (List.all_eq_true.2 fun c hc => by simpa using h.2 c hc) ha⟩
  · rw [if_pos hg]
    exact ⟨fun h => absurd h hg, fun h => absurd h.1 hg⟩
theorem chkH_two (cl ps : List (Int × Int × Int × Int × Int × Int)) : chkH cl ps = 0 ↔ clsV cl = 0 ∧ posV cl ps = 0 := by
  unfold chkH
  by_cases h : clsV cl = 0
  · rw [if_neg (by simpa using h)]
    exact ⟨fun h2 => ⟨h, h2⟩, fun h2 => h2.2⟩
  · rw [if_pos h]
    exact ⟨fun h2 => absurd h2 h, fun h2 => absurd h2.1 h⟩
theorem chkH_iff (cl ps : List (Int × Int × Int × Int × Int × Int)) : chkH cl ps = 0 ↔ HOk cl ps := by
  have h1 := go_iff (key := kC) (go := clsGo) (one := clsOne) kC_len (fun pr => by unfold clsGo; cases pr <;> rfl) (fun pr x l => by conv => lhs; unfold clsGo) clsOne_iff cl none (fun p hp => by cases hp)
  have h2 := go_iff (key := kP) (go := posGo cl) (one := posOne cl) kP_len (fun pr => by unfold posGo; cases pr <;> rfl) (fun pr x l => by conv => lhs; unfold posGo) (posOne_iff cl) ps none (fun p hp => by cases hp)
  rw [chkH_two, clsV_iff, posV_iff, h1, h2]
  constructor
  · rintro ⟨⟨a1, ⟨a2, _, a3⟩, a4⟩, ⟨b1, _, b2⟩, b3⟩
    exact ⟨a2, b1, a1, a4, a3, b2, b3⟩
  · intro h
    exact ⟨⟨h.len, ⟨h.sc, fun p hp => (by cases hp), h.cls⟩, h.tot⟩, ⟨h.sp, fun p hp => (by cases hp), h.pos⟩, h.sum⟩
theorem getK_mem {α : Type} {key : α → List Int} {l : List α} {q : List Int} {x : α} (h : getK key l q = some x) : x ∈ l ∧ key x = q :=
  ⟨List.mem_of_find?_eq_some h, by simpa using List.find?_some h⟩
theorem getK_mem_some {α : Type} {key : α → List Int} {l : List α} {x : α} (h : x ∈ l) : (getK key l (key x)).isSome = true := by
  unfold getK
  rw [List.find?_isSome]
  exact ⟨x, h, by simp⟩
theorem addF_mem {α : Type} {f : α → Int} : ∀ {l : List α} {x : α}, (∀ y ∈ l, 0 ≤ f y) → x ∈ l → f x ≤ addF f l
  | y :: l, x, h, hx => by
    rw [addF_cons]
    have h1 := h y (List.mem_cons_self ..)
    have h2 := addF_nn (l := l) (fun z hz => h z (List.mem_cons_of_mem _ hz))
    rcases List.mem_cons.1 hx with rfl | hx
    · omega
    · have := addF_mem (l := l) (fun z hz => h z (List.mem_cons_of_mem _ hz)) hx
      omega
theorem hasV_le {ps : List (Int × Int × Int × Int × Int × Int)} (hw : ∀ p ∈ ps, WdP p) (o V S P Q : Int) : 0 ≤ hasV ps [o, V, S, P, Q] ∧ hasV ps [o, V, S, P, Q] ≤ shO ps [V, S, P, Q] := by
  unfold hasV
  cases hg : getK kP ps [o, V, S, P, Q] with
  | none => exact ⟨Int.le_refl 0, addF_nn (fun y hy => (hw y (List.mem_filter.1 hy).1).1)⟩
  | some x =>
    obtain ⟨hm, hk⟩ := getK_mem hg
    have hst : stP x = [V, S, P, Q] := by
      have : kP x = x.1 :: stP x := rfl
      rw [this] at hk
      injection hk
    exact ⟨(hw x hm).1, addF_mem (f := shP) (fun y hy => (hw y (List.mem_filter.1 hy).1).1) (List.mem_filter.2 ⟨hm, by simpa using hst⟩)⟩
theorem HOk.fnd {cl ps : List (Int × Int × Int × Int × Int × Int)} (h : HOk cl ps) (q : List Int) : shO ps q = fndS cl q := by
  unfold fndS
  cases hg : getK kC cl q with
  | some c =>
    obtain ⟨hm, hk⟩ := getK_mem hg
    rw [← hk, h.sum c hm]
    rfl
  | none =>
    unfold shO
    rw [List.filter_eq_nil_iff.2]
    · rfl
    · intro p hp hq
      have hs := (h.pos p hp).2.2
      rw [show stP p = q by simpa using hq, hg] at hs
      cases hs
/-- a class's pool may be -/
theorem HOk.pool {cl ps : List (Int × Int × Int × Int × Int × Int)} (h : HOk cl ps) (hw : ∀ c ∈ cl, WdC c) (q : List Int) : PoolOk (fndT cl q) (fndS cl q) := by
  unfold fndT fndS
  cases hg : getK kC cl q with
  | none => exact pool_zero
  | some c =>
    have hm := (getK_mem hg).1
    exact pool_of_chk (hw c hm).1 (hw c hm).2 (h.cls c hm).2.1
theorem fnd_word {cl : List (Int × Int × Int × Int × Int × Int)} (hw : ∀ c ∈ cl, WdC c) (q : List Int) : Word (fndT cl q) ∧ Word (fndS cl q) := by
  unfold fndT fndS
  cases hg : getK kC cl q with
  | none => exact ⟨⟨by decide, by decide⟩, ⟨by decide, by decide⟩⟩
  | some c => exact hw c (getK_mem hg).1
end
section
open Go.RowKit Go.ChangeShapes Go.WideShapes Go.Deep Go.Joins
/-- a holding, a number and a fault handed back -/
def RetJ (R : List (Int × Int × Int × Int × Int × Int) × List (Int × Int × Int × Int × Int × Int) × Int × Int) (w : World) (e : Ending) (w' : World) : Prop := ∃ v, e = .returned (.tuple #[v, .int .u64 R.2.2.1, .int .i64 R.2.2.2]) ∧ HoldR R.1 R.2.1 w v w'
theorem HoldR.nil {w w' : World} (hx : Ext w w') : HoldR [] [] w (.agg #[.slice none 0 0, .slice none 0 0]) w' := ⟨none, 0, none, 0, rfl, fun _ => rfl, fun _ => rfl, OwnCls.nil _ _, OwnPos.nil _ _, hx⟩
theorem RetJ.nil {e : Int} {w w' : World} (hx : Ext w w') : RetJ ([], [], 0, e) w (.returned (.tuple #[.agg #[.slice none 0 0, .slice none 0 0], .int .u64 0, .int .i64 e])) w' := ⟨_, rfl, HoldR.nil hx⟩
theorem hjoiV_err {cl ps : List (Int × Int × Int × Int × Int × Int)} {o V S P Q a e : Int} (h : hjoiE cl ps o V S P Q a = e) (he : e ≠ 0) : hjoiV cl ps o V S P Q a = ([], [], 0, e) := by
  unfold hjoiV
  rw [if_neg (by rw [h]; exact he), h]
theorem hjoiV_ok {cl ps : List (Int × Int × Int × Int × Int × Int)} {o V S P Q a : Int} (h : hjoiE cl ps o V S P Q a = 0) : hjoiV cl ps o V S P Q a = (clsSet cl V S P Q (joiT (fndT cl [V, S, P, Q]) (fndS cl [V, S, P, Q]) a) (joiS (fndT cl [V, S, P, Q]) (fndS cl [V, S, P, Q]) a), posSet ps o V S P Q (hasV ps [o, V, S, P, Q] + joiN (fndT cl [V, S, P, Q]) (fndS cl [V, S, P, Q]) a), joiN (fndT cl [V, S, P, Q]) (fndS cl [V, S, P, Q]) a, 0) := if_pos h
/-- numbers that a Join that is taken adds -/
theorem joi_fits {cl ps : List (Int × Int × Int × Int × Int × Int)} {o V S P Q a : Int} (hk : HOk cl ps) (hw : ∀ c ∈ cl, WdC c) (hw2 : ∀ p ∈ ps, WdP p) (ha : Word a) (hj : joiE (fndT cl [V, S, P, Q]) (fndS cl [V, S, P, Q]) a = 0) : IntKind.u64.wrap (hasV ps [o, V, S, P, Q] + joiN (fndT cl [V, S, P, Q]) (fndS cl [V, S, P, Q]) a) = hasV ps [o, V, S, P, Q] + joiN (fndT cl [V, S, P, Q]) (fndS cl [V, S, P, Q]) a ∧ IntKind.u64.wrap (totC cl + a) = totC cl + a ∧ 0 ≤ hasV ps [o, V, S, P, Q] + joiN (fndT cl [V, S, P, Q]) (fndS cl [V, S, P, Q]) a := by
  obtain ⟨h1, h2, h3, h4, h5, _⟩ := join_ok (hk.pool hw [V, S, P, Q]) ha hj
  obtain ⟨h6, h7⟩ := hasV_le hw2 o V S P Q
  rw [hk.fnd] at h7
  have h8 := h5.sm
  have h9 := h5.tm
  have h10 := (hk.pool hw [V, S, P, Q]).t0
  have h11 := hk.tot
  have h12 : 0 ≤ totC cl := addF_nn (fun y hy => (hw y hy).1.1)
  exact ⟨IntWalk.u64_in _ (by omega), IntWalk.u64_in _ (by omega), by omega⟩
theorem ext_but {S : Nat → Prop} {w v v' : World} (X : Ext w v) (hx : But S v v') (h : ∀ k, S k → w.heap.size ≤ k) : Ext w v' := Below.trans X (hx.below (Ext.size X) (fun k hk hh => by have := h k hh; omega))
/-- rows of one's own and boxes -/
theorem ob_lt {w : World} {base n sz : Nat} {e : TypeId} {v : Value} {xs : List Value} (h : w.ownsRow base e sz v n xs) : ∀ k, v.ownBlock = some k → base ≤ k ∧ k < w.heap.size := fun k hk => World.ownsRow.lt h k hk
theorem own_but_set {w w' : World} {base n sz q : Nat} {e : TypeId} {v v2 : Value} {xs : List Value} (h : w.ownsRow base e sz v n xs) (hx : But (fun k => k = q ∨ v2.ownBlock = some k) w w') (hq : ∀ k, v.ownBlock = some k → ¬ k = q) (hv : ∀ k, v.ownBlock = some k → ¬ v2.ownBlock = some k) : w'.ownsRow base e sz v n xs := own_but1Word h hx (fun k hk hh => by rcases hh with hh | hh; exact hq k hk hh; exact hv k hk hh)
theorem holdS_of {cl ps : List (Int × Int × Int × Int × Int × Int)} {w w' : World} {b : Nat} {v v2 : Value} (hb : w.heap.size ≤ b) (h : w'.ownsRow b 79 6 v cl.length (cl.flatMap clsC)) (h2 : w'.ownsRow b 82 6 v2 ps.length (ps.flatMap posC)) (hx : Ext w w') : HoldR cl ps w (.agg #[v, v2]) w' := by
  obtain ⟨B, d, rfl, hB, _⟩ := own_parts2 h
  obtain ⟨B2, d2, rfl, hB2, _⟩ := own_parts2 h2
  exact ⟨B, d, B2, d2, rfl, hB, hB2, own_lower h hb, own_lower h2 hb, hx⟩
set_option maxRecDepth 100000 in
set_option maxHeartbeats 4000000 in
theorem hJoin_any (c c2 : Nat) (A A2 : Option Addr) (cl ps : List (Int × Int × Int × Int × Int × Int)) (O V S P Q a : Int) (w : World) (h : Sl w 6 A cl.length c (cl.flatMap clsC)) (h2 : Sl w 6 A2 ps.length c2 (ps.flatMap posC)) (hn : cl.length < 1099511627776) (hn2 : ps.length < 1099511627776) (hA : A = none → c = 0) (hA2 : A2 = none → c2 = 0) (hw : ∀ x ∈ cl, WdC x) (hw2 : ∀ x ∈ ps, WdP x) (ha : Word a) :
    Calls Tryz.prog 67 #[.agg #[.slice A cl.length c, .slice A2 ps.length c2], .int .i64 O, .agg #[.int .i64 V, .int .i64 S, .int .i64 P, .int .i64 Q], .int .u64 a] w (RetJ (hjoiV cl ps O V S P Q a) w) := by
  have C1 := Lib.hid (fun (w' : World) (hx : Ext w w') => hCheck_any cl.length c ps.length c2 A A2 cl ps w' (h.ext hx) (h2.ext hx) hn hn2 hw hw2)
  obtain ⟨R, hR⟩ : ∃ R, R = hjoiV cl ps O V S P Q a := ⟨_, rfl⟩
  rw [← hR]
  have HR := Lib.hid hR
  obtain ⟨E, hE⟩ : ∃ E, E = chkH cl ps := ⟨_, rfl⟩
  by_cases he : ¬ E = 0
  · obtain rfl : R = ([], [], 0, E) := hR.trans (hjoiV_err (by unfold hjoiE; rw [if_pos (by rw [← hE]; exact he), hE]) he)
    rw [← hE] at C1
    have heb : (E != 0) = true := by simpa using he
    clear h h2 hw hw2 hE hR HR ha hn hn2
    go_enter Tryz.func67, Tryz.ntmps67
    go_wp2_with fail
    (with_reducible refine (C1.out _ zxt).mono ?_)
    rintro e w1 ⟨rfl, hx1⟩
    have c2_0f : w1.frozen? ⟨w.heap.size + 1 + 1, 0, none⟩ = false := hx1.froz (v := .slice none 0 0) zcv zcv
    have c2_1f : w1.frozen? ⟨w.heap.size + 1 + 1, 1, none⟩ = false := hx1.froz (v := .slice none 0 0) zcv zcv
    have c2_0 : w1.cell? ⟨w.heap.size + 1 + 1, 0, none⟩ = some (.slice none 0 0) := hx1.has zcv
    have c2_1 : w1.cell? ⟨w.heap.size + 1 + 1, 1, none⟩ = some (.slice none 0 0) := hx1.has zcv
    have z1 := hx1.size
    try simp at z1
    have zq := zrc (show w.heap.size + 1 + 1 < w1.heap.size from by omega)
    obtain ⟨rc2, rc2a, rc2b, rc2c, rc2n⟩ := zq
    have X1 : Hid (Ext w w1) := Lib.hid (Ext.trans zxt hx1)
    clear hx1 z1
    go_wp2_with fail
    refine bodyPost_ret (v := .tuple #[.agg #[.slice none 0 0, .slice none 0 0], .int .u64 0, .int .i64 E]) zSlBas3_0 rfl (RetJ.nil ?_)
    exact zxt
  replace he : E = 0 := by omega
  have hk := (chkH_iff cl ps).1 (hE.symm.trans he)
  have C2 := Lib.hid (fun w => howner_any O w)
  obtain ⟨OB, hOB⟩ : ∃ OB, OB = decide (0 ≤ O ∧ O < 64) := ⟨_, rfl⟩
  rw [← hOB] at C2
  have C3 := Lib.hid (fun w => tCheck_any V S P Q w)
  obtain ⟨ES, hES⟩ : ∃ ES, ES = chkS V S P Q := ⟨_, rfl⟩
  rw [← hES] at C3
  have C4 := Lib.hid (fun (w' : World) (hx : Ext w w') => hcopied_any c c2 A A2 cl ps w' (h.ext hx) (h2.ext hx) hn hn2 hA hA2)
  have C5 := Lib.hid (fun (w' : World) (hx : Ext w w') => hFind_any cl.length c ps.length c2 A A2 cl V S P Q w' (h.ext hx))
  have hfw := fnd_word hw [V, S, P, Q]
  obtain ⟨T, hT⟩ : ∃ T, T = fndT cl [V, S, P, Q] := ⟨_, rfl⟩
  obtain ⟨U, hU⟩ : ∃ U, U = fndS cl [V, S, P, Q] := ⟨_, rfl⟩
  obtain ⟨BB, hBB⟩ : ∃ B, B = (getK kC cl [V, S, P, Q]).isSome := ⟨_, rfl⟩
  rw [← hT, ← hU, ← hBB] at C5
  rw [← hT, ← hU] at hfw
  have C6 := Lib.hid (fun w => SJoin_any T U a hfw.1 hfw.2 ha w)
  have HJ := Lib.hid (fun hj => joi_fits (o := O) (V := V) (S := S) (P := P) (Q := Q) (a := a) hk hw hw2 ha hj)
  have hE0 := hjoiV_ok (cl := cl) (ps := ps) (o := O) (V := V) (S := S) (P := P) (Q := Q) (a := a)
  rw [← hT, ← hU] at HJ hE0
  obtain ⟨JT, hJT⟩ : ∃ J, J = joiT T U a := ⟨_, rfl⟩
  obtain ⟨JS, hJS⟩ : ∃ J, J = joiS T U a := ⟨_, rfl⟩
  obtain ⟨JN, hJN⟩ : ∃ J, J = joiN T U a := ⟨_, rfl⟩
  obtain ⟨JE, hJE⟩ : ∃ J, J = joiE T U a := ⟨_, rfl⟩
  rw [← hJT, ← hJS, ← hJN, ← hJE] at C6
  have C7 := Lib.hid (fun (w' : World) (hx : Ext w w') => hAll_any cl.length c ps.length c2 A A2 cl ps w' (h.ext hx) (h2.ext hx) hn hn2 hw hw2)
  rw [show allT cl ps = totC cl from if_pos (hE.symm.trans he), ← hE, he] at C7
  obtain ⟨TC, hTC⟩ : ∃ t, t = totC cl := ⟨_, rfl⟩
  rw [← hTC] at C7
  obtain ⟨H0, hH0⟩ : ∃ H, H = hasV ps [O, V, S, P, Q] := ⟨_, rfl⟩
  rw [← hJN, ← hH0, ← hTC, ← hJE] at HJ
  rw [← hJT, ← hJS, ← hJN, ← hH0] at hE0
  obtain ⟨L3, hL3⟩ : ∃ L, L = setK kC cl [V, S, P, Q] (optC V S P Q JT JS) := ⟨_, rfl⟩
  obtain ⟨L4, hL4⟩ : ∃ L, L = setK kP ps [O, V, S, P, Q] (optP O V S P Q (H0 + JN)) := ⟨_, rfl⟩
  rw [show clsSet cl V S P Q JT JS = L3 from by rw [hL3]; exact (setK_lay kC_len rfl _ hk.sc).symm, show posSet ps O V S P Q (H0 + JN) = L4 from by rw [hL4]; exact (setK_lay kP_len rfl _ hk.sp).symm] at hE0
  have C8 := Lib.hid (fun (w' : World) (base q d : Nat) (B : Option Addr) (a1 : Value) hB hO hqo hbase => hbpools_any base q cl.length d B a1 cl V S P Q JT JS w' hB hO hn hk.sc hqo hbase)
  have C9 := Lib.hid (fun (w' : World) (q d : Nat) (B : Option Addr) hh hq => hbhas_any q B ps.length d ps O V S P Q H0 w' hh hn2 hq hk.sp hH0)
  have C10 := Lib.hid (fun (w' : World) (base q d : Nat) (B : Option Addr) (a0 : Value) hp hB hO hqo hbase => hbholds_any base q ps.length d B a0 ps O V S P Q (H0 + JN) w' hB hO hn2 hp hk.sp hqo hbase)
  rw [← hL3] at C8
  rw [← hL4] at C10
  have HX := Lib.hid (show (OB = false → hjoiE cl ps O V S P Q a = 3) ∧ (OB = true → ES ≠ 0 → hjoiE cl ps O V S P Q a = 3) ∧ (OB = true → ES = 0 → BB = false → cl.length = 1024 → hjoiE cl ps O V S P Q a = 7) ∧ (OB = true → ES = 0 → (BB = false → cl.length ≠ 1024) → JE ≠ 0 → hjoiE cl ps O V S P Q a = JE) ∧ (OB = true → ES = 0 → (BB = false → cl.length ≠ 1024) → JE = 0 → 4611686018427387904 < TC + a → hjoiE cl ps O V S P Q a = 12) ∧ (OB = true → ES = 0 → (BB = false → cl.length ≠ 1024) → JE = 0 → ¬ 4611686018427387904 < TC + a → hjoiE cl ps O V S P Q a = 0) from by
    have hlen := hk.len
    have hOt : OB = true → ¬ (O < 0 ∨ 64 ≤ O) := fun hh => by have := of_decide_eq_true (hOB.symm.trans hh); omega
    have hOf : OB = false → (O < 0 ∨ 64 ≤ O) := fun hh => by have := of_decide_eq_false (hOB.symm.trans hh); omega
    have hBn : (BB = false → cl.length ≠ 1024) → ¬ ((getK kC cl [V, S, P, Q]).isNone = true ∧ 1024 ≤ cl.length) := fun hh hh2 => by
      have hb : BB = false := by rw [hBB, ← Option.not_isNone, hh2.1]; rfl
      have := hh hb
      omega
    unfold hjoiE
    rw [if_neg (by rw [← hE]; simpa using he), ← hT, ← hU, ← hJE, ← hES, ← hTC]
    refine ⟨fun h1 => ?_, fun h1 h2 => ?_, fun h1 h2 h3 h4 => ?_, fun h1 h2 h3 h4 => ?_, fun h1 h2 h3 h4 h5 => ?_, fun h1 h2 h3 h4 h5 => ?_⟩
    · rw [if_pos (.inl (hOf h1))]
    · rw [if_pos (.inr h2)]
    · rw [if_neg (by simp only [not_or]; exact ⟨by have := hOt h1; omega, by simpa using h2⟩), if_pos ⟨by rw [← Option.not_isSome, ← hBB, h3]; rfl, by omega⟩]
    · rw [if_neg (by simp only [not_or]; exact ⟨by have := hOt h1; omega, by simpa using h2⟩), if_neg (hBn h3), if_pos h4]
    · rw [if_neg (by simp only [not_or]; exact ⟨by have := hOt h1; omega, by simpa using h2⟩), if_neg (hBn h3), if_neg (by simpa using h4), if_pos h5]
    · rw [if_neg (by simp only [not_or]; exact ⟨by have := hOt h1; omega, by simpa using h2⟩), if_neg (hBn h3), if_neg (by simpa using h4), if_neg h5])
  have HE0 := Lib.hid hE0
  rw [← hE] at C1
  subst he
  have hOw : w.heap.size + 2 < w.heap.size + 3 := by omega
  have hll : cl.length ≤ 1024 := hk.len
  clear h h2 hw hw2 hE hR ha hA hA2 hk hOB hES hfw hT hU hBB hE0 hJT hJS hJN hJE hTC hH0 hL3 hL4
  go_enter Tryz.func67, Tryz.ntmps67
  go_wp2_with fail
  (with_reducible refine (C1.out _ zxt).mono ?_)
  rintro e w1 ⟨rfl, hx1⟩
  have c0_0 : w1.cell? ⟨w.heap.size, 0, none⟩ = some (.slice A cl.length c) := hx1.has zcv
  have c0_1 : w1.cell? ⟨w.heap.size, 1, none⟩ = some (.slice A2 ps.length c2) := hx1.has zcv
  have c1_0 : w1.cell? ⟨w.heap.size + 1, 0, none⟩ = some (.int .i64 V) := hx1.has zcv
  have c1_1 : w1.cell? ⟨w.heap.size + 1, 1, none⟩ = some (.int .i64 S) := hx1.has zcv
  have c1_2 : w1.cell? ⟨w.heap.size + 1, 2, none⟩ = some (.int .i64 P) := hx1.has zcv
  have c1_3 : w1.cell? ⟨w.heap.size + 1, 3, none⟩ = some (.int .i64 Q) := hx1.has zcv
  have c2_0f : w1.frozen? ⟨w.heap.size + 1 + 1, 0, none⟩ = false := hx1.froz (v := .slice none 0 0) zcv zcv
  have c2_1f : w1.frozen? ⟨w.heap.size + 1 + 1, 1, none⟩ = false := hx1.froz (v := .slice none 0 0) zcv zcv
  have c2_0 : w1.cell? ⟨w.heap.size + 1 + 1, 0, none⟩ = some (.slice none 0 0) := hx1.has zcv
  have c2_1 : w1.cell? ⟨w.heap.size + 1 + 1, 1, none⟩ = some (.slice none 0 0) := hx1.has zcv
  have z1 := hx1.size
  try simp at z1
  have lt_c0_c1 : w.heap.size < w.heap.size + 1 := by omega
  have ne_c0_c1 : ¬ w.heap.size = w.heap.size + 1 := by omega
  have lt_c0_c2 : w.heap.size < w.heap.size + 1 + 1 := by omega
  have ne_c0_c2 : ¬ w.heap.size = w.heap.size + 1 + 1 := by omega
  have ne_c1_c0 : ¬ w.heap.size + 1 = w.heap.size := by omega
  have lt_c1_c2 : w.heap.size + 1 < w.heap.size + 1 + 1 := by omega
  have ne_c1_c2 : ¬ w.heap.size + 1 = w.heap.size + 1 + 1 := by omega
  have ne_c2_c0 : ¬ w.heap.size + 1 + 1 = w.heap.size := by omega
  have ne_c2_c1 : ¬ w.heap.size + 1 + 1 = w.heap.size + 1 := by omega
  have zq := zrc (show w.heap.size < w1.heap.size from by omega)
  obtain ⟨rc0, rc0a, rc0b, rc0c, rc0n⟩ := zq
  have zq := zrc (show w.heap.size + 1 < w1.heap.size from by omega)
  obtain ⟨rc1, rc1a, rc1b, rc1c, rc1n⟩ := zq
  have zq := zrc (show w.heap.size + 1 + 1 < w1.heap.size from by omega)
  obtain ⟨rc2, rc2a, rc2b, rc2c, rc2n⟩ := zq
  have X1 : Hid (Ext w w1) := Lib.hid (Ext.trans zxt hx1)
  clear hx1
  rcases (show OB = false ∨ OB = true from by cases OB <;> simp) with rfl | rfl
  · obtain rfl : R = ([], [], 0, 3) := HR.out.trans (hjoiV_err (HX.out.1 (by trivial)) (by first | decide | assumption))
    go_wp2_with fail
    (with_reducible refine (C2.out _).mono ?_)
    rintro e w_1 ⟨rfl, rfl⟩
    go_wp2_with fail
    refine bodyPost_ret (v := .tuple #[.agg #[.slice none 0 0, .slice none 0 0], .int .u64 0, .int .i64 3]) zSlBas3_0 rfl (RetJ.nil ?_)
    exact zxt
  · go_wp2_with fail
    (with_reducible refine (C2.out _).mono ?_)
    rintro e w_1 ⟨rfl, rfl⟩
    go_wp2_with fail
    (with_reducible refine (C3.out _).mono ?_)
    rintro e w2 ⟨rfl, hx2⟩
    replace c0_0 : w2.cell? ⟨w.heap.size, 0, none⟩ = some (.slice A cl.length c) := hx2.has zcv
    replace c0_1 : w2.cell? ⟨w.heap.size, 1, none⟩ = some (.slice A2 ps.length c2) := hx2.has zcv
    replace c1_0 : w2.cell? ⟨w.heap.size + 1, 0, none⟩ = some (.int .i64 V) := hx2.has zcv
    replace c1_1 : w2.cell? ⟨w.heap.size + 1, 1, none⟩ = some (.int .i64 S) := hx2.has zcv
    replace c1_2 : w2.cell? ⟨w.heap.size + 1, 2, none⟩ = some (.int .i64 P) := hx2.has zcv
    replace c1_3 : w2.cell? ⟨w.heap.size + 1, 3, none⟩ = some (.int .i64 Q) := hx2.has zcv
    replace c2_0f : w2.frozen? ⟨w.heap.size + 1 + 1, 0, none⟩ = false := hx2.froz (v := .slice none 0 0) zcv zcv
    replace c2_1f : w2.frozen? ⟨w.heap.size + 1 + 1, 1, none⟩ = false := hx2.froz (v := .slice none 0 0) zcv zcv
    replace c2_0 : w2.cell? ⟨w.heap.size + 1 + 1, 0, none⟩ = some (.slice none 0 0) := hx2.has zcv
    replace c2_1 : w2.cell? ⟨w.heap.size + 1 + 1, 1, none⟩ = some (.slice none 0 0) := hx2.has zcv
    have z2 := hx2.size
    try simp at z2
    have zq := zrc (show w.heap.size < w2.heap.size from by omega)
    clear rc0 rc0a rc0b rc0c rc0n
    obtain ⟨rc0, rc0a, rc0b, rc0c, rc0n⟩ := zq
    have zq := zrc (show w.heap.size + 1 < w2.heap.size from by omega)
    clear rc1 rc1a rc1b rc1c rc1n
    obtain ⟨rc1, rc1a, rc1b, rc1c, rc1n⟩ := zq
    have zq := zrc (show w.heap.size + 1 + 1 < w2.heap.size from by omega)
    clear rc2 rc2a rc2b rc2c rc2n
    obtain ⟨rc2, rc2a, rc2b, rc2c, rc2n⟩ := zq
    have X2 : Hid (Ext w w2) := Lib.hid (Ext.trans zxt hx2)
    clear X1 hx2
    by_cases q2 : ¬ ES = 0
    · have q2b : (ES != 0) = true := by simp [q2]
      obtain rfl : R = ([], [], 0, 3) := HR.out.trans (hjoiV_err (HX.out.2.1 (by trivial) q2) (by first | decide | assumption))
      go_wp2_with fail
      refine bodyPost_ret (v := .tuple #[.agg #[.slice none 0 0, .slice none 0 0], .int .u64 0, .int .i64 3]) zSlBas3_0 rfl (RetJ.nil ?_)
      exact zxt
    · have q2b : (ES != 0) = false := by simpa using q2
      have q2c : ES = 0 := by omega
      go_wp2_with fail
      (with_reducible refine (C4.out _ zxt).mono ?_)
      rintro e w3 ⟨v, rfl, B, d, B2, d2, rfl, hB, hB2, hO, hP, hx3⟩
      replace c0_0 := zh hx3 c0_0
      replace c0_1 := zh hx3 c0_1
      replace c1_0 := zh hx3 c1_0
      replace c1_1 := zh hx3 c1_1
      replace c1_2 := zh hx3 c1_2
      replace c1_3 := zh hx3 c1_3
      replace c2_0f := zf hx3 c2_0 c2_0f
      replace c2_1f := zf hx3 c2_1 c2_1f
      replace c2_0 := zh hx3 c2_0
      replace c2_1 := zh hx3 c2_1
      have z3 := hx3.size
      try simp at z3
      have zq := zrc (show w.heap.size < w3.heap.size from by omega)
      clear rc0 rc0a rc0b rc0c rc0n
      obtain ⟨rc0, rc0a, rc0b, rc0c, rc0n⟩ := zq
      have zq := zrc (show w.heap.size + 1 < w3.heap.size from by omega)
      clear rc1 rc1a rc1b rc1c rc1n
      obtain ⟨rc1, rc1a, rc1b, rc1c, rc1n⟩ := zq
      have zq := zrc (show w.heap.size + 1 + 1 < w3.heap.size from by omega)
      clear rc2 rc2a rc2b rc2c rc2n
      obtain ⟨rc2, rc2a, rc2b, rc2c, rc2n⟩ := zq
      have X3 : Hid (Ext w w3) := Lib.hid (Ext.trans zxt hx3)
      have HO := Lib.hid (show OwnCls _ (w.heap.size + 3) _ _ _ from own_lower hO (by first | omega | (simp; done) | (simp; omega)))
      have HP := Lib.hid (show OwnPos _ (w.heap.size + 3) _ _ _ from own_lower hP (by first | omega | (simp; done) | (simp; omega)))
      clear X2 hx3
      have HQ := Lib.hid (And.intro (ob_lt HO.out) (ob_lt HP.out))
      clear hO hP
      go_wp2_with fail
      (with_reducible refine (C5.out _ zxt).mono ?_)
      rintro e w4 ⟨rfl, hx4⟩
      replace c0_0 := zh hx4 c0_0
      replace c0_1 := zh hx4 c0_1
      replace c1_0 := zh hx4 c1_0
      replace c1_1 := zh hx4 c1_1
      replace c1_2 := zh hx4 c1_2
      replace c1_3 := zh hx4 c1_3
      replace c2_0f := zf hx4 c2_0 c2_0f
      replace c2_1f := zf hx4 c2_1 c2_1f
      replace c2_0 := zh hx4 c2_0
      replace c2_1 := zh hx4 c2_1
      have c3_0f : w4.frozen? ⟨w3.heap.size, 0, none⟩ = false := hx4.froz (v := .slice B cl.length d) zcv zcv
      have c3_1f : w4.frozen? ⟨w3.heap.size, 1, none⟩ = false := hx4.froz (v := .slice B2 ps.length d2) zcv zcv
      have c3_0 : w4.cell? ⟨w3.heap.size, 0, none⟩ = some (.slice B cl.length d) := hx4.has zcv
      have c3_1 : w4.cell? ⟨w3.heap.size, 1, none⟩ = some (.slice B2 ps.length d2) := hx4.has zcv
      have z4 := hx4.size
      try simp at z4
      have lt_c0_c3 : w.heap.size < w3.heap.size := by omega
      have ne_c0_c3 : ¬ w.heap.size = w3.heap.size := by omega
      have lt_c1_c3 : w.heap.size + 1 < w3.heap.size := by omega
      have ne_c1_c3 : ¬ w.heap.size + 1 = w3.heap.size := by omega
      have lt_c2_c3 : w.heap.size + 1 + 1 < w3.heap.size := by omega
      have ne_c2_c3 : ¬ w.heap.size + 1 + 1 = w3.heap.size := by omega
      have ne_c3_c0 : ¬ w3.heap.size = w.heap.size := by omega
      have ne_c3_c1 : ¬ w3.heap.size = w.heap.size + 1 := by omega
      have ne_c3_c2 : ¬ w3.heap.size = w.heap.size + 1 + 1 := by omega
      have zq := zrc (show w.heap.size < w4.heap.size from by omega)
      clear rc0 rc0a rc0b rc0c rc0n
      obtain ⟨rc0, rc0a, rc0b, rc0c, rc0n⟩ := zq
      have zq := zrc (show w.heap.size + 1 < w4.heap.size from by omega)
      clear rc1 rc1a rc1b rc1c rc1n
      obtain ⟨rc1, rc1a, rc1b, rc1c, rc1n⟩ := zq
      have zq := zrc (show w.heap.size + 1 + 1 < w4.heap.size from by omega)
      clear rc2 rc2a rc2b rc2c rc2n
      obtain ⟨rc2, rc2a, rc2b, rc2c, rc2n⟩ := zq
      have zq := zrc (show w3.heap.size < w4.heap.size from by omega)
      obtain ⟨rc3, rc3a, rc3b, rc3c, rc3n⟩ := zq
      replace HO := Lib.hid (HO.out.ext (Ext.trans zxt hx4))
      replace HP := Lib.hid (HP.out.ext (Ext.trans zxt hx4))
      have X4 : Hid (Ext w w4) := Lib.hid (Ext.trans zxt hx4)
      clear X3 hx4
      rcases (show BB = false ∨ BB = true from by cases BB <;> simp) with rfl | rfl
      · by_cases q4 : cl.length = 1024
        · have q4b : ((cl.length : Int) == 1024) = true := by simp [q4]
          obtain rfl : R = ([], [], 0, 7) := HR.out.trans (hjoiV_err (HX.out.2.2.1 (by trivial) q2c (by trivial) q4) (by first | decide | assumption))
          clear q4
          go_wp2_with fail
          refine bodyPost_ret (v := .tuple #[.agg #[.slice none 0 0, .slice none 0 0], .int .u64 0, .int .i64 7]) zSlBas3_0 rfl (RetJ.nil ?_)
          exact zxt
        · have q4b : ((cl.length : Int) == 1024) = false := by simp; omega
          have HF := Lib.hid (show false = false → cl.length ≠ 1024 from fun _ => q4)
          clear q4
          go_wp2_with fail
          (with_reducible refine (C6.out _).mono ?_)
          rintro e w5 ⟨rfl, hx5⟩
          replace c0_0 : w5.cell? ⟨w.heap.size, 0, none⟩ = some (.slice A cl.length c) := hx5.has zcv
          replace c0_1 : w5.cell? ⟨w.heap.size, 1, none⟩ = some (.slice A2 ps.length c2) := hx5.has zcv
          replace c1_0 : w5.cell? ⟨w.heap.size + 1, 0, none⟩ = some (.int .i64 V) := hx5.has zcv
          replace c1_1 : w5.cell? ⟨w.heap.size + 1, 1, none⟩ = some (.int .i64 S) := hx5.has zcv
          replace c1_2 : w5.cell? ⟨w.heap.size + 1, 2, none⟩ = some (.int .i64 P) := hx5.has zcv
          replace c1_3 : w5.cell? ⟨w.heap.size + 1, 3, none⟩ = some (.int .i64 Q) := hx5.has zcv
          replace c2_0f : w5.frozen? ⟨w.heap.size + 1 + 1, 0, none⟩ = false := hx5.froz (v := .slice none 0 0) zcv zcv
          replace c2_1f : w5.frozen? ⟨w.heap.size + 1 + 1, 1, none⟩ = false := hx5.froz (v := .slice none 0 0) zcv zcv
          replace c2_0 : w5.cell? ⟨w.heap.size + 1 + 1, 0, none⟩ = some (.slice none 0 0) := hx5.has zcv
          replace c2_1 : w5.cell? ⟨w.heap.size + 1 + 1, 1, none⟩ = some (.slice none 0 0) := hx5.has zcv
          replace c3_0f : w5.frozen? ⟨w3.heap.size, 0, none⟩ = false := hx5.froz (v := .slice B cl.length d) zcv zcv
          replace c3_1f : w5.frozen? ⟨w3.heap.size, 1, none⟩ = false := hx5.froz (v := .slice B2 ps.length d2) zcv zcv
          replace c3_0 : w5.cell? ⟨w3.heap.size, 0, none⟩ = some (.slice B cl.length d) := hx5.has zcv
          replace c3_1 : w5.cell? ⟨w3.heap.size, 1, none⟩ = some (.slice B2 ps.length d2) := hx5.has zcv
          have z5 := hx5.size
          try simp at z5
          have zq := zrc (show w.heap.size < w5.heap.size from by omega)
          clear rc0 rc0a rc0b rc0c rc0n
          obtain ⟨rc0, rc0a, rc0b, rc0c, rc0n⟩ := zq
          have zq := zrc (show w.heap.size + 1 < w5.heap.size from by omega)
          clear rc1 rc1a rc1b rc1c rc1n
          obtain ⟨rc1, rc1a, rc1b, rc1c, rc1n⟩ := zq
          have zq := zrc (show w.heap.size + 1 + 1 < w5.heap.size from by omega)
          clear rc2 rc2a rc2b rc2c rc2n
          obtain ⟨rc2, rc2a, rc2b, rc2c, rc2n⟩ := zq
          have zq := zrc (show w3.heap.size < w5.heap.size from by omega)
          clear rc3 rc3a rc3b rc3c rc3n
          obtain ⟨rc3, rc3a, rc3b, rc3c, rc3n⟩ := zq
          replace HO := Lib.hid (HO.out.ext (Ext.trans zxt hx5))
          replace HP := Lib.hid (HP.out.ext (Ext.trans zxt hx5))
          have X5 : Hid (Ext w w5) := Lib.hid (Ext.trans zxt hx5)
          clear X4 hx5
          by_cases q5 : ¬ JE = 0
          · have q5b : (JE != 0) = true := by simp [q5]
            obtain rfl : R = ([], [], 0, JE) := HR.out.trans (hjoiV_err (HX.out.2.2.2.1 (by trivial) q2c HF.out q5) (by first | decide | assumption))
            go_wp2_with fail
            refine bodyPost_ret (v := .tuple #[.agg #[.slice none 0 0, .slice none 0 0], .int .u64 0, .int .i64 JE]) zSlBas3_0 rfl (RetJ.nil ?_)
            exact zxt
          · have q5b : (JE != 0) = false := by simpa using q5
            have q5c : JE = 0 := by omega
            have HJ2 := Lib.hid (HJ.out q5c)
            have hwa := HJ2.out.2.1
            have hwb := HJ2.out.1
            go_wp2_with fail
            (with_reducible refine (C7.out _ zxt).mono ?_)
            rintro e w6 ⟨rfl, hx6⟩
            replace c1_0 := zh hx6 c1_0
            replace c1_1 := zh hx6 c1_1
            replace c1_2 := zh hx6 c1_2
            replace c1_3 := zh hx6 c1_3
            replace c2_0f := zf hx6 c2_0 c2_0f
            replace c2_1f := zf hx6 c2_1 c2_1f
            replace c2_0 := zh hx6 c2_0
            replace c2_1 := zh hx6 c2_1
            replace c3_0f := zf hx6 c3_0 c3_0f
            replace c3_1f := zf hx6 c3_1 c3_1f
            replace c3_0 := zh hx6 c3_0
            replace c3_1 := zh hx6 c3_1
            have c5_0 : w6.cell? ⟨w5.heap.size, 0, none⟩ = some (.int .u64 JT) := hx6.has zcv
            have c5_1 : w6.cell? ⟨w5.heap.size, 1, none⟩ = some (.int .u64 JS) := hx6.has zcv
            have z6 := hx6.size
            try simp at z6
            have lt_c1_c5 : w.heap.size + 1 < w5.heap.size := by omega
            have ne_c1_c5 : ¬ w.heap.size + 1 = w5.heap.size := by omega
            have lt_c2_c5 : w.heap.size + 1 + 1 < w5.heap.size := by omega
            have ne_c2_c5 : ¬ w.heap.size + 1 + 1 = w5.heap.size := by omega
            have lt_c3_c5 : w3.heap.size < w5.heap.size := by omega
            have ne_c3_c5 : ¬ w3.heap.size = w5.heap.size := by omega
            have ne_c5_c1 : ¬ w5.heap.size = w.heap.size + 1 := by omega
            have ne_c5_c2 : ¬ w5.heap.size = w.heap.size + 1 + 1 := by omega
            have ne_c5_c3 : ¬ w5.heap.size = w3.heap.size := by omega
            have zq := zrc (show w.heap.size + 1 < w6.heap.size from by omega)
            clear rc1 rc1a rc1b rc1c rc1n
            obtain ⟨rc1, rc1a, rc1b, rc1c, rc1n⟩ := zq
            have zq := zrc (show w.heap.size + 1 + 1 < w6.heap.size from by omega)
            clear rc2 rc2a rc2b rc2c rc2n
            obtain ⟨rc2, rc2a, rc2b, rc2c, rc2n⟩ := zq
            have zq := zrc (show w3.heap.size < w6.heap.size from by omega)
            clear rc3 rc3a rc3b rc3c rc3n
            obtain ⟨rc3, rc3a, rc3b, rc3c, rc3n⟩ := zq
            have zq := zrc (show w5.heap.size < w6.heap.size from by omega)
            obtain ⟨rc5, rc5a, rc5b, rc5c, rc5n⟩ := zq
            replace HO := Lib.hid (HO.out.ext (Ext.trans zxt hx6))
            replace HP := Lib.hid (HP.out.ext (Ext.trans zxt hx6))
            have X6 : Hid (Ext w w6) := Lib.hid (Ext.trans zxt hx6)
            clear c0_1 c0_0 rc0 rc0a rc0b rc0c rc0n X5 hx6
            by_cases q6 : 4611686018427387904 < TC + a
            · have q6b := Lib.hid q6
              obtain rfl : R = ([], [], 0, 12) := HR.out.trans (hjoiV_err (HX.out.2.2.2.2.1 (by trivial) q2c HF.out q5c q6) (by first | decide | assumption))
              go_wp2_with fail
              refine bodyPost_ret (v := .tuple #[.agg #[.slice none 0 0, .slice none 0 0], .int .u64 0, .int .i64 12]) zSlBas3_0 rfl (RetJ.nil ?_)
              exact zxt
            · have HX0 := Lib.hid (HX.out.2.2.2.2.2 (by trivial) q2c HF.out q5c (by first | exact q6 | omega))
              have XK := X6
              have hqk : w3.heap.size < w6.heap.size := by omega
              have hqq : w.heap.size + 3 ≤ w3.heap.size := by omega
              have nq : ∀ j, (Value.slice B cl.length d).ownBlock = some j → ¬ j = w3.heap.size := fun j hj => by have := HQ.out.1 j hj; omega
              have nq2 : ∀ j, (Value.slice B2 ps.length d2).ownBlock = some j → ¬ j = w3.heap.size := fun j hj => by have := HQ.out.2 j hj; omega
              have np : ∀ j, (Value.slice B2 ps.length d2).ownBlock = some j → ¬ (Value.slice B cl.length d).ownBlock = some j := own_apart HP.out HO.out (fun e => cls_pos e.symm)
              have nb : ∀ j, j < w.heap.size + 3 → ¬ (j = w3.heap.size ∨ (Value.slice B cl.length d).ownBlock = some j) := fun j hj hh => by rcases hh with hh | hh; omega; have := HQ.out.1 j hh; omega
              have nb2 : ∀ j, j < w.heap.size + 3 → ¬ (j = w3.heap.size ∨ (Value.slice B2 ps.length d2).ownBlock = some j) := fun j hj hh => by rcases hh with hh | hh; omega; have := HQ.out.2 j hh; omega
              go_wp2_with fail
              (with_reducible refine (C8.out _ (w.heap.size + 3) (w3.heap.size) d B (.slice B2 ps.length d2) ⟨c3_0, c3_0f, c3_1, c3_1f⟩ HO.out nq (by omega)).mono ?_)
              rintro e v7 ⟨rfl, u3, hB3, ho3, hk3, hx7⟩
              obtain ⟨B3, d3, rfl, _, _⟩ := own_parts2 ho3
              have hz7 := hx7.size
              have p_0 := hx7.has (nb _ (by omega)) c1_0
              have p_1 := hx7.has (nb _ (by omega)) c1_1
              have p_2 := hx7.has (nb _ (by omega)) c1_2
              have p_3 := hx7.has (nb _ (by omega)) c1_3
              have r_0f := hx7.froz (nb _ (by omega)) c2_0 c2_0f
              have r_0 := hx7.has (nb _ (by omega)) c2_0
              have r_1f := hx7.froz (nb _ (by omega)) c2_1 c2_1f
              have r_1 := hx7.has (nb _ (by omega)) c2_1
              have HP7 := Lib.hid (show OwnPos _ _ _ _ _ from own_but_set HP.out hx7 nq2 np)
              have X7 := Lib.hid (ext_but XK.out hx7 (fun j hj => by rcases hj with hj | hj; omega; have := HQ.out.1 j hj; omega))
              have nq3 : ∀ j, (Value.slice B3 L3.length d3).ownBlock = some j → ¬ j = w3.heap.size := fun j hj => by rcases hk3 j hj with hh | hh; exact nq j hh; omega
              have H3 := Lib.hid ho3
              have HB3 := Lib.hid hB3
              have b_1 := hB3.c1
              clear ho3 hk3 hx7 hB3 HP HO c3_0 c3_0f c3_1 c3_1f c1_0 c1_1 c1_2 c1_3 c2_0 c2_1 c2_0f c2_1f c5_0 c5_1
              go_wp2_with fail
              refine wp_region_held_drew (S := fun w' => w'.cell? ⟨w.heap.size + 1, 0, none⟩ = some (.int .i64 V) ∧ w'.cell? ⟨w.heap.size + 1, 1, none⟩ = some (.int .i64 S) ∧ w'.cell? ⟨w.heap.size + 1, 2, none⟩ = some (.int .i64 P) ∧ w'.cell? ⟨w.heap.size + 1, 3, none⟩ = some (.int .i64 Q)) (by kernel_rfl) (by exact ⟨p_0, p_1, p_2, p_3⟩) (fun hHeld => ?_)
              refine' zt 0 ?_
              refine' zt 1 ?_
              refine' zt 2 ?_
              refine' zt 3 ?_
              refine' zt 5 ?_
              refine' zn 4 (fun K hK => ?_)
              go_simp
              (with_reducible refine (C9.out _ (w3.heap.size) d2 B2 (OwnPos.sl (OwnPos.ext HP7.out (Ext.drew (Ext.refl _)))) (Ext.has (Ext.drew (Ext.refl _)) b_1)).mono ?_)
              rintro e v8 ⟨rfl, hx8d⟩
              have hx8 := Ext.trans (Ext.drew (Ext.refl v7)) hx8d
              clear hx8d
              have hz8 := hx8.size
              replace p_0 := hx8.has p_0
              replace p_1 := hx8.has p_1
              replace p_2 := hx8.has p_2
              replace p_3 := hx8.has p_3
              replace r_0f := hx8.froz r_0 r_0f
              replace r_0 := hx8.has r_0
              replace r_1f := hx8.froz r_1 r_1f
              replace r_1 := hx8.has r_1
              have HP8 := Lib.hid (show OwnPos _ _ _ _ _ from own_keep HP7.out hx8)
              have H4 := Lib.hid (own_keep H3.out hx8)
              have HB8 := Lib.hid (HB3.out.ext hx8)
              have X8 := Lib.hid (Ext.trans X7.out hx8)
              clear b_1 hx8 HP7 H3 HB3 X7
              refine hK.out _ _ ((by exact ⟨p_0, p_1, p_2, p_3⟩)) (fun hHeld => ?_); clear hK K; try simp only [Act.put, List.setIfInBounds_toArray, List.set_cons_zero, List.set_cons_succ]
              refine' zt 6 ?_
              refine' zn 7 (fun K hK => ?_)
              go_simp
              (with_reducible refine (C10.out _ (w.heap.size + 3) (w3.heap.size) d2 B2 (.slice B3 L3.length d3) HJ2.out.2.2 HB8.out HP8.out nq2 (by omega)).mono ?_)
              rintro e v9 ⟨rfl, u4, hB4, ho4, hk4, hx9⟩
              obtain ⟨B4, d4, rfl, _, _⟩ := own_parts2 ho4
              have hz9 := hx9.size
              have p9_0 := hx9.has (nb2 _ (by omega)) p_0
              have p9_1 := hx9.has (nb2 _ (by omega)) p_1
              have p9_2 := hx9.has (nb2 _ (by omega)) p_2
              have p9_3 := hx9.has (nb2 _ (by omega)) p_3
              have r9_0f := hx9.froz (nb2 _ (by omega)) r_0 r_0f
              have r9_0 := hx9.has (nb2 _ (by omega)) r_0
              have r9_1f := hx9.froz (nb2 _ (by omega)) r_1 r_1f
              have r9_1 := hx9.has (nb2 _ (by omega)) r_1
              have H5 := Lib.hid (own_but_set H4.out hx9 nq3 (own_apart H4.out HP8.out cls_pos))
              have X9 := Lib.hid (ext_but X8.out hx9 (fun j hj => by rcases hj with hj | hj; omega; have := HQ.out.2 j hj; omega))
              have H6 := Lib.hid ho4
              have b_0 := hB4.c0
              have b_1 := hB4.c1
              clear ho4 hk4 hx9 hB4 HB8 HP8 H4 X8 p_0 p_1 p_2 p_3 r_0 r_1 r_0f r_1f
              refine hK.out _ _ ((by exact ⟨p9_0, p9_1, p9_2, p9_3⟩)) (fun hHeld => ?_); clear hK K; try simp only [Act.put, List.setIfInBounds_toArray, List.set_cons_zero, List.set_cons_succ]
              refine wpAnyH_done (by kernel_rfl) ?_ _
              go_wp2_with fail
              obtain rfl : R = (L3, L4, JN, 0) := HR.out.trans (HE0.out HX0.out)
              refine bodyPost_ret (v := .tuple #[.agg #[.slice B3 L3.length d3, .slice B4 L4.length d4], .int .u64 JN, .int .i64 0]) (by simp [results, Tryz.results67, go_sem, World.cell?_alloc_past, r9_0, r9_1, r9_0f, r9_1f, b_0, b_1]; try rfl) rfl ⟨_, rfl, holdS_of (b := (w.heap.size + 3)) (by omega) (show World.ownsRow _ (w.heap.size + 3) _ _ _ _ _ from by repeat (first | with_reducible refine own_box ?_ (by omega) | with_reducible refine World.ownsRow.drew ?_ | exact H5.out)) (show World.ownsRow _ (w.heap.size + 3) _ _ _ _ _ from by repeat (first | with_reducible refine own_box ?_ (by omega) | with_reducible refine World.ownsRow.drew ?_ | exact H6.out)) (by repeat (first | with_reducible exact X9.out | with_reducible refine Ext.drew ?_ | with_reducible refine Ext.setCell ?_ (by first | omega | (simp; done) | (simp; omega)) _))⟩
      · have HF := Lib.hid (show true = false → cl.length ≠ 1024 from fun h => by cases h)
        go_wp2_with fail
        (with_reducible refine (C6.out _).mono ?_)
        rintro e w5 ⟨rfl, hx5⟩
        replace c0_0 : w5.cell? ⟨w.heap.size, 0, none⟩ = some (.slice A cl.length c) := hx5.has zcv
        replace c0_1 : w5.cell? ⟨w.heap.size, 1, none⟩ = some (.slice A2 ps.length c2) := hx5.has zcv
        replace c1_0 : w5.cell? ⟨w.heap.size + 1, 0, none⟩ = some (.int .i64 V) := hx5.has zcv
        replace c1_1 : w5.cell? ⟨w.heap.size + 1, 1, none⟩ = some (.int .i64 S) := hx5.has zcv
        replace c1_2 : w5.cell? ⟨w.heap.size + 1, 2, none⟩ = some (.int .i64 P) := hx5.has zcv
        replace c1_3 : w5.cell? ⟨w.heap.size + 1, 3, none⟩ = some (.int .i64 Q) := hx5.has zcv
        replace c2_0f : w5.frozen? ⟨w.heap.size + 1 + 1, 0, none⟩ = false := hx5.froz (v := .slice none 0 0) zcv zcv
        replace c2_1f : w5.frozen? ⟨w.heap.size + 1 + 1, 1, none⟩ = false := hx5.froz (v := .slice none 0 0) zcv zcv
        replace c2_0 : w5.cell? ⟨w.heap.size + 1 + 1, 0, none⟩ = some (.slice none 0 0) := hx5.has zcv
        replace c2_1 : w5.cell? ⟨w.heap.size + 1 + 1, 1, none⟩ = some (.slice none 0 0) := hx5.has zcv
        replace c3_0f : w5.frozen? ⟨w3.heap.size, 0, none⟩ = false := hx5.froz (v := .slice B cl.length d) zcv zcv
        replace c3_1f : w5.frozen? ⟨w3.heap.size, 1, none⟩ = false := hx5.froz (v := .slice B2 ps.length d2) zcv zcv
        replace c3_0 : w5.cell? ⟨w3.heap.size, 0, none⟩ = some (.slice B cl.length d) := hx5.has zcv
        replace c3_1 : w5.cell? ⟨w3.heap.size, 1, none⟩ = some (.slice B2 ps.length d2) := hx5.has zcv
        have z5 := hx5.size
        try simp at z5
        have zq := zrc (show w.heap.size < w5.heap.size from by omega)
        clear rc0 rc0a rc0b rc0c rc0n
        obtain ⟨rc0, rc0a, rc0b, rc0c, rc0n⟩ := zq
        have zq := zrc (show w.heap.size + 1 < w5.heap.size from by omega)
        clear rc1 rc1a rc1b rc1c rc1n
        obtain ⟨rc1, rc1a, rc1b, rc1c, rc1n⟩ := zq
        have zq := zrc (show w.heap.size + 1 + 1 < w5.heap.size from by omega)
        clear rc2 rc2a rc2b rc2c rc2n
        obtain ⟨rc2, rc2a, rc2b, rc2c, rc2n⟩ := zq
        have zq := zrc (show w3.heap.size < w5.heap.size from by omega)
        clear rc3 rc3a rc3b rc3c rc3n
        obtain ⟨rc3, rc3a, rc3b, rc3c, rc3n⟩ := zq
        replace HO := Lib.hid (HO.out.ext (Ext.trans zxt hx5))
        replace HP := Lib.hid (HP.out.ext (Ext.trans zxt hx5))
        have X5 : Hid (Ext w w5) := Lib.hid (Ext.trans zxt hx5)
        clear X4 hx5
        by_cases q5 : ¬ JE = 0
        · have q5b : (JE != 0) = true := by simp [q5]
          obtain rfl : R = ([], [], 0, JE) := HR.out.trans (hjoiV_err (HX.out.2.2.2.1 (by trivial) q2c HF.out q5) (by first | decide | assumption))
          go_wp2_with fail
          refine bodyPost_ret (v := .tuple #[.agg #[.slice none 0 0, .slice none 0 0], .int .u64 0, .int .i64 JE]) zSlBas3_0 rfl (RetJ.nil ?_)
          exact zxt
        · have q5b : (JE != 0) = false := by simpa using q5
          have q5c : JE = 0 := by omega
          have HJ2 := Lib.hid (HJ.out q5c)
          have hwa := HJ2.out.2.1
          have hwb := HJ2.out.1
          go_wp2_with fail
          (with_reducible refine (C7.out _ zxt).mono ?_)
          rintro e w6 ⟨rfl, hx6⟩
          replace c1_0 := zh hx6 c1_0
          replace c1_1 := zh hx6 c1_1
          replace c1_2 := zh hx6 c1_2
          replace c1_3 := zh hx6 c1_3
          replace c2_0f := zf hx6 c2_0 c2_0f
          replace c2_1f := zf hx6 c2_1 c2_1f
          replace c2_0 := zh hx6 c2_0
          replace c2_1 := zh hx6 c2_1
          replace c3_0f := zf hx6 c3_0 c3_0f
          replace c3_1f := zf hx6 c3_1 c3_1f
          replace c3_0 := zh hx6 c3_0
          replace c3_1 := zh hx6 c3_1
          have c6_0 : w6.cell? ⟨w5.heap.size, 0, none⟩ = some (.int .u64 JT) := hx6.has zcv
          have c6_1 : w6.cell? ⟨w5.heap.size, 1, none⟩ = some (.int .u64 JS) := hx6.has zcv
          have z6 := hx6.size
          try simp at z6
          have lt_c1_c6 : w.heap.size + 1 < w5.heap.size := by omega
          have ne_c1_c6 : ¬ w.heap.size + 1 = w5.heap.size := by omega
          have lt_c2_c6 : w.heap.size + 1 + 1 < w5.heap.size := by omega
          have ne_c2_c6 : ¬ w.heap.size + 1 + 1 = w5.heap.size := by omega
          have lt_c3_c6 : w3.heap.size < w5.heap.size := by omega
          have ne_c3_c6 : ¬ w3.heap.size = w5.heap.size := by omega
          have ne_c6_c1 : ¬ w5.heap.size = w.heap.size + 1 := by omega
          have ne_c6_c2 : ¬ w5.heap.size = w.heap.size + 1 + 1 := by omega
          have ne_c6_c3 : ¬ w5.heap.size = w3.heap.size := by omega
          have zq := zrc (show w.heap.size + 1 < w6.heap.size from by omega)
          clear rc1 rc1a rc1b rc1c rc1n
          obtain ⟨rc1, rc1a, rc1b, rc1c, rc1n⟩ := zq
          have zq := zrc (show w.heap.size + 1 + 1 < w6.heap.size from by omega)
          clear rc2 rc2a rc2b rc2c rc2n
          obtain ⟨rc2, rc2a, rc2b, rc2c, rc2n⟩ := zq
          have zq := zrc (show w3.heap.size < w6.heap.size from by omega)
          clear rc3 rc3a rc3b rc3c rc3n
          obtain ⟨rc3, rc3a, rc3b, rc3c, rc3n⟩ := zq
          have zq := zrc (show w5.heap.size < w6.heap.size from by omega)
          obtain ⟨rc6, rc6a, rc6b, rc6c, rc6n⟩ := zq
          replace HO := Lib.hid (HO.out.ext (Ext.trans zxt hx6))
          replace HP := Lib.hid (HP.out.ext (Ext.trans zxt hx6))
          have X6 : Hid (Ext w w6) := Lib.hid (Ext.trans zxt hx6)
          clear c0_1 c0_0 rc0 rc0a rc0b rc0c rc0n X5 hx6
          by_cases q6 : 4611686018427387904 < TC + a
          · have q6b := Lib.hid q6
            obtain rfl : R = ([], [], 0, 12) := HR.out.trans (hjoiV_err (HX.out.2.2.2.2.1 (by trivial) q2c HF.out q5c q6) (by first | decide | assumption))
            go_wp2_with fail
            refine bodyPost_ret (v := .tuple #[.agg #[.slice none 0 0, .slice none 0 0], .int .u64 0, .int .i64 12]) zSlBas3_0 rfl (RetJ.nil ?_)
            exact zxt
          · have HX0 := Lib.hid (HX.out.2.2.2.2.2 (by trivial) q2c HF.out q5c (by first | exact q6 | omega))
            have XK := X6
            have hqk : w3.heap.size < w6.heap.size := by omega
            have hqq : w.heap.size + 3 ≤ w3.heap.size := by omega
            have nq : ∀ j, (Value.slice B cl.length d).ownBlock = some j → ¬ j = w3.heap.size := fun j hj => by have := HQ.out.1 j hj; omega
            have nq2 : ∀ j, (Value.slice B2 ps.length d2).ownBlock = some j → ¬ j = w3.heap.size := fun j hj => by have := HQ.out.2 j hj; omega
            have np : ∀ j, (Value.slice B2 ps.length d2).ownBlock = some j → ¬ (Value.slice B cl.length d).ownBlock = some j := own_apart HP.out HO.out (fun e => cls_pos e.symm)
            have nb : ∀ j, j < w.heap.size + 3 → ¬ (j = w3.heap.size ∨ (Value.slice B cl.length d).ownBlock = some j) := fun j hj hh => by rcases hh with hh | hh; omega; have := HQ.out.1 j hh; omega
            have nb2 : ∀ j, j < w.heap.size + 3 → ¬ (j = w3.heap.size ∨ (Value.slice B2 ps.length d2).ownBlock = some j) := fun j hj hh => by rcases hh with hh | hh; omega; have := HQ.out.2 j hh; omega
            go_wp2_with fail
            (with_reducible refine (C8.out _ (w.heap.size + 3) (w3.heap.size) d B (.slice B2 ps.length d2) ⟨c3_0, c3_0f, c3_1, c3_1f⟩ HO.out nq (by omega)).mono ?_)
            rintro e v7 ⟨rfl, u3, hB3, ho3, hk3, hx7⟩
            obtain ⟨B3, d3, rfl, _, _⟩ := own_parts2 ho3
            have hz7 := hx7.size
            have p_0 := hx7.has (nb _ (by omega)) c1_0
            have p_1 := hx7.has (nb _ (by omega)) c1_1
            have p_2 := hx7.has (nb _ (by omega)) c1_2
            have p_3 := hx7.has (nb _ (by omega)) c1_3
            have r_0f := hx7.froz (nb _ (by omega)) c2_0 c2_0f
            have r_0 := hx7.has (nb _ (by omega)) c2_0
            have r_1f := hx7.froz (nb _ (by omega)) c2_1 c2_1f
            have r_1 := hx7.has (nb _ (by omega)) c2_1
            have HP7 := Lib.hid (show OwnPos _ _ _ _ _ from own_but_set HP.out hx7 nq2 np)
            have X7 := Lib.hid (ext_but XK.out hx7 (fun j hj => by rcases hj with hj | hj; omega; have := HQ.out.1 j hj; omega))
            have nq3 : ∀ j, (Value.slice B3 L3.length d3).ownBlock = some j → ¬ j = w3.heap.size := fun j hj => by rcases hk3 j hj with hh | hh; exact nq j hh; omega
            have H3 := Lib.hid ho3
            have HB3 := Lib.hid hB3
            have b_1 := hB3.c1
            clear ho3 hk3 hx7 hB3 HP HO c3_0 c3_0f c3_1 c3_1f c1_0 c1_1 c1_2 c1_3 c2_0 c2_1 c2_0f c2_1f c6_0 c6_1
            go_wp2_with fail
            refine wp_region_held_drew (S := fun w' => w'.cell? ⟨w.heap.size + 1, 0, none⟩ = some (.int .i64 V) ∧ w'.cell? ⟨w.heap.size + 1, 1, none⟩ = some (.int .i64 S) ∧ w'.cell? ⟨w.heap.size + 1, 2, none⟩ = some (.int .i64 P) ∧ w'.cell? ⟨w.heap.size + 1, 3, none⟩ = some (.int .i64 Q)) (by kernel_rfl) (by exact ⟨p_0, p_1, p_2, p_3⟩) (fun hHeld => ?_)
            refine' zt 0 ?_
            refine' zt 1 ?_
            refine' zt 2 ?_
            refine' zt 3 ?_
            refine' zt 5 ?_
            refine' zn 4 (fun K hK => ?_)
            go_simp
            (with_reducible refine (C9.out _ (w3.heap.size) d2 B2 (OwnPos.sl (OwnPos.ext HP7.out (Ext.drew (Ext.refl _)))) (Ext.has (Ext.drew (Ext.refl _)) b_1)).mono ?_)
            rintro e v8 ⟨rfl, hx8d⟩
            have hx8 := Ext.trans (Ext.drew (Ext.refl v7)) hx8d
            clear hx8d
            have hz8 := hx8.size
            replace p_0 := hx8.has p_0
            replace p_1 := hx8.has p_1
            replace p_2 := hx8.has p_2
            replace p_3 := hx8.has p_3
            replace r_0f := hx8.froz r_0 r_0f
            replace r_0 := hx8.has r_0
            replace r_1f := hx8.froz r_1 r_1f
            replace r_1 := hx8.has r_1
            have HP8 := Lib.hid (show OwnPos _ _ _ _ _ from own_keep HP7.out hx8)
            have H4 := Lib.hid (own_keep H3.out hx8)
            have HB8 := Lib.hid (HB3.out.ext hx8)
            have X8 := Lib.hid (Ext.trans X7.out hx8)
            clear b_1 hx8 HP7 H3 HB3 X7
            refine hK.out _ _ ((by exact ⟨p_0, p_1, p_2, p_3⟩)) (fun hHeld => ?_); clear hK K; try simp only [Act.put, List.setIfInBounds_toArray, List.set_cons_zero, List.set_cons_succ]
            refine' zt 6 ?_
            refine' zn 7 (fun K hK => ?_)
            go_simp
            (with_reducible refine (C10.out _ (w.heap.size + 3) (w3.heap.size) d2 B2 (.slice B3 L3.length d3) HJ2.out.2.2 HB8.out HP8.out nq2 (by omega)).mono ?_)
            rintro e v9 ⟨rfl, u4, hB4, ho4, hk4, hx9⟩
            obtain ⟨B4, d4, rfl, _, _⟩ := own_parts2 ho4
            have hz9 := hx9.size
            have p9_0 := hx9.has (nb2 _ (by omega)) p_0
            have p9_1 := hx9.has (nb2 _ (by omega)) p_1
            have p9_2 := hx9.has (nb2 _ (by omega)) p_2
            have p9_3 := hx9.has (nb2 _ (by omega)) p_3
            have r9_0f := hx9.froz (nb2 _ (by omega)) r_0 r_0f
            have r9_0 := hx9.has (nb2 _ (by omega)) r_0
            have r9_1f := hx9.froz (nb2 _ (by omega)) r_1 r_1f
            have r9_1 := hx9.has (nb2 _ (by omega)) r_1
            have H5 := Lib.hid (own_but_set H4.out hx9 nq3 (own_apart H4.out HP8.out cls_pos))
            have X9 := Lib.hid (ext_but X8.out hx9 (fun j hj => by rcases hj with hj | hj; omega; have := HQ.out.2 j hj; omega))
            have H6 := Lib.hid ho4
            have b_0 := hB4.c0
            have b_1 := hB4.c1
            clear ho4 hk4 hx9 hB4 HB8 HP8 H4 X8 p_0 p_1 p_2 p_3 r_0 r_1 r_0f r_1f
            refine hK.out _ _ ((by exact ⟨p9_0, p9_1, p9_2, p9_3⟩)) (fun hHeld => ?_); clear hK K; try simp only [Act.put, List.setIfInBounds_toArray, List.set_cons_zero, List.set_cons_succ]
            refine wpAnyH_done (by kernel_rfl) ?_ _
            go_wp2_with fail
            obtain rfl : R = (L3, L4, JN, 0) := HR.out.trans (HE0.out HX0.out)
            refine bodyPost_ret (v := .tuple #[.agg #[.slice B3 L3.length d3, .slice B4 L4.length d4], .int .u64 JN, .int .i64 0]) (by simp [results, Tryz.results67, go_sem, World.cell?_alloc_past, r9_0, r9_1, r9_0f, r9_1f, b_0, b_1]; try rfl) rfl ⟨_, rfl, holdS_of (b := (w.heap.size + 3)) (by omega) (show World.ownsRow _ (w.heap.size + 3) _ _ _ _ _ from by repeat (first | with_reducible refine own_box ?_ (by omega) | with_reducible refine World.ownsRow.drew ?_ | exact H5.out)) (show World.ownsRow _ (w.heap.size + 3) _ _ _ _ _ from by repeat (first | with_reducible refine own_box ?_ (by omega) | with_reducible refine World.ownsRow.drew ?_ | exact H6.out)) (by repeat (first | with_reducible exact X9.out | with_reducible refine Ext.drew ?_ | with_reducible refine Ext.setCell ?_ (by first | omega | (simp; done) | (simp; omega)) _))⟩
end
end Go.Proofs.YtkinchgjidpjnaaGreat
