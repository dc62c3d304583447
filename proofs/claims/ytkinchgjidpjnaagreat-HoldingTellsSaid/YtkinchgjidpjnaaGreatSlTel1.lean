/- Tel, part 1 of 2: Open, Rec, FixRef, FixDivide, FixRefF, Rec4, ListCls, ListPos, Ref12C, ShareRef, Hr0, Hr1, Hr2, Hr3, Cod, AppO, Hr4, Hr5, Hr8, Ht2. Conditions stand in each lemma. -/
import Derived.WalkKit
import Derived.Deep.QuietTactic
import Derived.Deep.Draws
import Derived.Lib.Hide
import Derived.Laws.OwnMore
import Derived.Laws.AppendOwn
import Derived.OwnWalk
import Derived.RangeFuncBox
import Derived.RangeFuncLeaves
import Derived.Shelf.Abstract
import Derived.OwnWalkIn
import Derived.TacticsInMore
import Derived.LoopNIn
import Derived.LoopIn
import Derived.Maps.AppendAt
import Derived.Test.YtkinchgjidpjnaaGreatRows
import Derived.Deep.Onto
import Derived.ProofKit
import Derived.ChangeOld
import Derived.OpenShut
import Derived.Deep.Slices
import Derived.BigQuiet
import Derived.IntWalk
import Derived.Lib.SliceRun
import Derived.Deep.LoopGhost
import Derived.WalkSpells
import Derived.WalkLawsBesides
import Derived.Lib.SmallJoins
import Derived.Deep.RegionHeld3
import Derived.Test.YtkinchgjidpjnaaGreatShelf
import Derived.Test.YtkinchgjidpjnaaGreatDivNorm
import Derived.Deep.DeepCutAuto
import Derived.Deep.CutBlock
import Derived.Shelf.Spec.BitsCarry
import Derived.Test.YtkinchgjidpjnaaGreatFixRefMath
import Derived.Test.YtkinchgjidpjnaaGreatFixDivideMath
import Derived.Handy
import Derived.ArgAppend
import Derived.Laws.CopyRow
import Derived.Lib.AppendZerosOnto
import Derived.Laws.Externs
import Derived.Lib.Overlaps
import Derived.Shelf.RegionOpenPlain
import Derived.Lib.AppendZeros
import Derived.WalkMore
import Derived.Laws.IdiomCopy
import Derived.Laws.StructEq
import Derived.RangeFuncNested
import Derived.Test.YtkinchgjidpjnaaGreatSlBas6
set_option linter.unusedVariables false
set_option linter.unusedSimpArgs false
namespace Go.Proofs.YtkinchgjidpjnaaGreat
section
open Go.RowKit Go.ChangeShapes Go.WideShapes
theorem zSlTel1_0 {P : Prop} (h : P := by repeat (first | assumption | exact Ext.refl _ | refine Ext.drew ?_ | refine Ext.drewN ?_ _ | refine Ext.alloc ?_ _ | refine Ext.setCell ?_ (by first | omega | (simp; done) | (simp; omega)) _ | refine Ext.trans ?_ (by assumption))) : P := h
theorem zSlTel1_1 {P : Prop} (h : P := by first | fail | (simp [go_sem, World.cell?_alloc_past]; done)) : P := h
theorem zSlTel1_2 {P : Prop} (h : P := by repeat (first | with_reducible exact XU.out | with_reducible refine Ext.drew ?_ | with_reducible refine Ext.setCell ?_ (by first | omega | (simp; done) | (simp; omega)) _)) : P := h
theorem zSlTel1_3 {P : Prop} (h : P := by rw [clsGo_at HI.out HX.out.1 (v := EP) ((clsOne_pool (c := (xv, xs, xp, xf, xt, xh)) (show chkS xv xs xp xf = 0 from by rw [← HX.out.2.1]; omega) HP.out (show chkE xt xh ≠ 0 from by rw [← HX.out.2.2]; exact q5)).trans HX.out.2.2.symm) (by first | decide | assumption)]; first | decide | assumption) : P := h
theorem zSlTel1_4 {P : Prop} (h : P := by rw [clsGo_at HI.out HX.out.1 (v := 11) (clsOne_state (show chkS xv xs xp xf = 0 from by rw [← HX.out.2.1]; omega) HP.out (show chkE xt xh = 0 from by rw [← HX.out.2.2]; omega) ⟨q6a, q6b⟩) (by first | decide | assumption)]; first | decide | assumption) : P := h
theorem fits_of {k : IntKind} {x : Int} (h : (Lit.int k x).wf = true) : Fits k x := h
section
variable {H : Type} {enc : TypeId × Value → H} {P : Program} {w : World} {base : Nat} {spare : Nat → Bool} {held : Bool}
/-- a slice that came in, its cells, and how each element reads -/
theorem open_raw {t e : TypeId} {sz fuel n c : Nat} {A : Option Addr} {x : DataW H × List MemPlace} (ht : P.underlying t = some (.slice e)) (hsz : P.cellsOf e = sz) (hpos : 0 < sz)
    (h : DataW.trod enc P w base spare held fuel t [.slice A n c] = some x) :
    ∃ xs : List Value, Sl w sz A n c xs ∧ ∀ i, i < n → ∃ m y, DataW.trod enc P w base spare held m e ((xs.drop (i * sz)).take sz) = some y := by
  rcases Go.Deep.open_slice ht h with ⟨h0, _⟩ | ⟨a, len, cap, m, n', D, Pl, hcs, _, hl, hm, hmm, _, hi⟩
  · simp at h0
    obtain ⟨rfl, rfl, rfl⟩ := h0
    exact ⟨[], Sl.nil _ _, fun i hi => absurd hi (by omega)⟩
  · simp at hcs
    obtain ⟨rfl, rfl, rfl⟩ := hcs
    subst hsz
    have hnm : n ≤ m := by rw [hmm]; split <;> omega
    -- the cells, one by one
    have hcell : ∀ i, i < n → ∀ j, j < P.cellsOf e → ∃ v, w.cell? (a.add (i * P.cellsOf e + j)) = some v := by
      intro i hin j hj
      obtain ⟨cs', hc, ht'⟩ := hi i (by omega)
      obtain ⟨_, hcl, hat⟩ := World.cells?_some hc
      refine ⟨cs'[j]'(by omega), ?_⟩
      have := hat j hj
      rw [Go.Deep.add_add] at this
      rw [this, List.getElem?_eq_getElem (by omega)]
    obtain ⟨b, o, spot⟩ := a
    rcases Nat.eq_zero_or_pos n with hn0 | hnp
    · subst hn0
      exact ⟨[], ⟨by simp, by omega, hm, fun h => absurd h (by omega)⟩, fun i hi => absurd hi (by omega)⟩
    · have hspot : spot = none := by
        obtain ⟨v, hv⟩ := hcell 0 hnp 0 hpos
        simpa [Addr.add] using World.cell?_spot hv
      subst hspot
      let f : Nat → Value := fun j => (w.cell? ⟨b, o + j, none⟩).getD undef
      have hf : ∀ j, j < n * P.cellsOf e → w.cell? ⟨b, o + j, none⟩ = some (f j) := by
        intro j hj
        have h1 : j / P.cellsOf e < n := by rw [Nat.div_lt_iff_lt_mul hpos]; exact hj
        obtain ⟨v, hv⟩ := hcell (j / P.cellsOf e) h1 (j % P.cellsOf e) (Nat.mod_lt _ hpos)
        rw [Nat.div_add_mod', addr_add] at hv
        show _ = some ((w.cell? ⟨b, o + j, none⟩).getD undef)
        rw [hv]; rfl
      have hb : b < w.heap.size := by
        have h1 := hf 0 (by exact Nat.mul_pos hnp hpos)
        unfold World.cell? at h1
        rcases hx : w.heap[b]? with _ | ob
        · simp [hx] at h1
        · exact (Array.getElem?_eq_some_iff.1 hx).1
      refine ⟨(List.range (n * P.cellsOf e)).map f, ⟨by simp, by omega, hm, fun _ => ⟨b, o, rfl, hb, fun j u hu => ?_⟩⟩, fun i hin => ?_⟩
      · rw [List.getElem?_map] at hu
        rcases Nat.lt_or_ge j (n * P.cellsOf e) with hj | hj
        · rw [List.getElem?_range hj] at hu
          simp at hu
          rw [hf j hj, hu]
        · rw [List.getElem?_eq_none (by simpa using hj)] at hu
          simp at hu
      · obtain ⟨cs', hc, ht'⟩ := hi i (by omega)
        obtain ⟨_, hcl, hat⟩ := World.cells?_some hc
        have e1 : (((List.range (n * P.cellsOf e)).map f).drop (i * P.cellsOf e)).take (P.cellsOf e) = cs' := by
          apply List.ext_getElem?
          intro j
          rw [List.getElem?_take]
          have hle : (i + 1) * P.cellsOf e ≤ n * P.cellsOf e := Nat.mul_le_mul_right _ hin
          rw [Nat.add_mul, Nat.one_mul] at hle
          split
          · rename_i hj
            rw [List.getElem?_drop, List.getElem?_map, List.getElem?_range (by omega)]
            have h2 := hat j hj
            rw [Go.Deep.add_add, addr_add] at h2
            rw [← h2, hf _ (by omega)]
            rfl
          · rename_i hj
            rw [List.getElem?_eq_none (by omega)]
        exact ⟨n', (D i, Pl i), by rw [e1]; exact ht'⟩
end
end
section
open Go.RowKit Go.ChangeShapes Go.WideShapes Go.Deep Go.Joins
theorem chunks {α : Type} {f : α → List Value} {sz : Nat} (hpos : 0 < sz) {Good : α → Prop} : ∀ (n : Nat) (xs : List Value), xs.length = n * sz →
    (∀ i, i < n → ∃ x, (xs.drop (i * sz)).take sz = f x ∧ Good x) → ∃ l : List α, l.length = n ∧ l.flatMap f = xs ∧ ∀ x ∈ l, Good x
  | 0, xs, hl, _ => ⟨[], rfl, by rw [Nat.zero_mul] at hl; rw [List.eq_nil_of_length_eq_zero hl]; rfl, by simp⟩
  | n + 1, xs, hl, h => by
    obtain ⟨x, hx, gx⟩ := h 0 (by omega)
    rw [Nat.zero_mul, List.drop_zero] at hx
    obtain ⟨l, h1, h2, h3⟩ := chunks hpos n (xs.drop sz) (by rw [List.length_drop, hl, Nat.add_mul, Nat.one_mul]; omega) fun i hi => by
      obtain ⟨y, hy, gy⟩ := h (i + 1) (by omega)
      exact ⟨y, by rw [List.drop_drop]; rw [Nat.add_mul, Nat.one_mul, Nat.add_comm] at hy; exact hy, gy⟩
    exact ⟨x :: l, by simp [h1], by rw [List.flatMap_cons, h2, ← hx, List.take_append_drop], fun z hz => by
      rcases List.mem_cons.1 hz with rfl | hz
      · exact gx
      · exact h3 z hz⟩

section
variable {H : Type} {enc : TypeId × Value → H} {P : Program} {w : World} {base : Nat} {spare : Nat → Bool} {held : Bool}
/-- a slice of records that came in -/
theorem open_rec {α : Type} {f : α → List Value} {Good : α → Prop} {t e : TypeId} {sz n c : Nat} {A : Option Addr} {d : DataW H} {p : List MemPlace} (ht : P.underlying t = some (.slice e)) (hc : P.cellsOf e = sz) (hpos : 0 < sz)
    (hel : ∀ cs m y, DataW.trod enc P w base spare held m e cs = some y → cs.length = sz → ∃ x : α, cs = f x ∧ Good x)
    (h : DataW.Trod enc P w base spare held t (.slice A n c) d p) : ∃ l : List α, Sl w sz A n c (l.flatMap f) ∧ l.length = n ∧ ∀ x ∈ l, Good x := by
  obtain ⟨fuel, hf⟩ := h
  obtain ⟨xs, hs, hr⟩ := open_raw ht hc hpos (by simpa [Value.cells] using hf)
  have hlen := hs.len
  obtain ⟨l, h1, h2, h3⟩ := chunks (f := f) (Good := Good) hpos n xs hlen fun i hi => by
    obtain ⟨m, y, hy⟩ := hr i hi
    have hle : (i + 1) * sz ≤ n * sz := Nat.mul_le_mul_right _ hi
    rw [Nat.add_mul, Nat.one_mul] at hle
    exact hel _ m y hy (by rw [List.length_take, List.length_drop]; omega)
  exact ⟨l, by rw [h2]; exact hs, h1, h3⟩
/-- a record of two numbers -/
theorem rec2 {t : TypeId} {k0 k1 : IntKind} {f0 f1 : Field} {cs : List Value} {m : Nat} {y : DataW H × List MemPlace} (ht : P.underlying t = some (.struct #[f0, f1])) (hone : oneCellFields P #[f0, f1] = true)
    (h0 : P.underlying f0.type = some (.int k0)) (h1 : P.underlying f1.type = some (.int k1))
    (h : DataW.trod enc P w base spare held m t cs = some y) (hl : cs.length = 2) : ∃ x : Int × Int, cs = [.int k0 x.1, .int k1 x.2] ∧ Fits k0 x.1 ∧ Fits k1 x.2 := by
  obtain ⟨y0, y1, m', _, _, g0, g1⟩ := trod_struct2 ht h
  obtain ⟨o0, c0⟩ := hone_of hone 0 f0 rfl
  obtain ⟨o1, c1⟩ := hone_of hone 1 f1 rfl
  match cs, hl with
  | [v0, v1], _ =>
    rw [o0, c0] at g0
    rw [o1, c1] at g1
    obtain ⟨a, ha, _, wa⟩ := DataW.trod_int h0 g0
    obtain ⟨b, hb, _, wb⟩ := DataW.trod_int h1 g1
    simp at ha hb
    subst ha; subst hb
    exact ⟨(a, b), rfl, wa, wb⟩
end
end
section
open Go.RowKit RefMath
set_option maxRecDepth 100000 in
set_option maxHeartbeats 400000 in
theorem rWide_nat (a b : Nat) (ha : a < 18446744073709551616) (hb : b < 18446744073709551616) (A B : Int) (hA : A = a) (hB : B = b) (w : World) :
    Calls Tryz.prog 214 #[.int .u64 A, .int .u64 B] w fun e w' => e = .returned (.tuple #[.int .u64 (hiN A B), .int .u64 (loN A B)]) ∧ w = w' := by
  have V0 := Lib.hid (WInv.start ha hb)
  have ha' : A < 18446744073709551616 := by omega
  have hb' : B < 18446744073709551616 := by omega
  have a0 : 0 ≤ A := by omega
  have b0 : 0 ≤ B := by omega
  have HA := Lib.hid hA
  have HB := Lib.hid hB
  clear ha hb hA hB
  go_enter Tryz.func214, Tryz.ntmps214
  go_wp2
  go_loopg [6, 7, 8] 64 (fun n h l i wx => ∃ (h' l' : Nat) (H L : Int), Hid (WInv a b n h' l' ∧ H = h' ∧ L = l') ∧ n ≤ 64 ∧ 0 ≤ H ∧ 0 ≤ L ∧ h = .int .u64 H ∧ l = .int .u64 L ∧ Hid (i = .int .i64 ((n : Int) - 1)) ∧ wx = w)
  case atStart => exact ⟨0, 0, 0, 0, ⟨V0, rfl, rfl⟩, by decide, by decide, by decide, rfl, rfl, rfl, rfl⟩
  case round =>
    obtain ⟨h, l, H, L, V, hn, h0, l0, rfl, rfl, hi, rfl⟩ := hrel
    rcases gk with _ | i
    · obtain rfl := (hi.out : u8 = .int .i64 (-1))
      clear hi
      go_wp2
      go_ret2
      have h1 : (H * 18446744073709551616 + L) = A * B := by
        have := V.out.1.sum
        simp at this
        rw [V.out.2.1, V.out.2.2, HA.out, HB.out, ← Int.natCast_mul]
        omega
      have h2 : L < 18446744073709551616 := by have := V.out.1.hl; have := V.out.2.2; omega
      exact ⟨ret_two (by unfold hiN; omega) (by unfold loN; omega), rfl⟩
    · obtain rfl : u8 = .int .i64 (i : Int) := by rw [hi.out]; exact num_eq (by omega)
      clear hi
      obtain ⟨v, v1, v2⟩ := V.out
      have V := Lib.hid v
      have V1 := Lib.hid v1
      have V2 := Lib.hid v2
      have hh' : 2 * H + L / 9223372036854775808 < 18446744073709551616 := by have := v.step.2; omega
      have hl : L < 18446744073709551616 := by have := v.hl; omega
      have m1 : min i 64 = i := by omega
      have hb1 := Nat.mod_two_eq_zero_or_one (a / 2 ^ i)
      obtain ⟨sh, hsh⟩ : ∃ sh, sh = a / 2 ^ i := ⟨_, rfl⟩
      obtain ⟨S, hS⟩ : ∃ S : Int, S = sh := ⟨_, rfl⟩
      have esh : A / 2 ^ i = S := by rw [hS, hsh, HA.out]; simp
      have s0 : 0 ≤ S := by omega
      obtain ⟨l2, hl2⟩ : ∃ l2, l2 = 2 * l % 18446744073709551616 := ⟨_, rfl⟩
      obtain ⟨L2, hL2⟩ : ∃ L2 : Int, L2 = l2 := ⟨_, rfl⟩
      have es : IntKind.u64.wrap (2 * L) = L2 := by rw [IntKind.wrap_u64, hL2, hl2]; omega
      have hl3 : L2 < 18446744073709551616 := by omega
      have hl4 : 0 ≤ L2 := by omega
      have Z := fun hbit => v.zero hbit
      have O := fun hbit ho => v.one hbit ho
      have R := fun hbit ho => v.over hbit ho
      rw [← hsh] at hb1 Z O R
      rw [← hl2] at Z O R
      rcases hb1 with hbit | hbit
      · have hbit' : S % 2 = 0 := by omega
        have N := Lib.hid (Z hbit)
        have HL2 := Lib.hid hL2
        clear hbit v v1 v2 Z O R hl2 hsh hL2 hS
        go_wp2
        go_roundg i
        case measure => omega
        case rel => exact ⟨_, _, _, _, ⟨N, rfl, rfl⟩, by omega, by omega, by omega, num_eq (by have := V1.out; have := V2.out; omega), num_eq HL2.out, num_eq (by omega), rfl⟩
      · have hbit' : S % 2 = 1 := by omega
        by_cases ho : L2 + B < 18446744073709551616
        · have N := Lib.hid (O hbit (by have := HB.out; omega))
          have HL2 := Lib.hid hL2
          clear hbit v v1 v2 Z O R hl2 hsh hL2 hS
          go_wp2
          go_roundg i
          case measure => omega
          case rel => exact ⟨_, _, _, _, ⟨N, rfl, rfl⟩, by omega, by omega, by omega, num_eq (by have := V1.out; have := V2.out; omega), num_eq (by have := HL2.out; have := HB.out; omega), num_eq (by omega), rfl⟩
        · obtain ⟨N1, N2⟩ := R hbit (by have := HB.out; omega)
          have N := Lib.hid N1
          have HL2 := Lib.hid hL2
          have hw : IntKind.u64.wrap (L2 + B) = L2 + B - 18446744073709551616 := by rw [IntKind.wrap_u64]; omega
          have N3 : 2 * H + L / 9223372036854775808 + 1 < 18446744073709551616 := by omega
          have ho' : 18446744073709551616 ≤ L2 + B := by omega
          clear hbit N1 N2 v v1 v2 Z O R hl2 hsh hL2 hS ho
          go_wp2
          go_roundg i
          case measure => omega
          case rel => exact ⟨_, _, _, _, ⟨N, rfl, rfl⟩, by omega, by omega, by omega, num_eq (by have := V1.out; have := V2.out; omega), num_eq (by have := HL2.out; have := HB.out; omega), num_eq (by omega), rfl⟩

/-- the reference's Wide is the product's words; the world stays -/
theorem rWide_any (a b : Int) (ha : Word a) (hb : Word b) (w : World) :
    Calls Tryz.prog 214 #[.int .u64 a, .int .u64 b] w fun e w' => e = .returned (.tuple #[.int .u64 (hiN a b), .int .u64 (loN a b)]) ∧ w = w' := by
  obtain ⟨a', ea⟩ := Int.eq_ofNat_of_zero_le ha.1
  obtain ⟨b', eb⟩ := Int.eq_ofNat_of_zero_le hb.1
  exact rWide_nat a' b' (by have := ha.2; omega) (by have := hb.2; omega) a b ea eb w
end
section
open Go.RowKit RefMath
set_option maxRecDepth 100000 in
set_option maxHeartbeats 4000000 in
theorem rDivide_nat (p c : Nat) (A B C : Int) (ha : Word A) (hb : Word B) (hC : C = c) (hc0 : 0 < C) (hc1 : C < 18446744073709551616) (hP : (p : Int) = A * B) (w : World) :
    Calls Tryz.prog 205 #[.int .u64 A, .int .u64 B, .int .u64 C] w fun e w' =>
      e = .returned (.tuple #[.int .u64 (A * B / C % 18446744073709551616), .bool (decide (18446744073709551616 ≤ A * B / C)), .int .u64 (A * B % C)]) ∧ w = w' := by
  have hp2 := prod_bounds ha hb
  obtain ⟨hh, ehh⟩ : ∃ x : Nat, (x : Int) = hiN A B := ⟨(hiN A B).toNat, by have := (word_hi ha hb).1; omega⟩
  obtain ⟨ll, ell⟩ : ∃ x : Nat, (x : Int) = loN A B := ⟨(loN A B).toNat, by have := (word_lo A B).1; omega⟩
  have hw1 := word_hi ha hb
  have hw2 := word_lo A B
  have esum : p = hh * 18446744073709551616 + ll := by have := hi_lo A B; omega
  have V0 := Lib.hid (DI.start p c (by omega) (by omega))
  have hll : ll < 18446744073709551616 := by have := hw2.2; omega
  have HS := Lib.hid (And.intro esum hll)
  have HC := Lib.hid (And.intro hC hP)
  obtain ⟨h1, h2⟩ := hw1
  obtain ⟨l1, l2⟩ := hw2
  have HH := Lib.hid ehh
  have HL := Lib.hid ell
  have HB := Lib.hid (And.intro ha hb)
  clear hp2 esum hll hC hP ehh ell
  go_enter Tryz.func205, Tryz.ntmps205
  go_wp2_with (go_at_call 214; refine (rWide_any A B HB.out.1 HB.out.2 _).mono ?_; rintro e w' ⟨rfl, rfl⟩)
  obtain ⟨hi, ehi⟩ : ∃ x, x = hiN A B := ⟨_, rfl⟩
  obtain ⟨lo, elo⟩ : ∃ x, x = loN A B := ⟨_, rfl⟩
  go_loopg [11, 12, 13, 14] 128 (fun n q o l i wx => ∃ (q' l' : Nat) (Q L : Int) (ov : Bool), Hid (DI p c n q' l' ov ∧ Q = q' ∧ L = l') ∧ n ≤ 128 ∧ 0 ≤ Q ∧ 0 ≤ L ∧ q = .int .u64 Q ∧ o = .bool ov ∧ l = .int .u64 L ∧ Hid (i = .int .i64 ((n : Int) - 1)) ∧ wx = w)
  case atStart => exact ⟨0, 0, 0, 0, false, ⟨V0, rfl, rfl⟩, by decide, by decide, by decide, rfl, rfl, rfl, rfl, rfl⟩
  case round =>
    obtain ⟨q, l, Q, L, ov, V, hn, q0, l0, rfl, rfl, rfl, hi, rfl⟩ := hrel
    rcases gk with _ | i
    · obtain rfl := (hi.out : u14 = .int .i64 (-1))
      clear hi
      go_wp2
      go_ret3
      obtain ⟨d1, d2, d3⟩ := V.out.1.done
      have x1 := V.out.2.1
      have x2 := V.out.2.2
      obtain ⟨y1, y2⟩ := HC.out
      have e1 : Q = A * B / C % 18446744073709551616 := by rw [← y2, y1, x1, d1]; simp
      have e2 : L = A * B % C := by rw [← y2, y1, x2, d2]; simp
      have e3 : ov = decide (18446744073709551616 ≤ A * B / C) := by
        rw [← y2, y1, d3]; rw [Bool.eq_iff_iff]; simp only [decide_eq_true_eq]
        rw [← Int.natCast_ediv]; omega
      exact ⟨by rw [e1, e2, e3]; rfl, rfl⟩
    · obtain rfl : u14 = .int .i64 (i : Int) := by rw [hi.out]; exact num_eq (by omega)
      clear hi
      obtain ⟨v, v1, v2⟩ := V.out
      clear V
      obtain ⟨bn, hbn⟩ : ∃ b, b = p / 2 ^ i % 2 := ⟨_, rfl⟩
      obtain ⟨bit, hbit⟩ : ∃ b : Int, b = bn := ⟨_, rfl⟩
      have b0 : 0 ≤ bit := by omega
      have b1 : bit ≤ 1 := by have := Nat.mod_lt (p / 2 ^ i) (by decide : 2 > 0); omega
      have e64 : min (i % 64) 64 = i % 64 := by omega
      obtain ⟨S1, hS1⟩ : ∃ S, loN A B / 2 ^ (i % 64) = S := ⟨_, rfl⟩
      obtain ⟨S2, hS2⟩ : ∃ S, hiN A B / 2 ^ (i % 64) = S := ⟨_, rfl⟩
      have s1 : 0 ≤ S1 := by rw [← hS1]; exact Int.ediv_nonneg l1 (Int.le_of_lt (Int.pow_pos (by decide)))
      have s2 : 0 ≤ S2 := by rw [← hS2]; exact Int.ediv_nonneg h1 (Int.le_of_lt (Int.pow_pos (by decide)))
      have hcase : (i : Int) ≤ 63 ∧ S1 % 2 = bit ∨ (63 : Int) < i ∧ S2 % 2 = bit := by
        obtain ⟨g1, g2⟩ := HS.out
        by_cases h6 : i < 64
        · left
          refine ⟨by omega, ?_⟩
          have := bit_low hh ll i h6
          rw [← g1, ← hbn] at this
          rw [hbit, this, ← hS1, ← HL.out]
          simp
        · right
          refine ⟨by omega, ?_⟩
          have := bit_high hh ll i (by omega) (by omega) g2
          rw [← g1] at this
          rw [this] at hbn
          rw [hbit, hbn, ← hS2, ← HH.out]
          simp
      have hcl := v.lt
      have hql := v.nlt
      have hC := HC.out.1
      obtain ⟨N2, hN2⟩ : ∃ N2, IntKind.u64.wrap (2 * Q) = N2 := ⟨_, rfl⟩
      have n20 : 0 ≤ N2 ∧ N2 < 18446744073709551615 ∧ N2 = ((2 * q % 18446744073709551616 : Nat) : Int) := by rw [← hN2, IntKind.wrap_u64]; omega
      obtain ⟨n20, n21, n22⟩ := n20
      obtain ⟨Y1, hY1⟩ : ∃ Y1, IntKind.u64.wrap (2 * L) = Y1 := ⟨_, rfl⟩
      have hov : ∃ ov2 : Bool, ov2 = (ov || decide (q / 9223372036854775808 = 1)) ∧ (ov = true ∧ ov2 = true ∨ ov = false ∧ Q / 9223372036854775808 = 1 ∧ ov2 = true ∨ ov = false ∧ Q / 9223372036854775808 = 0 ∧ ov2 = false) := by
        refine ⟨_, rfl, ?_⟩
        cases ov
        · by_cases hq : q / 9223372036854775808 = 1
          · right; left; exact ⟨rfl, by omega, by simp [hq]⟩
          · right; right; exact ⟨rfl, by omega, by simp [hq]⟩
        · left; simp
      obtain ⟨ov2, hov2, hov⟩ := hov
      have hlow := v.low
      have hhigh := v.high
      rw [← hbn, ← hov2] at hlow hhigh
      have hT : (L / 9223372036854775808 = 0 ∧ Y1 = 2 * L ∧ Y1 + bit < 18446744073709551616 ∧ Y1 + bit < C ∧ Hid (DI p c i (2 * q % 18446744073709551616) (2 * l + bn) ov2)) ∨
          (L / 9223372036854775808 = 0 ∧ Y1 = 2 * L ∧ Y1 + bit < 18446744073709551616 ∧ C ≤ Y1 + bit ∧ Hid (DI p c i (2 * q % 18446744073709551616 + 1) (2 * l + bn - c) ov2)) ∨
          (L / 9223372036854775808 = 1 ∧ 0 ≤ Y1 ∧ Y1 + bit < 18446744073709551616 ∧ IntKind.u64.wrap (Y1 + bit - C) = 2 * L + bit - C ∧ Hid (DI p c i (2 * q % 18446744073709551616 + 1) (2 * l + bn - c) ov2)) := by
        rw [IntKind.wrap_u64] at hY1 ⊢
        by_cases t1 : 2 * l + bn < c
        · left; exact ⟨by omega, by omega, by omega, by omega, hlow t1⟩
        · right
          by_cases t2 : 2 * L < 18446744073709551616
          · left; exact ⟨by omega, by omega, by omega, by omega, hhigh (by omega)⟩
          · right; exact ⟨by omega, by omega, by omega, by omega, hhigh (by omega)⟩
      have X := Lib.hid (And.intro hC (And.intro hbit (And.intro v1 (And.intro v2 n22))))
      have L0 : L < 18446744073709551616 := by omega
      clear hlow hhigh hov2 hbn v hcl hql hC hbit v1 v2 n22
      rcases hT with ⟨t1, t2, t3, t4, N⟩ | ⟨t1, t2, t3, t4, N⟩ | ⟨t1, t2, t3, t4, N⟩
      · subst t2
        have t5 : 2 * L + bit < 18446744073709551616 := by omega
        rcases hov with ⟨rfl, rfl⟩ | ⟨rfl, o1, rfl⟩ | ⟨rfl, o1, rfl⟩ <;> rcases hcase with ⟨i1, i2⟩ | ⟨i1, i2⟩
        all_goals
          go_wp2
          go_roundg i
          case measure => omega
          case rel => exact ⟨_, _, _, _, _, ⟨N, rfl, rfl⟩, by omega, by omega, by omega, num_eq (by have := X.out; omega), rfl, num_eq (by have := X.out; omega), num_eq (by omega), rfl⟩
      · subst t2
        rcases hov with ⟨rfl, rfl⟩ | ⟨rfl, o1, rfl⟩ | ⟨rfl, o1, rfl⟩ <;> rcases hcase with ⟨i1, i2⟩ | ⟨i1, i2⟩
        all_goals
          go_wp2
          go_roundg i
          case measure => omega
          case rel => exact ⟨_, _, _, _, _, ⟨N, rfl, rfl⟩, by omega, by omega, by omega, num_eq (by have := X.out; omega), rfl, num_eq (by have := X.out; omega), num_eq (by omega), rfl⟩
      · rcases hov with ⟨rfl, rfl⟩ | ⟨rfl, o1, rfl⟩ | ⟨rfl, o1, rfl⟩ <;> rcases hcase with ⟨i1, i2⟩ | ⟨i1, i2⟩
        all_goals
          go_wp2
          go_roundg i
          case measure => omega
          case rel => exact ⟨_, _, _, _, _, ⟨N, rfl, rfl⟩, by omega, by omega, by omega, num_eq (by have := X.out; omega), rfl, num_eq (by have := X.out; omega), num_eq (by omega), rfl⟩
end
section
open Go.RowKit RefMath
def dqN (a b c : Int) : Int := a * b / c % 18446744073709551616
def dqO (a b c : Int) : Bool := decide (18446744073709551616 ≤ a * b / c)
theorem rDivide_any (a b c : Int) (ha : Word a) (hb : Word b) (hc : Word c) (hz : c ≠ 0) (w : World) :
    Calls Tryz.prog 205 #[.int .u64 a, .int .u64 b, .int .u64 c] w fun e w' =>
      e = .returned (.tuple #[.int .u64 (dqN a b c), .bool (dqO a b c), .int .u64 (a * b % c)]) ∧ w = w' := by
  obtain ⟨h1, h2⟩ := prod_bounds ha hb
  exact rDivide_nat (a * b).toNat c.toNat a b c ha hb (by have := hc.1; omega) (by have := hc.1; omega) hc.2 (by omega) w

theorem rAdd_any (a b : Int) (ha : Word a) (hb : Word b) (w : World) :
    Calls Tryz.prog 152 #[.int .u64 a, .int .u64 b] w fun e w' => e = .returned (.tuple #[.int .u64 (addN a b), .int .i64 (addE a b)]) ∧ w = w' := by
  obtain ⟨a1, a2⟩ := ha
  obtain ⟨b1, b2⟩ := hb
  by_cases h : a + b < 18446744073709551616
  · have e1 : addN a b = a + b := if_pos h
    have e2 : addE a b = 0 := if_pos h
    rw [e1, e2]
    clear e1 e2
    have h' : ¬ 18446744073709551615 - b < a := by omega
    go_enter Tryz.func152, Tryz.ntmps152
    go_wp2
    go_ret2
    exact ⟨rfl, rfl⟩
  · have e1 : addN a b = 0 := if_neg h
    have e2 : addE a b = 12 := if_neg h
    rw [e1, e2]
    clear e1 e2
    have h' : 18446744073709551615 - b < a := by omega
    go_enter Tryz.func152, Tryz.ntmps152
    go_wp2
    go_ret2
    exact ⟨rfl, rfl⟩
theorem rMulDiv_any (a b c : Int) (ha : Word a) (hb : Word b) (hc : Word c) (w : World) :
    Calls Tryz.prog 191 #[.int .u64 a, .int .u64 b, .int .u64 c] w fun e w' => e = .returned (.tuple #[.int .u64 (mdN a b c), .int .i64 (mdE a b c)]) ∧ w = w' := by
  by_cases hz : c = 0
  · subst hz
    go_enter Tryz.func191, Tryz.ntmps191
    go_wp2
    go_ret2
    exact ⟨rfl, rfl⟩
  · have W := rDivide_any a b c ha hb hc hz w
    have q0 : 0 ≤ a * b / c := Int.ediv_nonneg (prod_bounds ha hb).1 hc.1
    have hz' : (c == 0) = false := by simpa using hz
    by_cases h : a * b / c < 18446744073709551616
    · have e1 : mdN a b c = dqN a b c := by unfold mdN dqN; rw [if_neg hz, if_pos h]; omega
      have e2 : mdE a b c = 0 := by unfold mdE; rw [if_neg hz, if_pos h]
      have e3 : dqO a b c = false := by unfold dqO; simp; omega
      rw [e1, e2]
      rw [e3] at W
      have H := Lib.hid W
      clear W e1 e2 e3 h hz q0
      go_enter Tryz.func191, Tryz.ntmps191
      go_wp2_with (go_at_call 205; refine H.out.mono ?_; rintro e w' ⟨rfl, rfl⟩)
      go_ret2
      exact ⟨rfl, rfl⟩
    · have e1 : mdN a b c = 0 := by unfold mdN; rw [if_neg hz, if_neg h]
      have e2 : mdE a b c = 12 := by unfold mdE; rw [if_neg hz, if_neg h]
      have e3 : dqO a b c = true := by unfold dqO; simp; omega
      rw [e1, e2]
      rw [e3] at W
      have H := Lib.hid W
      clear W e1 e2 e3 h hz q0
      go_enter Tryz.func191, Tryz.ntmps191
      go_wp2_with (go_at_call 205; refine H.out.mono ?_; rintro e w' ⟨rfl, rfl⟩)
      go_ret2
      exact ⟨rfl, rfl⟩
end
section
open Go.RowKit Go.ChangeShapes Go.WideShapes Go.Deep Go.Joins
section
variable {H : Type} {enc : TypeId × Value → H} {P : Program} {w : World} {base : Nat} {spare : Nat → Bool} {held : Bool}
/-- a record of four numbers -/
theorem rec4 {t : TypeId} {k0 k1 k2 k3 : IntKind} {f0 f1 f2 f3 : Field} {cs : List Value} {m : Nat} {y : DataW H × List MemPlace} (ht : P.underlying t = some (.struct #[f0, f1, f2, f3])) (hone : oneCellFields P #[f0, f1, f2, f3] = true)
    (h0 : P.underlying f0.type = some (.int k0)) (h1 : P.underlying f1.type = some (.int k1)) (h2 : P.underlying f2.type = some (.int k2)) (h3 : P.underlying f3.type = some (.int k3))
    (h : DataW.trod enc P w base spare held m t cs = some y) (hl : cs.length = 4) : ∃ x : Int × Int × Int × Int, cs = [.int k0 x.1, .int k1 x.2.1, .int k2 x.2.2.1, .int k3 x.2.2.2] ∧ Fits k0 x.1 ∧ Fits k1 x.2.1 ∧ Fits k2 x.2.2.1 ∧ Fits k3 x.2.2.2 := by
  obtain ⟨y0, y1, y2, y3, m', _, _, g0, g1, g2, g3⟩ := trod_struct4 ht h
  obtain ⟨o0, c0⟩ := hone_of hone 0 f0 rfl
  obtain ⟨o1, c1⟩ := hone_of hone 1 f1 rfl
  obtain ⟨o2, c2⟩ := hone_of hone 2 f2 rfl
  obtain ⟨o3, c3⟩ := hone_of hone 3 f3 rfl
  match cs, hl with
  | [v0, v1, v2, v3], _ =>
    rw [o0, c0] at g0
    rw [o1, c1] at g1
    rw [o2, c2] at g2
    rw [o3, c3] at g3
    obtain ⟨a, ha, _, wa⟩ := DataW.trod_int h0 g0
    obtain ⟨b, hb, _, wb⟩ := DataW.trod_int h1 g1
    obtain ⟨c, hc, _, wc⟩ := DataW.trod_int h2 g2
    obtain ⟨d, hd, _, wd⟩ := DataW.trod_int h3 g3
    simp at ha hb hc hd
    subst ha; subst hb; subst hc; subst hd
    exact ⟨(a, b, c, d), rfl, wa, wb, wc, wd⟩
end
end
section
open Go.RowKit Go.ChangeShapes Go.WideShapes Go.Deep Go.Joins
set_option maxRecDepth 100000 in
set_option maxHeartbeats 1000000 in
theorem kOverClasses_own (A : Option Addr) (c : Nat) (l : List (Int × Int × Int × Int × Int × Int)) (base : Nat) (w : World) (h : OwnCls w base (.slice A l.length c) l.length l) :
    Calls Tryz.prog 44 #[.slice A l.length c] w fun r w' => (∃ v, r = .returned v) ∧ But (fun k => ∃ o s, A = some ⟨k, o, s⟩) w w' := by
  rcases h.2 with ⟨h', h0⟩ | ⟨g, cap, cur, h', hbg, _⟩
  · injection h' with h1 h2 h3
    subst h1; subst h3
    rw [h2]
    clear h
    go_enter Tryz.func44, Tryz.ntmps44
    go_wp2
    go_loopg [2] 0 (fun gh i wx => i = .int .i64 0 ∧ wx = w)
    case atStart => exact ⟨rfl, rfl⟩
    case round =>
      obtain ⟨rfl, rfl⟩ := hrel
      go_wp2
      go_end0
      exact ⟨⟨_, rfl⟩, But.refl _ _⟩
  · injection h' with h1 h2 h3
    subst h1; subst h3
    have hs := (Sl.own h).small
    have HO := Lib.hid h
    clear h
    generalize hn : l.length = n at *
    replace hn := Lib.hid hn
    go_enter Tryz.func44, Tryz.ntmps44
    go_wp2
    go_loopg [2] n (fun gh i wx => gh ≤ n ∧ i = .int .i64 ((n - gh : Nat) : Int) ∧ ∃ xs, wx.ownsRow base 79 6 (.slice (some ⟨g, 0, none⟩) n c) n xs ∧ But (fun k => ∃ o s, some (⟨g, 0, none⟩ : Addr) = some ⟨k, o, s⟩) w wx)
    case atStart => exact ⟨Nat.le_refl _, by simp, _, HO.out, But.refl _ _⟩
    case round =>
      obtain ⟨hg, hi, xs, hw, hb⟩ := hrel
      have hl := hw.1
      have HW := Lib.hid hw
      have HBB := Lib.hid hb
      obtain ⟨k, hk⟩ : ∃ k, k = n - gk := ⟨_, rfl⟩
      rw [← hk] at hi
      subst hi
      by_cases hz : gk = 0
      · have hkn : ¬ (k : Int) < n := by omega
        clear hw hb hl hg hk hz
        go_wp2
        go_end0
        exact ⟨⟨_, rfl⟩, by first | exact HBB.out | (have h := HBB.out; simpa using h)⟩
      · have hkn : (k : Int) < n := by omega
        have c0 := (hw.cellAt (k * 6) (by omega)).trans (List.getElem?_eq_getElem (by omega))
        have f0 := hw.frozenAt (k * 6)
        have c1 := (hw.cellAt (k * 6 + 1) (by omega)).trans (List.getElem?_eq_getElem (by omega))
        have f1 := hw.frozenAt (k * 6 + 1)
        have c2 := (hw.cellAt (k * 6 + 2) (by omega)).trans (List.getElem?_eq_getElem (by omega))
        have f2 := hw.frozenAt (k * 6 + 2)
        have c3 := (hw.cellAt (k * 6 + 3) (by omega)).trans (List.getElem?_eq_getElem (by omega))
        have f3 := hw.frozenAt (k * 6 + 3)
        have c4 := (hw.cellAt (k * 6 + 4) (by omega)).trans (List.getElem?_eq_getElem (by omega))
        have f4 := hw.frozenAt (k * 6 + 4)
        have c5 := (hw.cellAt (k * 6 + 5) (by omega)).trans (List.getElem?_eq_getElem (by omega))
        have f5 := hw.frozenAt (k * 6 + 5)
        generalize xs[k * 6] = u0 at c0
        generalize xs[k * 6 + 1] = u1 at c1
        generalize xs[k * 6 + 2] = u2 at c2
        generalize xs[k * 6 + 3] = u3 at c3
        generalize xs[k * 6 + 4] = u4 at c4
        generalize xs[k * 6 + 5] = u5 at c5
        have HK := Lib.hid (And.intro hk (And.intro hg hz))
        clear hw hb hl hk hg hz
        go_wp2
        go_roundg (gk - 1)
        case measure => have := HK.out; omega
        case rel =>
          exact ⟨by have := HK.out; omega, num_eq (by have := HK.out; omega), _, ((((((((((((HW.out).stored (k * 6) (.int .i64 (-77))).1).stored (k * 6 + 1) (.int .i64 0)).1).stored (k * 6 + 2) (.int .i64 0)).1).stored (k * 6 + 3) (.int .i64 0)).1).stored (k * 6 + 4) (.int .u64 0)).1).stored (k * 6 + 5) (.int .u64 0)).1, ((((((((((((HBB.out).setCell (p := ⟨g, k * 6, none⟩) ⟨0, none, rfl⟩ _)).setCell (p := ⟨g, k * 6 + 1, none⟩) ⟨0, none, rfl⟩ _)).setCell (p := ⟨g, k * 6 + 2, none⟩) ⟨0, none, rfl⟩ _)).setCell (p := ⟨g, k * 6 + 3, none⟩) ⟨0, none, rfl⟩ _)).setCell (p := ⟨g, k * 6 + 4, none⟩) ⟨0, none, rfl⟩ _)).setCell (p := ⟨g, k * 6 + 5, none⟩) ⟨0, none, rfl⟩ _)⟩
end
section
open Go.RowKit Go.ChangeShapes Go.WideShapes Go.Deep Go.Joins
set_option maxRecDepth 100000 in
set_option maxHeartbeats 1000000 in
theorem kOverPositions_own (A : Option Addr) (c : Nat) (l : List (Int × Int × Int × Int × Int × Int)) (base : Nat) (w : World) (h : OwnPos w base (.slice A l.length c) l.length l) :
    Calls Tryz.prog 42 #[.slice A l.length c] w fun r w' => (∃ v, r = .returned v) ∧ But (fun k => ∃ o s, A = some ⟨k, o, s⟩) w w' := by
  rcases h.2 with ⟨h', h0⟩ | ⟨g, cap, cur, h', hbg, _⟩
  · injection h' with h1 h2 h3
    subst h1; subst h3
    rw [h2]
    clear h
    go_enter Tryz.func42, Tryz.ntmps42
    go_wp2
    go_loopg [2] 0 (fun gh i wx => i = .int .i64 0 ∧ wx = w)
    case atStart => exact ⟨rfl, rfl⟩
    case round =>
      obtain ⟨rfl, rfl⟩ := hrel
      go_wp2
      go_end0
      exact ⟨⟨_, rfl⟩, But.refl _ _⟩
  · injection h' with h1 h2 h3
    subst h1; subst h3
    have hs := (Sl.own h).small
    have HO := Lib.hid h
    clear h
    generalize hn : l.length = n at *
    replace hn := Lib.hid hn
    go_enter Tryz.func42, Tryz.ntmps42
    go_wp2
    go_loopg [2] n (fun gh i wx => gh ≤ n ∧ i = .int .i64 ((n - gh : Nat) : Int) ∧ ∃ xs, wx.ownsRow base 82 6 (.slice (some ⟨g, 0, none⟩) n c) n xs ∧ But (fun k => ∃ o s, some (⟨g, 0, none⟩ : Addr) = some ⟨k, o, s⟩) w wx)
    case atStart => exact ⟨Nat.le_refl _, by simp, _, HO.out, But.refl _ _⟩
    case round =>
      obtain ⟨hg, hi, xs, hw, hb⟩ := hrel
      have hl := hw.1
      have HW := Lib.hid hw
      have HBB := Lib.hid hb
      obtain ⟨k, hk⟩ : ∃ k, k = n - gk := ⟨_, rfl⟩
      rw [← hk] at hi
      subst hi
      by_cases hz : gk = 0
      · have hkn : ¬ (k : Int) < n := by omega
        clear hw hb hl hg hk hz
        go_wp2
        go_end0
        exact ⟨⟨_, rfl⟩, by first | exact HBB.out | (have h := HBB.out; simpa using h)⟩
      · have hkn : (k : Int) < n := by omega
        have c0 := (hw.cellAt (k * 6) (by omega)).trans (List.getElem?_eq_getElem (by omega))
        have f0 := hw.frozenAt (k * 6)
        have c1 := (hw.cellAt (k * 6 + 1) (by omega)).trans (List.getElem?_eq_getElem (by omega))
        have f1 := hw.frozenAt (k * 6 + 1)
        have c2 := (hw.cellAt (k * 6 + 2) (by omega)).trans (List.getElem?_eq_getElem (by omega))
        have f2 := hw.frozenAt (k * 6 + 2)
        have c3 := (hw.cellAt (k * 6 + 3) (by omega)).trans (List.getElem?_eq_getElem (by omega))
        have f3 := hw.frozenAt (k * 6 + 3)
        have c4 := (hw.cellAt (k * 6 + 4) (by omega)).trans (List.getElem?_eq_getElem (by omega))
        have f4 := hw.frozenAt (k * 6 + 4)
        have c5 := (hw.cellAt (k * 6 + 5) (by omega)).trans (List.getElem?_eq_getElem (by omega))
        have f5 := hw.frozenAt (k * 6 + 5)
        generalize xs[k * 6] = u0 at c0
        generalize xs[k * 6 + 1] = u1 at c1
        generalize xs[k * 6 + 2] = u2 at c2
        generalize xs[k * 6 + 3] = u3 at c3
        generalize xs[k * 6 + 4] = u4 at c4
        generalize xs[k * 6 + 5] = u5 at c5
        have HK := Lib.hid (And.intro hk (And.intro hg hz))
        clear hw hb hl hk hg hz
        go_wp2
        go_roundg (gk - 1)
        case measure => have := HK.out; omega
        case rel =>
          exact ⟨by have := HK.out; omega, num_eq (by have := HK.out; omega), _, ((((((((((((HW.out).stored (k * 6) (.int .i64 (-77))).1).stored (k * 6 + 1) (.int .i64 0)).1).stored (k * 6 + 2) (.int .i64 0)).1).stored (k * 6 + 3) (.int .i64 0)).1).stored (k * 6 + 4) (.int .i64 0)).1).stored (k * 6 + 5) (.int .u64 0)).1, ((((((((((((HBB.out).setCell (p := ⟨g, k * 6, none⟩) ⟨0, none, rfl⟩ _)).setCell (p := ⟨g, k * 6 + 1, none⟩) ⟨0, none, rfl⟩ _)).setCell (p := ⟨g, k * 6 + 2, none⟩) ⟨0, none, rfl⟩ _)).setCell (p := ⟨g, k * 6 + 3, none⟩) ⟨0, none, rfl⟩ _)).setCell (p := ⟨g, k * 6 + 4, none⟩) ⟨0, none, rfl⟩ _)).setCell (p := ⟨g, k * 6 + 5, none⟩) ⟨0, none, rfl⟩ _)⟩
end
section
open Go.RowKit
theorem rwithin_any (n lo hi : Int) (b : Bool) (hb : outB n lo hi = !b) (w : World) :
    Calls Tryz.prog 153 #[.int .i64 n, .int .i64 lo, .int .i64 hi] w fun r w' => r = .returned (.bool b) ∧ w = w' := by
  unfold outB at hb
  by_cases h1 : n < lo
  · obtain rfl : b = false := by simp [h1] at hb; exact hb
    have h1' : decide (lo ≤ n) = false := decide_eq_false (by omega)
    clear h1 hb
    go_enter Tryz.func153, Tryz.ntmps153
    go_wp2
    go_ret
    exact ⟨rfl, rfl⟩
  · obtain rfl : b = decide (n ≤ hi) := by
      have e : decide (hi < n) = !decide (n ≤ hi) := by rw [Bool.eq_iff_iff]; simp
      simp only [decide_eq_false h1, Bool.false_or, e] at hb
      cases b <;> simp_all
    have h1' : decide (lo ≤ n) = true := decide_eq_true (by omega)
    generalize hq : decide (n ≤ hi) = q
    clear h1 hb
    go_enter Tryz.func153, Tryz.ntmps153
    go_wp2
    go_ret
    exact ⟨rfl, rfl⟩
theorem rwithin_t (n lo hi : Int) (hb : outB n lo hi = false) (w : World) :
    Calls Tryz.prog 153 #[.int .i64 n, .int .i64 lo, .int .i64 hi] w fun r w' => r = .returned (.bool true) ∧ w = w' := rwithin_any n lo hi true hb w
theorem rwithin_f (n lo hi : Int) (hb : outB n lo hi = true) (w : World) :
    Calls Tryz.prog 153 #[.int .i64 n, .int .i64 lo, .int .i64 hi] w fun r w' => r = .returned (.bool false) ∧ w = w' := rwithin_any n lo hi false hb w
set_option maxRecDepth 100000 in
set_option maxHeartbeats 1000000 in
theorem rCheck12_o0 (V S P F : Int) (h0 : outB V 0 31 = true)  (w : World) :
    Calls Tryz.prog 126 #[.agg #[.int .i64 V, .int .i64 S, .int .i64 P, .int .i64 F]] w fun r w' => r = .returned (.int .i64 3) ∧ Ext w w' := by
  have H0 := Lib.hid h0
  clear h0
  go_enter Tryz.func126, Tryz.ntmps126
  go_wp2_with fail
  (with_reducible refine (rwithin_f V 0 31 H0.out _).mono ?_)
  rintro e w_1 ⟨rfl, rfl⟩
  go_wp2_with fail
  go_ret
  exact ⟨rfl, zxt⟩
set_option maxRecDepth 100000 in
set_option maxHeartbeats 1000000 in
theorem rCheck12_o1 (V S P F : Int) (h0 : outB V 0 31 = false) (h1 : outB S 1 4294967296 = true)  (w : World) :
    Calls Tryz.prog 126 #[.agg #[.int .i64 V, .int .i64 S, .int .i64 P, .int .i64 F]] w fun r w' => r = .returned (.int .i64 3) ∧ Ext w w' := by
  have H0 := Lib.hid h0
  have H1 := Lib.hid h1
  clear h0 h1
  go_enter Tryz.func126, Tryz.ntmps126
  go_wp2_with fail
  (with_reducible refine (rwithin_t V 0 31 H0.out _).mono ?_)
  rintro e w_1 ⟨rfl, rfl⟩
  go_wp2_with fail
  (with_reducible refine (rwithin_f S 1 4294967296 H1.out _).mono ?_)
  rintro e w_2 ⟨rfl, rfl⟩
  go_wp2_with fail
  go_ret
  exact ⟨rfl, zxt⟩
set_option maxRecDepth 100000 in
set_option maxHeartbeats 1000000 in
theorem rCheck12_o2 (V S P F : Int) (h0 : outB V 0 31 = false) (h1 : outB S 1 4294967296 = false) (h2 : outB P (-1) 31 = true)  (w : World) :
    Calls Tryz.prog 126 #[.agg #[.int .i64 V, .int .i64 S, .int .i64 P, .int .i64 F]] w fun r w' => r = .returned (.int .i64 3) ∧ Ext w w' := by
  have H0 := Lib.hid h0
  have H1 := Lib.hid h1
  have H2 := Lib.hid h2
  clear h0 h1 h2
  go_enter Tryz.func126, Tryz.ntmps126
  go_wp2_with fail
  (with_reducible refine (rwithin_t V 0 31 H0.out _).mono ?_)
  rintro e w_1 ⟨rfl, rfl⟩
  go_wp2_with fail
  (with_reducible refine (rwithin_t S 1 4294967296 H1.out _).mono ?_)
  rintro e w_2 ⟨rfl, rfl⟩
  go_wp2_with fail
  (with_reducible refine (rwithin_f P (-1) 31 H2.out _).mono ?_)
  rintro e w_3 ⟨rfl, rfl⟩
  go_wp2_with fail
  go_ret
  exact ⟨rfl, zxt⟩
set_option maxRecDepth 100000 in
set_option maxHeartbeats 1000000 in
theorem rCheck12_o3 (V S P F : Int) (h0 : outB V 0 31 = false) (h1 : outB S 1 4294967296 = false) (h2 : outB P (-1) 31 = false) (h3 : outB F 0 4294967296 = true)  (w : World) :
    Calls Tryz.prog 126 #[.agg #[.int .i64 V, .int .i64 S, .int .i64 P, .int .i64 F]] w fun r w' => r = .returned (.int .i64 3) ∧ Ext w w' := by
  have H0 := Lib.hid h0
  have H1 := Lib.hid h1
  have H2 := Lib.hid h2
  have H3 := Lib.hid h3
  clear h0 h1 h2 h3
  go_enter Tryz.func126, Tryz.ntmps126
  go_wp2_with fail
  (with_reducible refine (rwithin_t V 0 31 H0.out _).mono ?_)
  rintro e w_1 ⟨rfl, rfl⟩
  go_wp2_with fail
  (with_reducible refine (rwithin_t S 1 4294967296 H1.out _).mono ?_)
  rintro e w_2 ⟨rfl, rfl⟩
  go_wp2_with fail
  (with_reducible refine (rwithin_t P (-1) 31 H2.out _).mono ?_)
  rintro e w_3 ⟨rfl, rfl⟩
  go_wp2_with fail
  (with_reducible refine (rwithin_f F 0 4294967296 H3.out _).mono ?_)
  rintro e w_4 ⟨rfl, rfl⟩
  go_wp2_with fail
  go_ret
  exact ⟨rfl, zxt⟩
set_option maxRecDepth 100000 in
set_option maxHeartbeats 1000000 in
theorem rCheck12_arg (V S P F : Int) (h0 : outB V 0 31 = false) (h1 : outB S 1 4294967296 = false) (h2 : outB P (-1) 31 = false) (h3 : outB F 0 4294967296 = false) (q0 : (P == V) = true) (w : World) :
    Calls Tryz.prog 126 #[.agg #[.int .i64 V, .int .i64 S, .int .i64 P, .int .i64 F]] w fun r w' => r = .returned (.int .i64 2) ∧ Ext w w' := by
  have H0 := Lib.hid h0
  have H1 := Lib.hid h1
  have H2 := Lib.hid h2
  have H3 := Lib.hid h3
  clear h0 h1 h2 h3
  go_enter Tryz.func126, Tryz.ntmps126
  go_wp2_with fail
  (with_reducible refine (rwithin_t V 0 31 H0.out _).mono ?_)
  rintro e w_1 ⟨rfl, rfl⟩
  go_wp2_with fail
  (with_reducible refine (rwithin_t S 1 4294967296 H1.out _).mono ?_)
  rintro e w_2 ⟨rfl, rfl⟩
  go_wp2_with fail
  (with_reducible refine (rwithin_t P (-1) 31 H2.out _).mono ?_)
  rintro e w_3 ⟨rfl, rfl⟩
  go_wp2_with fail
  (with_reducible refine (rwithin_t F 0 4294967296 H3.out _).mono ?_)
  rintro e w_4 ⟨rfl, rfl⟩
  go_wp2_with fail
  go_ret
  exact ⟨rfl, zxt⟩
set_option maxRecDepth 100000 in
set_option maxHeartbeats 1000000 in
theorem rCheck12_st1 (V S P F : Int) (h0 : outB V 0 31 = false) (h1 : outB S 1 4294967296 = false) (h2 : outB P (-1) 31 = false) (h3 : outB F 0 4294967296 = false) (q0 : (P == V) = false) (q1 : (P == -1) = true) (q2 : (F == 0) = false) (w : World) :
    Calls Tryz.prog 126 #[.agg #[.int .i64 V, .int .i64 S, .int .i64 P, .int .i64 F]] w fun r w' => r = .returned (.int .i64 11) ∧ Ext w w' := by
  have H0 := Lib.hid h0
  have H1 := Lib.hid h1
  have H2 := Lib.hid h2
  have H3 := Lib.hid h3
  clear h0 h1 h2 h3
  go_enter Tryz.func126, Tryz.ntmps126
  go_wp2_with fail
  (with_reducible refine (rwithin_t V 0 31 H0.out _).mono ?_)
  rintro e w_1 ⟨rfl, rfl⟩
  go_wp2_with fail
  (with_reducible refine (rwithin_t S 1 4294967296 H1.out _).mono ?_)
  rintro e w_2 ⟨rfl, rfl⟩
  go_wp2_with fail
  (with_reducible refine (rwithin_t P (-1) 31 H2.out _).mono ?_)
  rintro e w_3 ⟨rfl, rfl⟩
  go_wp2_with fail
  (with_reducible refine (rwithin_t F 0 4294967296 H3.out _).mono ?_)
  rintro e w_4 ⟨rfl, rfl⟩
  go_wp2_with fail
  go_ret
  exact ⟨rfl, zxt⟩
set_option maxRecDepth 100000 in
set_option maxHeartbeats 1000000 in
theorem rCheck12_st0 (V S P F : Int) (h0 : outB V 0 31 = false) (h1 : outB S 1 4294967296 = false) (h2 : outB P (-1) 31 = false) (h3 : outB F 0 4294967296 = false) (q0 : (P == V) = false) (q1 : (P == -1) = false) (q2 : (F == 0) = true) (w : World) :
    Calls Tryz.prog 126 #[.agg #[.int .i64 V, .int .i64 S, .int .i64 P, .int .i64 F]] w fun r w' => r = .returned (.int .i64 11) ∧ Ext w w' := by
  have H0 := Lib.hid h0
  have H1 := Lib.hid h1
  have H2 := Lib.hid h2
  have H3 := Lib.hid h3
  clear h0 h1 h2 h3
  go_enter Tryz.func126, Tryz.ntmps126
  go_wp2_with fail
  (with_reducible refine (rwithin_t V 0 31 H0.out _).mono ?_)
  rintro e w_1 ⟨rfl, rfl⟩
  go_wp2_with fail
  (with_reducible refine (rwithin_t S 1 4294967296 H1.out _).mono ?_)
  rintro e w_2 ⟨rfl, rfl⟩
  go_wp2_with fail
  (with_reducible refine (rwithin_t P (-1) 31 H2.out _).mono ?_)
  rintro e w_3 ⟨rfl, rfl⟩
  go_wp2_with fail
  (with_reducible refine (rwithin_t F 0 4294967296 H3.out _).mono ?_)
  rintro e w_4 ⟨rfl, rfl⟩
  go_wp2_with fail
  go_ret
  exact ⟨rfl, zxt⟩
set_option maxRecDepth 100000 in
set_option maxHeartbeats 1000000 in
theorem rCheck12_or1 (V S P F : Int) (h0 : outB V 0 31 = false) (h1 : outB S 1 4294967296 = false) (h2 : outB P (-1) 31 = false) (h3 : outB F 0 4294967296 = false) (q0 : (P == V) = false) (q1 : (P == -1) = true) (q2 : (F == 0) = true) (q3 : decide (S < F) = true) (w : World) :
    Calls Tryz.prog 126 #[.agg #[.int .i64 V, .int .i64 S, .int .i64 P, .int .i64 F]] w fun r w' => r = .returned (.int .i64 9) ∧ Ext w w' := by
  have H0 := Lib.hid h0
  have H1 := Lib.hid h1
  have H2 := Lib.hid h2
  have H3 := Lib.hid h3
  clear h0 h1 h2 h3
  go_enter Tryz.func126, Tryz.ntmps126
  go_wp2_with fail
  (with_reducible refine (rwithin_t V 0 31 H0.out _).mono ?_)
  rintro e w_1 ⟨rfl, rfl⟩
  go_wp2_with fail
  (with_reducible refine (rwithin_t S 1 4294967296 H1.out _).mono ?_)
  rintro e w_2 ⟨rfl, rfl⟩
  go_wp2_with fail
  (with_reducible refine (rwithin_t P (-1) 31 H2.out _).mono ?_)
  rintro e w_3 ⟨rfl, rfl⟩
  go_wp2_with fail
  (with_reducible refine (rwithin_t F 0 4294967296 H3.out _).mono ?_)
  rintro e w_4 ⟨rfl, rfl⟩
  go_wp2_with fail
  go_ret
  exact ⟨rfl, zxt⟩
set_option maxRecDepth 100000 in
set_option maxHeartbeats 1000000 in
theorem rCheck12_ok1 (V S P F : Int) (h0 : outB V 0 31 = false) (h1 : outB S 1 4294967296 = false) (h2 : outB P (-1) 31 = false) (h3 : outB F 0 4294967296 = false) (q0 : (P == V) = false) (q1 : (P == -1) = true) (q2 : (F == 0) = true) (q3 : decide (S < F) = false) (w : World) :
    Calls Tryz.prog 126 #[.agg #[.int .i64 V, .int .i64 S, .int .i64 P, .int .i64 F]] w fun r w' => r = .returned (.int .i64 0) ∧ Ext w w' := by
  have H0 := Lib.hid h0
  have H1 := Lib.hid h1
  have H2 := Lib.hid h2
  have H3 := Lib.hid h3
  clear h0 h1 h2 h3
  go_enter Tryz.func126, Tryz.ntmps126
  go_wp2_with fail
  (with_reducible refine (rwithin_t V 0 31 H0.out _).mono ?_)
  rintro e w_1 ⟨rfl, rfl⟩
  go_wp2_with fail
  (with_reducible refine (rwithin_t S 1 4294967296 H1.out _).mono ?_)
  rintro e w_2 ⟨rfl, rfl⟩
  go_wp2_with fail
  (with_reducible refine (rwithin_t P (-1) 31 H2.out _).mono ?_)
  rintro e w_3 ⟨rfl, rfl⟩
  go_wp2_with fail
  (with_reducible refine (rwithin_t F 0 4294967296 H3.out _).mono ?_)
  rintro e w_4 ⟨rfl, rfl⟩
  go_wp2_with fail
  go_ret
  exact ⟨rfl, zxt⟩
set_option maxRecDepth 100000 in
set_option maxHeartbeats 1000000 in
theorem rCheck12_or0 (V S P F : Int) (h0 : outB V 0 31 = false) (h1 : outB S 1 4294967296 = false) (h2 : outB P (-1) 31 = false) (h3 : outB F 0 4294967296 = false) (q0 : (P == V) = false) (q1 : (P == -1) = false) (q2 : (F == 0) = false) (q3 : decide (S < F) = true) (w : World) :
    Calls Tryz.prog 126 #[.agg #[.int .i64 V, .int .i64 S, .int .i64 P, .int .i64 F]] w fun r w' => r = .returned (.int .i64 9) ∧ Ext w w' := by
  have H0 := Lib.hid h0
  have H1 := Lib.hid h1
  have H2 := Lib.hid h2
  have H3 := Lib.hid h3
  clear h0 h1 h2 h3
  go_enter Tryz.func126, Tryz.ntmps126
  go_wp2_with fail
  (with_reducible refine (rwithin_t V 0 31 H0.out _).mono ?_)
  rintro e w_1 ⟨rfl, rfl⟩
  go_wp2_with fail
  (with_reducible refine (rwithin_t S 1 4294967296 H1.out _).mono ?_)
  rintro e w_2 ⟨rfl, rfl⟩
  go_wp2_with fail
  (with_reducible refine (rwithin_t P (-1) 31 H2.out _).mono ?_)
  rintro e w_3 ⟨rfl, rfl⟩
  go_wp2_with fail
  (with_reducible refine (rwithin_t F 0 4294967296 H3.out _).mono ?_)
  rintro e w_4 ⟨rfl, rfl⟩
  go_wp2_with fail
  go_ret
  exact ⟨rfl, zxt⟩
set_option maxRecDepth 100000 in
set_option maxHeartbeats 1000000 in
theorem rCheck12_ok0 (V S P F : Int) (h0 : outB V 0 31 = false) (h1 : outB S 1 4294967296 = false) (h2 : outB P (-1) 31 = false) (h3 : outB F 0 4294967296 = false) (q0 : (P == V) = false) (q1 : (P == -1) = false) (q2 : (F == 0) = false) (q3 : decide (S < F) = false) (w : World) :
    Calls Tryz.prog 126 #[.agg #[.int .i64 V, .int .i64 S, .int .i64 P, .int .i64 F]] w fun r w' => r = .returned (.int .i64 0) ∧ Ext w w' := by
  have H0 := Lib.hid h0
  have H1 := Lib.hid h1
  have H2 := Lib.hid h2
  have H3 := Lib.hid h3
  clear h0 h1 h2 h3
  go_enter Tryz.func126, Tryz.ntmps126
  go_wp2_with fail
  (with_reducible refine (rwithin_t V 0 31 H0.out _).mono ?_)
  rintro e w_1 ⟨rfl, rfl⟩
  go_wp2_with fail
  (with_reducible refine (rwithin_t S 1 4294967296 H1.out _).mono ?_)
  rintro e w_2 ⟨rfl, rfl⟩
  go_wp2_with fail
  (with_reducible refine (rwithin_t P (-1) 31 H2.out _).mono ?_)
  rintro e w_3 ⟨rfl, rfl⟩
  go_wp2_with fail
  (with_reducible refine (rwithin_t F 0 4294967296 H3.out _).mono ?_)
  rintro e w_4 ⟨rfl, rfl⟩
  go_wp2_with fail
  go_ret
  exact ⟨rfl, zxt⟩
theorem rCheck12_any (V S P F : Int) (w : World) :
    Calls Tryz.prog 126 #[.agg #[.int .i64 V, .int .i64 S, .int .i64 P, .int .i64 F]] w fun r w' => r = .returned (.int .i64 (chkS V S P F)) ∧ Ext w w' := by
  unfold chkS
  cases h1 : outB V 0 31
  · cases h2 : outB S 1 4294967296
    · cases h3 : outB P (-1) 31
      · cases h4 : outB F 0 4294967296
        · cases q0 : (P == V)
          · cases q1 : (P == -1)
            · cases q2 : (F == 0)
              · cases q3 : decide (S < F)
                · exact rCheck12_ok0 V S P F h1 h2 h3 h4 q0 q1 q2 q3 w
                · exact rCheck12_or0 V S P F h1 h2 h3 h4 q0 q1 q2 q3 w
              · exact rCheck12_st0 V S P F h1 h2 h3 h4 q0 q1 q2 w
            · cases q2 : (F == 0)
              · exact rCheck12_st1 V S P F h1 h2 h3 h4 q0 q1 q2 w
              · cases q3 : decide (S < F)
                · exact rCheck12_ok1 V S P F h1 h2 h3 h4 q0 q1 q2 q3 w
                · exact rCheck12_or1 V S P F h1 h2 h3 h4 q0 q1 q2 q3 w
          · exact rCheck12_arg V S P F h1 h2 h3 h4 q0 w
        · exact rCheck12_o3 V S P F h1 h2 h3 h4 w
      · exact rCheck12_o2 V S P F h1 h2 h3 w
    · exact rCheck12_o1 V S P F h1 h2 w
  · exact rCheck12_o0 V S P F h1 w
end
section
open Go.RowKit
theorem pCheck_any (t s : Int) (w : World) :
    Calls Tryz.prog 121 #[.agg #[.int .u64 t, .int .u64 s]] w fun r w' => r = .returned (.int .i64 (chkE t s)) ∧ Ext w w' := by
  by_cases h1 : s < t
  · have e : chkE t s = 9 := if_pos h1
    rw [e]
    clear e
    go_enter Tryz.func121, Tryz.ntmps121
    go_wp2
    go_ret
    exact ⟨rfl, zSlTel1_0⟩
  · by_cases h2 : 4611686018427387904 < t
    · have e : chkE t s = 12 := by unfold chkE; rw [if_neg h1, if_pos h2]
      rw [e]
      clear e
      go_enter Tryz.func121, Tryz.ntmps121
      go_wp2
      go_ret
      exact ⟨rfl, zSlTel1_0⟩
    · by_cases h3 : t = 0
      · subst h3
        by_cases h4 : s = 0
        · have e : chkE 0 s = 0 := by unfold chkE; rw [if_neg h1, if_neg h2, if_pos rfl, if_pos h4]
          rw [e]
          subst h4
          clear e
          go_enter Tryz.func121, Tryz.ntmps121
          go_wp2
          go_ret
          exact ⟨rfl, zSlTel1_0⟩
        · have e : chkE 0 s = 11 := by unfold chkE; rw [if_neg h1, if_neg h2, if_pos rfl, if_neg h4]
          rw [e]
          have h5 : (s == 0) = false := by simpa using h4
          clear e
          go_enter Tryz.func121, Tryz.ntmps121
          go_wp2
          go_ret
          exact ⟨rfl, zSlTel1_0⟩
      · have e : chkE t s = 0 := by unfold chkE; rw [if_neg h1, if_neg h2, if_neg h3]
        rw [e]
        have h5 : (t == 0) = false := by simpa using h3
        clear e
        go_enter Tryz.func121, Tryz.ntmps121
        go_wp2
        go_ret
        exact ⟨rfl, zSlTel1_0⟩
theorem pWorth_any (t s x : Int) (ht : Word t) (hs : Word s) (hx : Word x) (w : World) :
    Calls Tryz.prog 151 #[.agg #[.int .u64 t, .int .u64 s], .int .u64 x] w fun r w' => r = .returned (.int .u64 (worV t s x)) ∧ Ext w w' := by
  by_cases hz : s = 0
  · have e : worV t s x = 0 := if_pos hz
    rw [e]
    subst hz
    clear e ht hs hx
    go_enter Tryz.func151, Tryz.ntmps151
    go_wp2
    go_ret
    exact ⟨rfl, zSlTel1_0⟩
  · have e : worV t s x = mdN x t s := if_neg hz
    rw [e]
    clear e
    have C := Lib.hid (rMulDiv_any x t s hx ht hs)
    have hz' : (s == 0) = false := by simpa using hz
    clear ht hs hx hz
    go_enter Tryz.func151, Tryz.ntmps151
    go_wp2_with (go_at_call 191; refine (C.out _).mono ?_; rintro e w' ⟨rfl, rfl⟩)
    go_ret
    exact ⟨rfl, zSlTel1_0⟩
end
section
open Go.RowKit Go.ChangeShapes Go.WideShapes Go.Deep Go.Joins
def bkR (E V S P F v h u : Int) : Bool := if E ≠ 0 then false else if v < 0 then false else if v = V then (decide (S ≤ h) && (decide (u < 1) || decide (h ≤ u))) else (decide (v = P) && (decide (F ≤ h) && decide (h ≤ S)))
theorem bkR_eq {V S P F v h u : Int} (hh : h ≤ 9223372036854775807) : bkR (chkS V S P F) V S P F v h u = bkdB V S P F v h u := by
  unfold bkR bkdB
  by_cases he : chkS V S P F = 0
  · obtain ⟨q1, q2, q3, q4, q5, q6, q7, q8, q9, _⟩ := chkS_ok he
    rw [if_neg (by simpa using he), if_pos he]
    unfold hasB
    by_cases hv : v < 0
    · rw [if_pos hv]
      have e1 : (V == v) = false := by simp; omega
      have e2 : (P < 0) ∨ (P == v) = false := by
        by_cases hP : P < 0
        · exact .inl hP
        · right; simp; omega
      rcases e2 with e2 | e2 <;> simp [e1, e2]
    · rw [if_neg hv]
      by_cases hV : v = V
      · rw [if_pos hV]
        have e1 : (V == v) = true := by simp [hV]
        have e2 : (P == v) = false := by simp; omega
        rw [e1, e2]
        by_cases hu : u < 1
        · simp [hu, hh]
        · simp [hu]
      · rw [if_neg hV]
        have e1 : (V == v) = false := by simp; omega
        rw [e1]
        by_cases hP : P < 0
        · have : ¬ v = P := by omega
          simp [hP, this]
        · by_cases hvP : v = P
          · simp [hP, hvP]
          · have : ¬ P = v := fun e => hvP e.symm
            simp [hP, hvP, this]
  · rw [if_pos (by simpa using he), if_neg he]
set_option maxRecDepth 100000 in
set_option maxHeartbeats 4000000 in
theorem rBacked12_any (V S P F v h u : Int) (hh : h ≤ 9223372036854775807) (w : World) :
    Calls Tryz.prog 86 #[.agg #[.int .i64 V, .int .i64 S, .int .i64 P, .int .i64 F], .int .i64 v, .int .i64 h, .int .i64 u] w fun r w' => r = .returned (.bool (bkdB V S P F v h u)) ∧ Ext w w' := by
  rw [← bkR_eq hh]
  have CE := Lib.hid (fun w => rCheck12_any V S P F w)
  obtain ⟨E, hE⟩ : ∃ E, E = chkS V S P F := ⟨_, rfl⟩
  rw [← hE] at CE ⊢
  obtain ⟨b, hb⟩ : ∃ b, b = (decide (F ≤ h) && decide (h ≤ S)) := ⟨_, rfl⟩
  have CW := Lib.hid (fun w => rwithin_any h F S b (by rw [hb]; unfold outB; by_cases h1 : F ≤ h <;> by_cases h2 : h ≤ S <;> simp [h1, h2] <;> omega) w)
  have HB := Lib.hid hb
  clear hE hb
  go_enter Tryz.func86, Tryz.ntmps86
  by_cases q1 : ¬ E = 0
  · have q1b : (E != 0) = true := by simp [q1]
    go_wp2_with fail
    (with_reducible refine (CE.out _).mono ?_)
    rintro e w1 ⟨rfl, hx1⟩
    have c0_0 : w1.cell? ⟨w.heap.size, 0, none⟩ = some (.int .i64 V) := hx1.has zSlTel1_1
    have c0_1 : w1.cell? ⟨w.heap.size, 1, none⟩ = some (.int .i64 S) := hx1.has zSlTel1_1
    have c0_2 : w1.cell? ⟨w.heap.size, 2, none⟩ = some (.int .i64 P) := hx1.has zSlTel1_1
    have c0_3 : w1.cell? ⟨w.heap.size, 3, none⟩ = some (.int .i64 F) := hx1.has zSlTel1_1
    have z1 := hx1.size
    try simp at z1
    have zq := zrc (show w.heap.size < w1.heap.size from by omega)
    obtain ⟨rc0, rc0a, rc0b, rc0c, rc0n⟩ := zq
    have X1 : Hid (Ext w w1) := Lib.hid (Ext.trans zxt hx1)
    clear hx1 z1
    go_wp2_with fail
    go_ret
    exact ⟨ret_bool (by unfold bkR; rw [if_pos (by omega)]), zxt⟩
  · have q1b : (E != 0) = false := by simpa using q1
    go_wp2_with fail
    (with_reducible refine (CE.out _).mono ?_)
    rintro e w1 ⟨rfl, hx1⟩
    have c0_0 : w1.cell? ⟨w.heap.size, 0, none⟩ = some (.int .i64 V) := hx1.has zSlTel1_1
    have c0_1 : w1.cell? ⟨w.heap.size, 1, none⟩ = some (.int .i64 S) := hx1.has zSlTel1_1
    have c0_2 : w1.cell? ⟨w.heap.size, 2, none⟩ = some (.int .i64 P) := hx1.has zSlTel1_1
    have c0_3 : w1.cell? ⟨w.heap.size, 3, none⟩ = some (.int .i64 F) := hx1.has zSlTel1_1
    have z1 := hx1.size
    try simp at z1
    have zq := zrc (show w.heap.size < w1.heap.size from by omega)
    obtain ⟨rc0, rc0a, rc0b, rc0c, rc0n⟩ := zq
    have X1 : Hid (Ext w w1) := Lib.hid (Ext.trans zxt hx1)
    clear hx1 z1
    by_cases q2 : v < 0
    · go_wp2_with fail
      go_ret
      exact ⟨ret_bool (by unfold bkR; rw [if_neg (by omega)]; rw [if_pos (by omega)]), zxt⟩
    · by_cases q3 : v = V
      · have q3b : (v == V) = true := by simpa using q3
        clear q3
        have q3 := Lib.hid q3b
        by_cases q4 : S ≤ h
        · by_cases q5 : u < 1
          · go_wp2_with fail
            go_ret
            have q3' : v = V := by simpa using q3.out
            exact ⟨ret_bool (by unfold bkR; rw [if_neg (by omega)]; rw [if_neg (by omega)]; rw [if_pos q3']; rw [decide_eq_true (show S ≤ h by omega), Bool.true_and]; rw [decide_eq_true (show u < 1 by omega), Bool.true_or]), zxt⟩
          · go_wp2_with fail
            go_ret
            have q3' : v = V := by simpa using q3.out
            exact ⟨ret_bool (by unfold bkR; rw [if_neg (by omega)]; rw [if_neg (by omega)]; rw [if_pos q3']; rw [decide_eq_true (show S ≤ h by omega), Bool.true_and]; try rw [decide_eq_false (show ¬ u < 1 by omega), Bool.false_or]), zxt⟩
        · go_wp2_with fail
          go_ret
          have q3' : v = V := by simpa using q3.out
          exact ⟨ret_bool (by unfold bkR; rw [if_neg (by omega)]; rw [if_neg (by omega)]; rw [if_pos q3']; rw [decide_eq_false (show ¬ S ≤ h by omega), Bool.false_and]), zxt⟩
      · have q3b : (v == V) = false := by simpa using q3
        by_cases q6 : v = P
        · have q6b : (v == P) = true := by simpa using q6
          clear q6
          have q6 := Lib.hid q6b
          go_wp2_with fail
          (with_reducible refine (CW.out _).mono ?_)
          rintro e w_1 ⟨rfl, rfl⟩
          go_wp2_with fail
          go_ret
          have q6' : v = P := by simpa using q6.out
          exact ⟨ret_bool (by unfold bkR; rw [if_neg (by omega)]; rw [if_neg (by omega)]; rw [if_neg (by simpa using q3b)]; rw [HB.out, decide_eq_true q6', Bool.true_and]), zxt⟩
        · have q6b : (v == P) = false := by simpa using q6
          go_wp2_with fail
          go_ret
          exact ⟨ret_bool (by unfold bkR; rw [if_neg (by omega)]; rw [if_neg (by omega)]; rw [if_neg (by simpa using q3b)]; rw [decide_eq_false (by simpa using q6b), Bool.false_and]), zxt⟩
theorem bkdB_neg (V S P F v h : Int) : bkdB V S P F v h (-1) = bkdB V S P F v h 0 := by unfold bkdB; simp
set_option maxRecDepth 100000 in
set_option maxHeartbeats 4000000 in
theorem rCompare12_any (a b c d a' b' c' d' : Int) (w : World) :
    Calls Tryz.prog 119 #[.agg #[.int .i64 a, .int .i64 b, .int .i64 c, .int .i64 d], .agg #[.int .i64 a', .int .i64 b', .int .i64 c', .int .i64 d']] w fun r w' => r = .returned (.int .i64 (cmpL [(a, a'), (b, b'), (c, c'), (d, d')])) ∧ Ext w w' := by
  obtain ⟨V, hV⟩ : ∃ V, V = cmpL [(a, a'), (b, b'), (c, c'), (d, d')] := ⟨_, rfl⟩
  rw [← hV]
  have HV := Lib.hid hV
  clear hV
  go_enter Tryz.func119, Tryz.ntmps119
  go_wp2
  go_loopg [7] 4 (fun gh i wx => gh ≤ 4 ∧ i = .int .i64 ((4 - gh : Nat) : Int) ∧ Hid (V = cmpL ([(a, a'), (b, b'), (c, c'), (d, d')].drop (4 - gh))) ∧ (wx.cell? ⟨w.heap.size + 1 + 1, 0, none⟩ = some (.int .i64 a) ∧ wx.cell? ⟨w.heap.size + 1 + 1, 1, none⟩ = some (.int .i64 b) ∧ wx.cell? ⟨w.heap.size + 1 + 1, 2, none⟩ = some (.int .i64 c) ∧ wx.cell? ⟨w.heap.size + 1 + 1, 3, none⟩ = some (.int .i64 d) ∧ wx.cell? ⟨w.heap.size + 1 + 1 + 1, 0, none⟩ = some (.int .i64 a') ∧ wx.cell? ⟨w.heap.size + 1 + 1 + 1, 1, none⟩ = some (.int .i64 b') ∧ wx.cell? ⟨w.heap.size + 1 + 1 + 1, 2, none⟩ = some (.int .i64 c') ∧ wx.cell? ⟨w.heap.size + 1 + 1 + 1, 3, none⟩ = some (.int .i64 d')) ∧ Ext w wx)
  case atStart => exact ⟨Nat.le_refl _, by simp, HV, ⟨by simp [go_sem, World.cell?_alloc_past], by simp [go_sem, World.cell?_alloc_past], by simp [go_sem, World.cell?_alloc_past], by simp [go_sem, World.cell?_alloc_past], by simp [go_sem, World.cell?_alloc_past], by simp [go_sem, World.cell?_alloc_past], by simp [go_sem, World.cell?_alloc_past], by simp [go_sem, World.cell?_alloc_past]⟩, (by repeat (first | with_reducible exact Ext.refl _ | with_reducible refine Ext.drew ?_ | with_reducible refine Ext.alloc ?_ _))⟩
  case round =>
    obtain ⟨hg, hi, H, ⟨x_0, x_1, x_2, x_3, y_0, y_1, y_2, y_3⟩, hx⟩ := hrel
    have XW := Lib.hid hx
    clear hx HV
    have hcase : gk = 0 ∨ gk = 4 ∨ gk = 3 ∨ gk = 2 ∨ gk = 1 := by omega
    rcases hcase with rfl | rfl | rfl | rfl | rfl
    · change _ = Value.int .i64 4 at hi
      obtain rfl := hi
      have hv : V = 0 := H.out
      subst hv
      clear H
      go_wp2
      go_ret
      exact ⟨rfl, XW.out⟩
    · change _ = Value.int .i64 0 at hi
      obtain rfl := hi
      have hd := H.out.trans (cmpL_drop (l := [(a, a'), (b, b'), (c, c'), (d, d')]) (k := 0) (x := (a, a')) rfl)
      clear H
      go_wp2_with fail
      refine wp_region_held_drew (S := fun w' => w'.cell? ⟨w.heap.size + 1 + 1, 0, none⟩ = some (.int .i64 a) ∧ w'.cell? ⟨w.heap.size + 1 + 1 + 1, 0, none⟩ = some (.int .i64 a')) (by kernel_rfl) (by first | exact ⟨x_0, y_0⟩ | (simp [go_sem, World.cell?_alloc_past, x_0, x_1, x_2, x_3, y_0, y_1, y_2, y_3]; done)) (fun hHeld => ?_)
      refine' zt 0 ?_
      refine' zt 1 ?_
      refine' zt 2 ?_
      refine' zt 3 ?_
      refine' zt 4 ?_
      refine' zt 5 ?_
      refine' zt 6 ?_
      refine' zt 7 ?_
      refine' zt 8 ?_
      refine wpAnyH_done (by kernel_rfl) ?_ _
      by_cases h1 : a < a'
      · have h1d : decide (a < a') = true := decide_eq_true h1
        rw [if_pos h1] at hd
        subst hd
        go_wp2_with fail
        go_ret
        exact ⟨rfl, zxt⟩
      · have h1d : decide (a < a') = false := decide_eq_false h1
        go_wp2_with fail
        refine wp_region_held_drew (S := fun w' => w'.cell? ⟨w.heap.size + 1 + 1, 0, none⟩ = some (.int .i64 a) ∧ w'.cell? ⟨w.heap.size + 1 + 1 + 1, 0, none⟩ = some (.int .i64 a')) (by kernel_rfl) (by first | exact ⟨x_0, y_0⟩ | (simp [go_sem, World.cell?_alloc_past, x_0, x_1, x_2, x_3, y_0, y_1, y_2, y_3]; done)) (fun hHeld => ?_)
        refine' zt 0 ?_
        refine' zt 1 ?_
        refine' zt 2 ?_
        refine' zt 3 ?_
        refine' zt 4 ?_
        refine' zt 5 ?_
        refine' zt 6 ?_
        refine' zt 7 ?_
        refine' zt 8 ?_
        refine wpAnyH_done (by kernel_rfl) ?_ _
        by_cases h2 : a' < a
        · have h2d : decide (a' < a) = true := decide_eq_true h2
          rw [if_neg (by omega), if_pos (by omega)] at hd
          subst hd
          go_wp2_with fail
          go_ret
          exact ⟨rfl, zxt⟩
        · have h2d : decide (a' < a) = false := decide_eq_false h2
          rw [if_neg (by omega), if_neg (by omega)] at hd
          have H := Lib.hid hd
          clear hd
          go_wp2_with fail
          go_roundg 3
          case measure => decide
          case rel => exact ⟨by decide, rfl, H, ⟨x_0, x_1, x_2, x_3, y_0, y_1, y_2, y_3⟩, zxt⟩
    · change _ = Value.int .i64 1 at hi
      obtain rfl := hi
      have hd := H.out.trans (cmpL_drop (l := [(a, a'), (b, b'), (c, c'), (d, d')]) (k := 1) (x := (b, b')) rfl)
      clear H
      go_wp2_with fail
      refine wp_region_held_drew (S := fun w' => w'.cell? ⟨w.heap.size + 1 + 1, 1, none⟩ = some (.int .i64 b) ∧ w'.cell? ⟨w.heap.size + 1 + 1 + 1, 1, none⟩ = some (.int .i64 b')) (by kernel_rfl) (by first | exact ⟨x_1, y_1⟩ | (simp [go_sem, World.cell?_alloc_past, x_0, x_1, x_2, x_3, y_0, y_1, y_2, y_3]; done)) (fun hHeld => ?_)
      refine' zt 0 ?_
      refine' zt 1 ?_
      refine' zt 2 ?_
      refine' zt 3 ?_
      refine' zt 4 ?_
      refine' zt 5 ?_
      refine' zt 6 ?_
      refine' zt 7 ?_
      refine' zt 8 ?_
      refine wpAnyH_done (by kernel_rfl) ?_ _
      by_cases h1 : b < b'
      · have h1d : decide (b < b') = true := decide_eq_true h1
        rw [if_pos h1] at hd
        subst hd
        go_wp2_with fail
        go_ret
        exact ⟨rfl, zxt⟩
      · have h1d : decide (b < b') = false := decide_eq_false h1
        go_wp2_with fail
        refine wp_region_held_drew (S := fun w' => w'.cell? ⟨w.heap.size + 1 + 1, 1, none⟩ = some (.int .i64 b) ∧ w'.cell? ⟨w.heap.size + 1 + 1 + 1, 1, none⟩ = some (.int .i64 b')) (by kernel_rfl) (by first | exact ⟨x_1, y_1⟩ | (simp [go_sem, World.cell?_alloc_past, x_0, x_1, x_2, x_3, y_0, y_1, y_2, y_3]; done)) (fun hHeld => ?_)
        refine' zt 0 ?_
        refine' zt 1 ?_
        refine' zt 2 ?_
        refine' zt 3 ?_
        refine' zt 4 ?_
        refine' zt 5 ?_
        refine' zt 6 ?_
        refine' zt 7 ?_
        refine' zt 8 ?_
        refine wpAnyH_done (by kernel_rfl) ?_ _
        by_cases h2 : b' < b
        · have h2d : decide (b' < b) = true := decide_eq_true h2
          rw [if_neg (by omega), if_pos (by omega)] at hd
          subst hd
          go_wp2_with fail
          go_ret
          exact ⟨rfl, zxt⟩
        · have h2d : decide (b' < b) = false := decide_eq_false h2
          rw [if_neg (by omega), if_neg (by omega)] at hd
          have H := Lib.hid hd
          clear hd
          go_wp2_with fail
          go_roundg 2
          case measure => decide
          case rel => exact ⟨by decide, rfl, H, ⟨x_0, x_1, x_2, x_3, y_0, y_1, y_2, y_3⟩, zxt⟩
    · change _ = Value.int .i64 2 at hi
      obtain rfl := hi
      have hd := H.out.trans (cmpL_drop (l := [(a, a'), (b, b'), (c, c'), (d, d')]) (k := 2) (x := (c, c')) rfl)
      clear H
      go_wp2_with fail
      refine wp_region_held_drew (S := fun w' => w'.cell? ⟨w.heap.size + 1 + 1, 2, none⟩ = some (.int .i64 c) ∧ w'.cell? ⟨w.heap.size + 1 + 1 + 1, 2, none⟩ = some (.int .i64 c')) (by kernel_rfl) (by first | exact ⟨x_2, y_2⟩ | (simp [go_sem, World.cell?_alloc_past, x_0, x_1, x_2, x_3, y_0, y_1, y_2, y_3]; done)) (fun hHeld => ?_)
      refine' zt 0 ?_
      refine' zt 1 ?_
      refine' zt 2 ?_
      refine' zt 3 ?_
      refine' zt 4 ?_
      refine' zt 5 ?_
      refine' zt 6 ?_
      refine' zt 7 ?_
      refine' zt 8 ?_
      refine wpAnyH_done (by kernel_rfl) ?_ _
      by_cases h1 : c < c'
      · have h1d : decide (c < c') = true := decide_eq_true h1
        rw [if_pos h1] at hd
        subst hd
        go_wp2_with fail
        go_ret
        exact ⟨rfl, zxt⟩
      · have h1d : decide (c < c') = false := decide_eq_false h1
        go_wp2_with fail
        refine wp_region_held_drew (S := fun w' => w'.cell? ⟨w.heap.size + 1 + 1, 2, none⟩ = some (.int .i64 c) ∧ w'.cell? ⟨w.heap.size + 1 + 1 + 1, 2, none⟩ = some (.int .i64 c')) (by kernel_rfl) (by first | exact ⟨x_2, y_2⟩ | (simp [go_sem, World.cell?_alloc_past, x_0, x_1, x_2, x_3, y_0, y_1, y_2, y_3]; done)) (fun hHeld => ?_)
        refine' zt 0 ?_
        refine' zt 1 ?_
        refine' zt 2 ?_
        refine' zt 3 ?_
        refine' zt 4 ?_
        refine' zt 5 ?_
        refine' zt 6 ?_
        refine' zt 7 ?_
        refine' zt 8 ?_
        refine wpAnyH_done (by kernel_rfl) ?_ _
        by_cases h2 : c' < c
        · have h2d : decide (c' < c) = true := decide_eq_true h2
          rw [if_neg (by omega), if_pos (by omega)] at hd
          subst hd
          go_wp2_with fail
          go_ret
          exact ⟨rfl, zxt⟩
        · have h2d : decide (c' < c) = false := decide_eq_false h2
          rw [if_neg (by omega), if_neg (by omega)] at hd
          have H := Lib.hid hd
          clear hd
          go_wp2_with fail
          go_roundg 1
          case measure => decide
          case rel => exact ⟨by decide, rfl, H, ⟨x_0, x_1, x_2, x_3, y_0, y_1, y_2, y_3⟩, zxt⟩
    · change _ = Value.int .i64 3 at hi
      obtain rfl := hi
      have hd := H.out.trans (cmpL_drop (l := [(a, a'), (b, b'), (c, c'), (d, d')]) (k := 3) (x := (d, d')) rfl)
      clear H
      go_wp2_with fail
      refine wp_region_held_drew (S := fun w' => w'.cell? ⟨w.heap.size + 1 + 1, 3, none⟩ = some (.int .i64 d) ∧ w'.cell? ⟨w.heap.size + 1 + 1 + 1, 3, none⟩ = some (.int .i64 d')) (by kernel_rfl) (by first | exact ⟨x_3, y_3⟩ | (simp [go_sem, World.cell?_alloc_past, x_0, x_1, x_2, x_3, y_0, y_1, y_2, y_3]; done)) (fun hHeld => ?_)
      refine' zt 0 ?_
      refine' zt 1 ?_
      refine' zt 2 ?_
      refine' zt 3 ?_
      refine' zt 4 ?_
      refine' zt 5 ?_
      refine' zt 6 ?_
      refine' zt 7 ?_
      refine' zt 8 ?_
      refine wpAnyH_done (by kernel_rfl) ?_ _
      by_cases h1 : d < d'
      · have h1d : decide (d < d') = true := decide_eq_true h1
        rw [if_pos h1] at hd
        subst hd
        go_wp2_with fail
        go_ret
        exact ⟨rfl, zxt⟩
      · have h1d : decide (d < d') = false := decide_eq_false h1
        go_wp2_with fail
        refine wp_region_held_drew (S := fun w' => w'.cell? ⟨w.heap.size + 1 + 1, 3, none⟩ = some (.int .i64 d) ∧ w'.cell? ⟨w.heap.size + 1 + 1 + 1, 3, none⟩ = some (.int .i64 d')) (by kernel_rfl) (by first | exact ⟨x_3, y_3⟩ | (simp [go_sem, World.cell?_alloc_past, x_0, x_1, x_2, x_3, y_0, y_1, y_2, y_3]; done)) (fun hHeld => ?_)
        refine' zt 0 ?_
        refine' zt 1 ?_
        refine' zt 2 ?_
        refine' zt 3 ?_
        refine' zt 4 ?_
        refine' zt 5 ?_
        refine' zt 6 ?_
        refine' zt 7 ?_
        refine' zt 8 ?_
        refine wpAnyH_done (by kernel_rfl) ?_ _
        by_cases h2 : d' < d
        · have h2d : decide (d' < d) = true := decide_eq_true h2
          rw [if_neg (by omega), if_pos (by omega)] at hd
          subst hd
          go_wp2_with fail
          go_ret
          exact ⟨rfl, zxt⟩
        · have h2d : decide (d' < d) = false := decide_eq_false h2
          rw [if_neg (by omega), if_neg (by omega)] at hd
          have H := Lib.hid hd
          clear hd
          go_wp2_with fail
          go_roundg 0
          case measure => decide
          case rel => exact ⟨by decide, rfl, H, ⟨x_0, x_1, x_2, x_3, y_0, y_1, y_2, y_3⟩, zxt⟩
theorem rCompare12_at (a b c d a' b' c' d' V : Int) (w : World) (hV : V = cmpL [(a, a'), (b, b'), (c, c'), (d, d')]) :
    Calls Tryz.prog 119 #[.agg #[.int .i64 a, .int .i64 b, .int .i64 c, .int .i64 d], .agg #[.int .i64 a', .int .i64 b', .int .i64 c', .int .i64 d']] w fun r w' => r = .returned (.int .i64 V) ∧ Ext w w' := by
  subst hV
  exact rCompare12_any a b c d a' b' c' d' w
end
section
open Go.RowKit Go.ChangeShapes Go.WideShapes Go.Deep Go.Joins
/-- the number of the first of a key; -1: there is none -/
def FndI {α : Type} (key : α → List Int) (l : List α) (q : List Int) (i : Int) : Prop := (i = -1 ∧ getK key l q = none) ∨ ∃ (m : Nat) (x : α), i = (m : Int) ∧ l[m]? = some x ∧ getK key l q = some x
theorem getK_step_none {α : Type} {key : α → List Int} {l : List α} {q : List Int} {k : Nat} {x : α} (h : getK key (l.take k) q = none) (hx : l[k]? = some x) (hn : key x ≠ q) : getK key (l.take (k + 1)) q = none := by
  unfold getK at h ⊢
  rw [List.take_add_one, hx, List.find?_append, h]
  simp [hn]
theorem getK_step_some {α : Type} {key : α → List Int} {l : List α} {q : List Int} {k : Nat} {x : α} (h : getK key (l.take k) q = none) (hx : l[k]? = some x) (he : key x = q) : getK key l q = some x := by
  have e : l = l.take k ++ x :: l.drop (k + 1) := by rw [← drop_at hx, List.take_append_drop]
  unfold getK at h ⊢
  rw [e, List.find?_append, h]
  simp [he]
set_option maxRecDepth 100000 in
theorem r13owner_any (x : Int) (w : World) : Calls Tryz.prog 64 #[.int .i64 x] w fun r w' => r = .returned (.bool (decide (0 ≤ x ∧ x < 64))) ∧ w' = w := by
  by_cases h1 : 0 ≤ x
  · by_cases h2 : x < 64
    · rw [decide_eq_true (And.intro h1 h2)]
      go_enter Tryz.func64, Tryz.ntmps64
      go_wp2
      go_ret
      exact ⟨by simp [*], rfl⟩
    · rw [decide_eq_false (fun h => h2 h.2)]
      go_enter Tryz.func64, Tryz.ntmps64
      go_wp2
      go_ret
      exact ⟨by simp [*], rfl⟩
  · rw [decide_eq_false (fun h => h1 h.1)]
    go_enter Tryz.func64, Tryz.ntmps64
    go_wp2
    go_ret
    exact ⟨by simp [*], rfl⟩
set_option maxRecDepth 100000 in
theorem r13validator_any (x : Int) (w : World) : Calls Tryz.prog 85 #[.int .i64 x] w fun r w' => r = .returned (.bool (decide (0 ≤ x ∧ x < 32))) ∧ w' = w := by
  by_cases h1 : 0 ≤ x
  · by_cases h2 : x < 32
    · rw [decide_eq_true (And.intro h1 h2)]
      go_enter Tryz.func85, Tryz.ntmps85
      go_wp2
      go_ret
      exact ⟨by simp [*], rfl⟩
    · rw [decide_eq_false (fun h => h2 h.2)]
      go_enter Tryz.func85, Tryz.ntmps85
      go_wp2
      go_ret
      exact ⟨by simp [*], rfl⟩
  · rw [decide_eq_false (fun h => h1 h.1)]
    go_enter Tryz.func85, Tryz.ntmps85
    go_wp2
    go_ret
    exact ⟨by simp [*], rfl⟩
set_option maxRecDepth 100000 in
set_option maxHeartbeats 4000000 in
theorem r13class_any (n c n2 c2 : Nat) (A A2 : Option Addr) (cl : List (Int × Int × Int × Int × Int × Int)) (V S P Q : Int) (w : World) (h : Sl w 6 A n c (cl.flatMap clsC)) :
    Calls Tryz.prog 66 #[.agg #[.slice A n c, .slice A2 n2 c2], .agg #[.int .i64 V, .int .i64 S, .int .i64 P, .int .i64 Q]] w fun r w' => ∃ i, r = .returned (.int .i64 i) ∧ FndI kC cl [V, S, P, Q] i ∧ Ext w w' := by
  have hll := h.rlen clsC_len (by decide)
  have hsm := h.small
  have HS := Lib.hid h
  have HLL := Lib.hid hll
  have pq1 := stm_eq
  have pq2 := stm_eqg
  clear h hll
  go_enter Tryz.func66, Tryz.ntmps66
  go_wp2
  go_loopg [5] n (fun gh i wx => gh ≤ n ∧ i = .int .i64 ((n - gh : Nat) : Int) ∧ Hid (getK kC (cl.take (n - gh)) [V, S, P, Q] = none) ∧ (wx.cell? ⟨w.heap.size, 0, none⟩ = some (.slice A n c) ∧ wx.cell? ⟨w.heap.size, 1, none⟩ = some (.slice A2 n2 c2) ∧ wx.cell? ⟨w.heap.size + 1, 0, none⟩ = some (.int .i64 V) ∧ wx.cell? ⟨w.heap.size + 1, 1, none⟩ = some (.int .i64 S) ∧ wx.cell? ⟨w.heap.size + 1, 2, none⟩ = some (.int .i64 P) ∧ wx.cell? ⟨w.heap.size + 1, 3, none⟩ = some (.int .i64 Q)) ∧ Ext w wx)
  case atStart => exact ⟨Nat.le_refl _, by simp, by rw [Nat.sub_self]; exact Lib.hid (by simp [getK]), ⟨by simp [go_sem, World.cell?_alloc_past], by simp [go_sem, World.cell?_alloc_past], by simp [go_sem, World.cell?_alloc_past], by simp [go_sem, World.cell?_alloc_past], by simp [go_sem, World.cell?_alloc_past], by simp [go_sem, World.cell?_alloc_past]⟩, zxt⟩
  case round =>
    obtain ⟨hg, hi, HI, ⟨b_0, b_1, s_0, s_1, s_2, s_3⟩, hx⟩ := hrel
    have XR := Lib.hid hx
    obtain ⟨k, hk⟩ : ∃ k, k = n - gk := ⟨_, rfl⟩
    rw [← hk] at hi HI
    subst hi
    by_cases hz : gk = 0
    · have hkn : ¬ (k : Int) < (n : Int) := by omega
      have hN : getK kC cl [V, S, P, Q] = none := by have h := HI.out; rwa [List.take_of_length_le (by have := HLL.out; omega)] at h
      have HN := Lib.hid hN
      clear hk hg hz HI hx hN
      go_wp2
      go_ret
      exact ⟨_, rfl, .inl ⟨rfl, HN.out⟩, zxt⟩
    · have hkn : (k : Int) < (n : Int) := by omega
      have hkl : k < cl.length := by have := HLL.out; omega
      have HSr := Lib.hid (HS.out.ext XR.out)
      obtain ⟨b1, o1, rfl, hb1, hc_x⟩ := HSr.out.rec_ clsC_len (show 0 < n from by omega)
      obtain ⟨xw, hl_x⟩ : ∃ x, cl[k]? = some x := ⟨_, List.getElem?_eq_getElem (by omega)⟩
      have x_0 := hc_x (k) xw hl_x 0 _ rfl
      have x_1 := hc_x (k) xw hl_x 1 _ rfl
      have x_2 := hc_x (k) xw hl_x 2 _ rfl
      have x_3 := hc_x (k) xw hl_x 3 _ rfl
      have x_4 := hc_x (k) xw hl_x 4 _ rfl
      have x_5 := hc_x (k) xw hl_x 5 _ rfl
      obtain ⟨xv, xs, xp, xf, xt, xh⟩ := xw
      simp only at x_0 x_1 x_2 x_3 x_4 x_5
      rw [Nat.add_zero] at x_0
      rw [← Nat.add_assoc] at x_1 x_2 x_3 x_4 x_5
      have HK := Lib.hid (And.intro hk (And.intro hg hz))
      have HX := Lib.hid hl_x
      clear hk hg hz hkl hl_x hc_x HSr hx
      by_cases hq : xv = V ∧ xs = S ∧ xp = P ∧ xf = Q
      · have hqb := four_true hq
        have HQ := Lib.hid hq
        clear hq
        go_wp2_with fail
        refine wp_region_held_drew (S := fun w' => w'.cell? ⟨w.heap.size, 0, none⟩ = some (.slice (some ⟨b1, o1, none⟩) n c) ∧ w'.cell? ⟨w.heap.size + 1, 0, none⟩ = some (.int .i64 V) ∧ w'.cell? ⟨w.heap.size + 1, 1, none⟩ = some (.int .i64 S) ∧ w'.cell? ⟨w.heap.size + 1, 2, none⟩ = some (.int .i64 P) ∧ w'.cell? ⟨w.heap.size + 1, 3, none⟩ = some (.int .i64 Q) ∧ w'.cell? ⟨b1, o1 + k * 6, none⟩ = some (.int .i64 xv) ∧ w'.cell? ⟨b1, o1 + k * 6 + 1, none⟩ = some (.int .i64 xs) ∧ w'.cell? ⟨b1, o1 + k * 6 + 2, none⟩ = some (.int .i64 xp) ∧ w'.cell? ⟨b1, o1 + k * 6 + 3, none⟩ = some (.int .i64 xf)) (by kernel_rfl) (by first | exact ⟨b_0, s_0, s_1, s_2, s_3, x_0, x_1, x_2, x_3⟩ | (simp [go_sem, World.cell?_alloc_past, *]; done)) (fun hHeld => ?_)
        refine' zt 0 ?_
        refine' zt 1 ?_
        refine' zt 2 ?_
        refine' zt 3 ?_
        refine' zt 4 ?_
        refine' zt 5 ?_
        refine' zt 6 ?_
        refine' zt 7 ?_
        refine wpAnyH_done (by kernel_rfl) ?_ _
        go_wp2_with fail
        go_ret
        exact ⟨_, rfl, .inr ⟨k, _, rfl, HX.out, getK_step_some HI.out HX.out (kC_eq HQ.out)⟩, zxt⟩
      · have hqb := four_false hq
        have HQ := Lib.hid hq
        clear hq
        go_wp2_with fail
        refine wp_region_held_drew (S := fun w' => w'.cell? ⟨w.heap.size, 0, none⟩ = some (.slice (some ⟨b1, o1, none⟩) n c) ∧ w'.cell? ⟨w.heap.size + 1, 0, none⟩ = some (.int .i64 V) ∧ w'.cell? ⟨w.heap.size + 1, 1, none⟩ = some (.int .i64 S) ∧ w'.cell? ⟨w.heap.size + 1, 2, none⟩ = some (.int .i64 P) ∧ w'.cell? ⟨w.heap.size + 1, 3, none⟩ = some (.int .i64 Q) ∧ w'.cell? ⟨b1, o1 + k * 6, none⟩ = some (.int .i64 xv) ∧ w'.cell? ⟨b1, o1 + k * 6 + 1, none⟩ = some (.int .i64 xs) ∧ w'.cell? ⟨b1, o1 + k * 6 + 2, none⟩ = some (.int .i64 xp) ∧ w'.cell? ⟨b1, o1 + k * 6 + 3, none⟩ = some (.int .i64 xf)) (by kernel_rfl) (by first | exact ⟨b_0, s_0, s_1, s_2, s_3, x_0, x_1, x_2, x_3⟩ | (simp [go_sem, World.cell?_alloc_past, *]; done)) (fun hHeld => ?_)
        refine' zt 0 ?_
        refine' zt 1 ?_
        refine' zt 2 ?_
        refine' zt 3 ?_
        refine' zt 4 ?_
        refine' zt 5 ?_
        refine' zt 6 ?_
        refine' zt 7 ?_
        refine wpAnyH_done (by kernel_rfl) ?_ _
        go_wp2_with fail
        go_roundg (gk - 1)
        case measure => have := HK.out; omega
        case rel => exact ⟨by have := HK.out; omega, num_eq (by have := HK.out; omega), by rw [show n - (gk - 1) = k + 1 from by have := HK.out; omega]; exact Lib.hid (getK_step_none HI.out HX.out (kC_ne (t := xt) (s := xh) HQ.out)), ⟨b_0, b_1, s_0, s_1, s_2, s_3⟩, zxt⟩
set_option maxRecDepth 100000 in
set_option maxHeartbeats 4000000 in
theorem r13position_any (n c n2 c2 : Nat) (A A2 : Option Addr) (ps : List (Int × Int × Int × Int × Int × Int)) (O V S P Q : Int) (w : World) (h2 : Sl w 6 A2 n2 c2 (ps.flatMap posC)) :
    Calls Tryz.prog 82 #[.agg #[.slice A n c, .slice A2 n2 c2], .int .i64 O, .agg #[.int .i64 V, .int .i64 S, .int .i64 P, .int .i64 Q]] w fun r w' => ∃ i, r = .returned (.int .i64 i) ∧ FndI kP ps [O, V, S, P, Q] i ∧ Ext w w' := by
  have hll := h2.rlen posC_len (by decide)
  have hsm := h2.small
  have HS := Lib.hid h2
  have HLL := Lib.hid hll
  have pq1 := stm_eq
  have pq2 := stm_eqg
  clear h2 hll
  go_enter Tryz.func82, Tryz.ntmps82
  go_wp2
  go_loopg [7] n2 (fun gh i wx => gh ≤ n2 ∧ i = .int .i64 ((n2 - gh : Nat) : Int) ∧ Hid (getK kP (ps.take (n2 - gh)) [O, V, S, P, Q] = none) ∧ (wx.cell? ⟨w.heap.size, 0, none⟩ = some (.slice A n c) ∧ wx.cell? ⟨w.heap.size, 1, none⟩ = some (.slice A2 n2 c2) ∧ wx.cell? ⟨w.heap.size + 1, 0, none⟩ = some (.int .i64 V) ∧ wx.cell? ⟨w.heap.size + 1, 1, none⟩ = some (.int .i64 S) ∧ wx.cell? ⟨w.heap.size + 1, 2, none⟩ = some (.int .i64 P) ∧ wx.cell? ⟨w.heap.size + 1, 3, none⟩ = some (.int .i64 Q)) ∧ Ext w wx)
  case atStart => exact ⟨Nat.le_refl _, by simp, by rw [Nat.sub_self]; exact Lib.hid (by simp [getK]), ⟨by simp [go_sem, World.cell?_alloc_past], by simp [go_sem, World.cell?_alloc_past], by simp [go_sem, World.cell?_alloc_past], by simp [go_sem, World.cell?_alloc_past], by simp [go_sem, World.cell?_alloc_past], by simp [go_sem, World.cell?_alloc_past]⟩, zxt⟩
  case round =>
    obtain ⟨hg, hi, HI, ⟨b_0, b_1, s_0, s_1, s_2, s_3⟩, hx⟩ := hrel
    have XR := Lib.hid hx
    obtain ⟨k, hk⟩ : ∃ k, k = n2 - gk := ⟨_, rfl⟩
    rw [← hk] at hi HI
    subst hi
    by_cases hz : gk = 0
    · have hkn : ¬ (k : Int) < (n2 : Int) := by omega
      have hN : getK kP ps [O, V, S, P, Q] = none := by have h := HI.out; rwa [List.take_of_length_le (by have := HLL.out; omega)] at h
      have HN := Lib.hid hN
      clear hk hg hz HI hx hN
      go_wp2
      go_ret
      exact ⟨_, rfl, .inl ⟨rfl, HN.out⟩, zxt⟩
    · have hkn : (k : Int) < (n2 : Int) := by omega
      have hkl : k < ps.length := by have := HLL.out; omega
      have HSr := Lib.hid (HS.out.ext XR.out)
      obtain ⟨b1, o1, rfl, hb1, hc_x⟩ := HSr.out.rec_ posC_len (show 0 < n2 from by omega)
      obtain ⟨xw, hl_x⟩ : ∃ x, ps[k]? = some x := ⟨_, List.getElem?_eq_getElem (by omega)⟩
      have x_0 := hc_x (k) xw hl_x 0 _ rfl
      have x_1 := hc_x (k) xw hl_x 1 _ rfl
      have x_2 := hc_x (k) xw hl_x 2 _ rfl
      have x_3 := hc_x (k) xw hl_x 3 _ rfl
      have x_4 := hc_x (k) xw hl_x 4 _ rfl
      have x_5 := hc_x (k) xw hl_x 5 _ rfl
      obtain ⟨po, pv, ps_, pp, pf, ph⟩ := xw
      simp only at x_0 x_1 x_2 x_3 x_4 x_5
      rw [Nat.add_zero] at x_0
      rw [← Nat.add_assoc] at x_1 x_2 x_3 x_4 x_5
      have HK := Lib.hid (And.intro hk (And.intro hg hz))
      have HX := Lib.hid hl_x
      clear hk hg hz hkl hl_x hc_x HSr hx
      by_cases hq0 : po = O
      · by_cases hq : pv = V ∧ ps_ = S ∧ pp = P ∧ pf = Q
        · have hq0b : (po == O) = true := by simp [hq0]
          have hqb := four_true hq
          have HQ := Lib.hid (And.intro hq0 hq)
          clear hq hq0
          go_wp2_with fail
          refine wp_region_held_drew (S := fun w' => w'.cell? ⟨w.heap.size, 1, none⟩ = some (.slice (some ⟨b1, o1, none⟩) n2 c2) ∧ w'.cell? ⟨w.heap.size + 1, 0, none⟩ = some (.int .i64 V) ∧ w'.cell? ⟨w.heap.size + 1, 1, none⟩ = some (.int .i64 S) ∧ w'.cell? ⟨w.heap.size + 1, 2, none⟩ = some (.int .i64 P) ∧ w'.cell? ⟨w.heap.size + 1, 3, none⟩ = some (.int .i64 Q) ∧ w'.cell? ⟨b1, o1 + k * 6, none⟩ = some (.int .i64 po) ∧ w'.cell? ⟨b1, o1 + k * 6 + 1, none⟩ = some (.int .i64 pv) ∧ w'.cell? ⟨b1, o1 + k * 6 + 2, none⟩ = some (.int .i64 ps_) ∧ w'.cell? ⟨b1, o1 + k * 6 + 3, none⟩ = some (.int .i64 pp) ∧ w'.cell? ⟨b1, o1 + k * 6 + 4, none⟩ = some (.int .i64 pf)) (by kernel_rfl) (by first | exact ⟨b_1, s_0, s_1, s_2, s_3, x_0, x_1, x_2, x_3, x_4⟩ | (simp [go_sem, World.cell?_alloc_past, *]; done)) (fun hHeld => ?_)
          refine' zt 0 ?_
          refine' zt 1 ?_
          refine' zt 2 ?_
          refine' zt 3 ?_
          refine' zt 4 ?_
          refine' zt 5 ?_
          refine' zt 6 ?_
          refine' zt 7 ?_
          refine' zt 8 ?_
          refine' zt 9 ?_
          refine' zt 10 ?_
          refine' zt 11 ?_
          refine' zt 12 ?_
          refine' zt 13 ?_
          refine' zt 14 ?_
          refine' zt 15 ?_
          refine' zt 16 ?_
          refine' zt 17 ?_
          refine wpAnyH_done (by kernel_rfl) ?_ _
          go_wp2_with fail
          go_ret
          exact ⟨_, rfl, .inr ⟨k, _, rfl, HX.out, getK_step_some HI.out HX.out (kP_eq HQ.out.1 HQ.out.2)⟩, zxt⟩
        · have hq0b : (po == O) = true := by simp [hq0]
          have hqb := four_false hq
          have HQ := Lib.hid hq
          clear hq hq0
          go_wp2_with fail
          refine wp_region_held_drew (S := fun w' => w'.cell? ⟨w.heap.size, 1, none⟩ = some (.slice (some ⟨b1, o1, none⟩) n2 c2) ∧ w'.cell? ⟨w.heap.size + 1, 0, none⟩ = some (.int .i64 V) ∧ w'.cell? ⟨w.heap.size + 1, 1, none⟩ = some (.int .i64 S) ∧ w'.cell? ⟨w.heap.size + 1, 2, none⟩ = some (.int .i64 P) ∧ w'.cell? ⟨w.heap.size + 1, 3, none⟩ = some (.int .i64 Q) ∧ w'.cell? ⟨b1, o1 + k * 6, none⟩ = some (.int .i64 po) ∧ w'.cell? ⟨b1, o1 + k * 6 + 1, none⟩ = some (.int .i64 pv) ∧ w'.cell? ⟨b1, o1 + k * 6 + 2, none⟩ = some (.int .i64 ps_) ∧ w'.cell? ⟨b1, o1 + k * 6 + 3, none⟩ = some (.int .i64 pp) ∧ w'.cell? ⟨b1, o1 + k * 6 + 4, none⟩ = some (.int .i64 pf)) (by kernel_rfl) (by first | exact ⟨b_1, s_0, s_1, s_2, s_3, x_0, x_1, x_2, x_3, x_4⟩ | (simp [go_sem, World.cell?_alloc_past, *]; done)) (fun hHeld => ?_)
          refine' zt 0 ?_
          refine' zt 1 ?_
          refine' zt 2 ?_
          refine' zt 3 ?_
          refine' zt 4 ?_
          refine' zt 5 ?_
          refine' zt 6 ?_
          refine' zt 7 ?_
          refine' zt 8 ?_
          refine' zt 9 ?_
          refine' zt 10 ?_
          refine' zt 11 ?_
          refine' zt 12 ?_
          refine' zt 13 ?_
          refine' zt 14 ?_
          refine' zt 15 ?_
          refine' zt 16 ?_
          refine' zt 17 ?_
          refine wpAnyH_done (by kernel_rfl) ?_ _
          go_wp2_with fail
          go_roundg (gk - 1)
          case measure => have := HK.out; omega
          case rel => exact ⟨by have := HK.out; omega, num_eq (by have := HK.out; omega), by rw [show n2 - (gk - 1) = k + 1 from by have := HK.out; omega]; exact Lib.hid (getK_step_none HI.out HX.out (kP_ne (t := ph) (fun hh => HQ.out hh.2))), ⟨b_0, b_1, s_0, s_1, s_2, s_3⟩, zxt⟩
      · have hq0b : (po == O) = false := by simpa using hq0
        have HQ := Lib.hid hq0
        clear hq0
        go_wp2_with fail
        refine wp_region_held_drew (S := fun w' => w'.cell? ⟨w.heap.size, 1, none⟩ = some (.slice (some ⟨b1, o1, none⟩) n2 c2) ∧ w'.cell? ⟨b1, o1 + k * 6, none⟩ = some (.int .i64 po)) (by kernel_rfl) (by first | exact ⟨b_1, x_0⟩ | (simp [go_sem, World.cell?_alloc_past, *]; done)) (fun hHeld => ?_)
        refine' zt 0 ?_
        refine' zt 1 ?_
        refine' zt 2 ?_
        refine' zt 3 ?_
        refine' zt 4 ?_
        refine' zt 5 ?_
        refine' zt 6 ?_
        refine' zt 7 ?_
        refine' zt 8 ?_
        refine' zs 9 ?_
        refine' zs 10 ?_
        refine' zs 11 ?_
        refine' zs 12 ?_
        refine' zs 13 ?_
        refine' zs 14 ?_
        refine' zs 15 ?_
        refine' zs 16 ?_
        refine' zt 17 ?_
        refine wpAnyH_done (by kernel_rfl) ?_ _
        go_wp2_with fail
        go_roundg (gk - 1)
        case measure => have := HK.out; omega
        case rel => exact ⟨by have := HK.out; omega, num_eq (by have := HK.out; omega), by rw [show n2 - (gk - 1) = k + 1 from by have := HK.out; omega]; exact Lib.hid (getK_step_none HI.out HX.out (kP_ne (t := ph) (fun hh => HQ.out hh.1))), ⟨b_0, b_1, s_0, s_1, s_2, s_3⟩, zxt⟩
set_option maxRecDepth 100000 in
set_option maxHeartbeats 4000000 in
theorem r13below_any (xo xv xs xp xf xh yo yv ys yp yf yh : Int) (w : World) :
    Calls Tryz.prog 65 #[.agg #[.int .i64 xo, .int .i64 xv, .int .i64 xs, .int .i64 xp, .int .i64 xf, .int .u64 xh], .agg #[.int .i64 yo, .int .i64 yv, .int .i64 ys, .int .i64 yp, .int .i64 yf, .int .u64 yh]] w fun r w' => r = .returned (.bool (decide (cmpK [xo, xv, xs, xp, xf] [yo, yv, ys, yp, yf] < 0))) ∧ Ext w w' := by
  obtain ⟨G, hG⟩ : ∃ G, G = cmpL [(xv, yv), (xs, ys), (xp, yp), (xf, yf)] := ⟨_, rfl⟩
  have CG := Lib.hid (fun w => rCompare12_at xv xs xp xf yv ys yp yf G w hG)
  obtain ⟨B, hB⟩ : ∃ B, B = decide (cmpK [xo, xv, xs, xp, xf] [yo, yv, ys, yp, yf] < 0) := ⟨_, rfl⟩
  have hBe : B = if xo < yo then true else if yo < xo then false else decide (G < 0) := by
    rw [hB, hG, cmpK_cons]
    by_cases h1 : xo < yo
    · rw [if_pos h1, if_pos h1]; rfl
    · rw [if_neg h1, if_neg h1]
      by_cases h2 : yo < xo
      · rw [if_pos h2, if_pos h2]; rfl
      · rw [if_neg h2, if_neg h2]; rfl
  rw [← hB]
  clear hG hB
  go_enter Tryz.func65, Tryz.ntmps65
  by_cases q1 : ¬ xo = yo
  · have q1b : (xo != yo) = true := by simp [q1]
    obtain rfl : B = decide (xo < yo) := by rw [hBe]; by_cases h1 : xo < yo; rw [if_pos h1, decide_eq_true h1]; rw [if_neg h1, if_pos (by omega), decide_eq_false h1]
    clear hBe
    go_wp2_with fail
    go_ret
    exact ⟨by first | rfl | simp, zxt⟩
  · have q1b : (xo != yo) = false := by simpa using q1
    obtain rfl : B = decide (G < 0) := by rw [hBe, if_neg (by omega), if_neg (by omega)]
    clear hBe
    go_wp2_with fail
    (with_reducible refine (CG.out _).mono ?_)
    rintro e w1 ⟨rfl, hx1⟩
    have z1 := hx1.size
    try simp at z1
    have X1 : Hid (Ext w w1) := Lib.hid (Ext.trans zxt hx1)
    clear hx1 z1
    go_wp2_with fail
    go_ret
    exact ⟨by first | rfl | simp, zxt⟩
set_option maxRecDepth 100000 in
set_option maxHeartbeats 4000000 in
theorem r13Find_any (n c n2 c2 : Nat) (A A2 : Option Addr) (cl : List (Int × Int × Int × Int × Int × Int)) (V S P Q : Int) (w : World) (h : Sl w 6 A n c (cl.flatMap clsC)) :
    Calls Tryz.prog 33 #[.agg #[.slice A n c, .slice A2 n2 c2], .agg #[.int .i64 V, .int .i64 S, .int .i64 P, .int .i64 Q]] w fun r w' => r = .returned (.tuple #[.agg #[.int .u64 (fndT cl [V, S, P, Q]), .int .u64 (fndS cl [V, S, P, Q])], .bool (getK kC cl [V, S, P, Q]).isSome]) ∧ Ext w w' := by
  have hsm := h.small
  have HS := Lib.hid h
  have C1 := Lib.hid (fun (w' : World) (hx : Ext w w') => r13class_any n c n2 c2 A A2 cl V S P Q w' (h.ext hx))
  obtain ⟨T, hT⟩ : ∃ T, T = fndT cl [V, S, P, Q] := ⟨_, rfl⟩
  obtain ⟨U, hU⟩ : ∃ U, U = fndS cl [V, S, P, Q] := ⟨_, rfl⟩
  obtain ⟨BB, hBB⟩ : ∃ B, B = (getK kC cl [V, S, P, Q]).isSome := ⟨_, rfl⟩
  rw [← hT, ← hU, ← hBB]
  have HT := Lib.hid (And.intro hT (And.intro hU hBB))
  clear h hT hU hBB
  go_enter Tryz.func33, Tryz.ntmps33
  go_wp2_with fail
  (with_reducible refine (C1.out _ zxt).mono ?_)
  rintro e w1 ⟨ci, rfl, hfi, hx1⟩
  have c0_0 : w1.cell? ⟨w.heap.size, 0, none⟩ = some (.slice A n c) := hx1.has zcv
  have c2_0f : w1.frozen? ⟨w.heap.size + 1 + 1, 0, none⟩ = false := hx1.froz (v := .int .u64 0) zcv zcv
  have c2_1f : w1.frozen? ⟨w.heap.size + 1 + 1, 1, none⟩ = false := hx1.froz (v := .int .u64 0) zcv zcv
  have c2_0 : w1.cell? ⟨w.heap.size + 1 + 1, 0, none⟩ = some (.int .u64 0) := hx1.has zcv
  have c2_1 : w1.cell? ⟨w.heap.size + 1 + 1, 1, none⟩ = some (.int .u64 0) := hx1.has zcv
  have z1 := hx1.size
  try simp at z1
  have lt_c0_c2 : w.heap.size < w.heap.size + 1 + 1 := by omega
  have ne_c0_c2 : ¬ w.heap.size = w.heap.size + 1 + 1 := by omega
  have ne_c2_c0 : ¬ w.heap.size + 1 + 1 = w.heap.size := by omega
  have zq := zrc (show w.heap.size < w1.heap.size from by omega)
  obtain ⟨rc0, rc0a, rc0b, rc0c, rc0n⟩ := zq
  have zq := zrc (show w.heap.size + 1 + 1 < w1.heap.size from by omega)
  obtain ⟨rc2, rc2a, rc2b, rc2c, rc2n⟩ := zq
  replace HS := Lib.hid (HS.out.ext (Ext.trans zxt hx1))
  have X1 : Hid (Ext w w1) := Lib.hid (Ext.trans zxt hx1)
  clear hx1 z1
  have HFI := Lib.hid hfi
  clear hfi
  rcases HFI.out with ⟨rfl, hN⟩ | ⟨m, xw, rfl, hM, hG⟩
  · obtain rfl : T = 0 := by rw [HT.out.1]; unfold fndT; rw [hN]; rfl
    obtain rfl : U = 0 := by rw [HT.out.2.1]; unfold fndS; rw [hN]; rfl
    obtain rfl : BB = false := by rw [HT.out.2.2, hN]; rfl
    clear hN HFI HT
    go_wp2_with fail
    refine bodyPost_ret (v := .tuple #[.agg #[.int .u64 0, .int .u64 0], .bool false]) (by simp [results, Tryz.results33, go_sem, World.cell?_alloc_past, *]; try rfl) rfl ⟨rfl, ?_⟩
    exact zxt
  · obtain ⟨xv, xs, xp, xf, xt, xh⟩ := xw
    obtain rfl : T = xt := by rw [HT.out.1]; unfold fndT; rw [hG]; rfl
    obtain rfl : U = xh := by rw [HT.out.2.1]; unfold fndS; rw [hG]; rfl
    obtain rfl : BB = true := by rw [HT.out.2.2, hG]; rfl
    have hll := HS.out.rlen clsC_len (by decide)
    have hml : m < cl.length := (List.getElem?_eq_some_iff.1 hM).1
    obtain ⟨b1, o1, rfl, hb1, hc_x⟩ := HS.out.rec_ clsC_len (show 0 < n from by omega)
    have x_4 := hc_x m _ hM 4 _ rfl
    have x_5 := hc_x m _ hM 5 _ rfl
    simp only at x_4 x_5
    rw [← Nat.add_assoc] at x_4 x_5
    have hmn : (m : Int) < (n : Int) := by omega
    have hm0 : ¬ (m : Int) < 0 := by omega
    clear HT hM hG hc_x HFI hll hml
    go_wp2_with fail
    refine bodyPost_ret (v := .tuple #[.agg #[.int .u64 T, .int .u64 U], .bool true]) (by simp [results, Tryz.results33, go_sem, World.cell?_alloc_past, *]; try rfl) rfl ⟨rfl, ?_⟩
    exact zxt
end
section
open Go.RowKit Go.ChangeShapes Go.WideShapes Go.Deep Go.Joins
/-- all tokens, or the greatest number -/
def capT (cl : List (Int × Int × Int × Int × Int × Int)) : Int := if totC cl < 18446744073709551616 then totC cl else 18446744073709551615
theorem clsV_long {cl : List (Int × Int × Int × Int × Int × Int)} (h : 1024 < cl.length) : clsV cl = 4 := if_pos h
theorem clsV_go {cl : List (Int × Int × Int × Int × Int × Int)} (h : ¬ 1024 < cl.length) (h2 : clsGo none cl ≠ 0) : clsV cl = clsGo none cl := by unfold clsV; rw [if_neg h, if_pos h2]
theorem clsV_tot {cl : List (Int × Int × Int × Int × Int × Int)} (h : ¬ 1024 < cl.length) (h2 : clsGo none cl = 0) : clsV cl = if 4611686018427387904 < capT cl then 12 else 0 := by
  unfold clsV capT
  rw [if_neg h, if_neg (by simpa using h2)]
  by_cases h3 : totC cl < 18446744073709551616
  · rw [if_pos h3]
    by_cases h4 : totC cl ≤ 4611686018427387904
    · rw [if_pos h4, if_neg (by omega)]
    · rw [if_neg h4, if_pos (by omega)]
  · rw [if_neg h3, if_neg (by omega), if_pos (by decide)]
theorem clsGo_at {cl : List (Int × Int × Int × Int × Int × Int)} {k : Nat} {x : (Int × Int × Int × Int × Int × Int)} {v : Int} (h : clsGo none cl = clsGo (prK kC cl k) (cl.drop k)) (hx : cl[k]? = some x) (h1 : clsOne (prK kC cl k) x = v) (hv : v ≠ 0) : clsGo none cl = v := by
  rw [h, drop_at hx]
  show (if clsOne (prK kC cl k) x ≠ 0 then _ else _) = _
  rw [h1, if_pos hv]
theorem clsGo_next {cl : List (Int × Int × Int × Int × Int × Int)} {k : Nat} {x : (Int × Int × Int × Int × Int × Int)} (h : clsGo none cl = clsGo (prK kC cl k) (cl.drop k)) (hx : cl[k]? = some x) (h1 : clsOne (prK kC cl k) x = 0) : clsGo none cl = clsGo (prK kC cl (k + 1)) (cl.drop (k + 1)) := by
  rw [h, drop_at hx, prK_succ hx]
  show (if clsOne (prK kC cl k) x ≠ 0 then _ else _) = _
  rw [if_neg (by simpa using h1)]
theorem clsGo_end {cl : List (Int × Int × Int × Int × Int × Int)} {k : Nat} (h : clsGo none cl = clsGo (prK kC cl k) (cl.drop k)) (hk : cl.length ≤ k) : clsGo none cl = 0 := by
  rw [h, List.drop_of_length_le hk]
  rfl
set_option maxRecDepth 100000 in
set_option maxHeartbeats 4000000 in
theorem r13all_any (n c n2 c2 : Nat) (A A2 : Option Addr) (cl : List (Int × Int × Int × Int × Int × Int)) (w : World) (h : Sl w 6 A n c (cl.flatMap clsC)) (hw : ∀ x ∈ cl, WdC x) :
    Calls Tryz.prog 84 #[.agg #[.slice A n c, .slice A2 n2 c2]] w fun r w' => r = .returned (.int .u64 (capT cl)) ∧ Ext w w' := by
  have hll := h.rlen clsC_len (by decide)
  have hsm := h.small
  have HS := Lib.hid h
  have HLL := Lib.hid hll
  have HW := Lib.hid hw
  obtain ⟨R, hR⟩ : ∃ R, R = capT cl := ⟨_, rfl⟩
  rw [← hR]
  have HR := Lib.hid hR
  clear h hll hw hR
  go_enter Tryz.func84, Tryz.ntmps84
  go_wp2
  go_loopg [3, 4] n (fun gh a i wx => gh ≤ n ∧ i = .int .i64 ((n - gh : Nat) : Int) ∧ a = .int .u64 (totC (cl.take (n - gh))) ∧ Hid (totC (cl.take (n - gh)) < 18446744073709551616) ∧ (wx.cell? ⟨w.heap.size, 0, none⟩ = some (.slice A n c) ∧ wx.cell? ⟨w.heap.size, 1, none⟩ = some (.slice A2 n2 c2)) ∧ Hid (Ext w wx))
  case atStart => exact ⟨Nat.le_refl _, by simp, by rw [Nat.sub_self]; rfl, by rw [Nat.sub_self]; exact Lib.hid (show (0 : Int) < 18446744073709551616 from by decide), ⟨by simp [go_sem, World.cell?_alloc_past], by simp [go_sem, World.cell?_alloc_past]⟩, Lib.hid zxt⟩
  case round =>
    obtain ⟨hg, hi, ha, HB, ⟨b_0, b_1⟩, XR⟩ := hrel
    obtain ⟨k, hk⟩ : ∃ k, k = n - gk := ⟨_, rfl⟩
    rw [← hk] at hi ha HB
    subst hi
    obtain ⟨t, ht⟩ : ∃ t, t = totC (cl.take k) := ⟨_, rfl⟩
    rw [← ht] at ha HB
    subst ha
    by_cases hz : gk = 0
    · have hkn : ¬ (k : Int) < (n : Int) := by omega
      have hT : t = R := by
        have e : t = totC cl := by rw [ht, List.take_of_length_le (by have := HLL.out; omega)]
        have hb := HB.out
        rw [HR.out]
        unfold capT
        rw [if_pos (by omega), e]
      clear hk hg hz ht HR HB
      subst hT
      go_wp2
      go_ret
      exact ⟨rfl, XR.out⟩
    · have hkn : (k : Int) < (n : Int) := by omega
      have hkl : k < cl.length := by have := HLL.out; omega
      have HSr := Lib.hid (HS.out.ext XR.out)
      obtain ⟨b1, o1, rfl, hb1, hc_x⟩ := HSr.out.rec_ clsC_len (show 0 < n from by omega)
      obtain ⟨xw, hl_x⟩ : ∃ x, cl[k]? = some x := ⟨_, List.getElem?_eq_getElem (by omega)⟩
      have x_0 := hc_x (k) xw hl_x 0 _ rfl
      have x_1 := hc_x (k) xw hl_x 1 _ rfl
      have x_2 := hc_x (k) xw hl_x 2 _ rfl
      have x_3 := hc_x (k) xw hl_x 3 _ rfl
      have x_4 := hc_x (k) xw hl_x 4 _ rfl
      have x_5 := hc_x (k) xw hl_x 5 _ rfl
      obtain ⟨xv, xs, xp, xf, xt, xh⟩ := xw
      simp only at x_0 x_1 x_2 x_3 x_4 x_5
      rw [Nat.add_zero] at x_0
      rw [← Nat.add_assoc] at x_1 x_2 x_3 x_4 x_5
      have hst : totC (cl.take (k + 1)) = t + xt := by rw [ht]; exact addF_take toC hl_x
      have hb0 : 0 ≤ t := by rw [ht]; exact addF_nn (fun y hy => (HW.out y (List.mem_of_mem_take hy)).1.1)
      have hxw := (HW.out _ (List.mem_of_getElem? hl_x)).1
      have hle : totC (cl.take (k + 1)) ≤ totC cl := addF_le (fun y hy => (HW.out y hy).1.1) (k + 1)
      have CA := Lib.hid (fun w => rAdd_any t xt ⟨hb0, HB.out⟩ hxw w)
      have HT := Lib.hid hst
      have HLE := Lib.hid hle
      have HK := Lib.hid (And.intro hk (And.intro hg hz))
      obtain ⟨N, hN⟩ : ∃ N, N = addN t xt := ⟨_, rfl⟩
      obtain ⟨EA, hEA⟩ : ∃ EA, EA = addE t xt := ⟨_, rfl⟩
      rw [← hN, ← hEA] at CA
      have HN := Lib.hid (And.intro hN hEA)
      have hb1s : ¬ b1 = wr.heap.size := by omega
      clear hk hg hz hkl hl_x hc_x HSr ht hst hle hxw hb0 hN hEA
      go_wp2_with fail
      (with_reducible refine (CA.out _).mono ?_)
      rintro e w_1 ⟨rfl, rfl⟩
      by_cases q : ¬ t + xt < 18446744073709551616
      · obtain rfl : EA = 12 := by rw [HN.out.2]; exact if_neg q
        obtain rfl : R = 18446744073709551615 := by rw [HR.out]; unfold capT; rw [if_neg (by have := HLE.out; rw [HT.out] at this; omega)]
        go_wp2_with fail
        go_ret
        exact ⟨rfl, zxt⟩
      · replace q : t + xt < 18446744073709551616 := by omega
        obtain rfl : EA = 0 := by rw [HN.out.2]; exact if_pos q
        obtain rfl : N = t + xt := by rw [HN.out.1]; exact if_pos q
        go_wp2_with fail
        go_roundg (gk - 1)
        case measure => have := HK.out; omega
        case rel => exact ⟨by have := HK.out; omega, num_eq (by have := HK.out; omega), num_eq (by rw [show n - (gk - 1) = k + 1 from by have := HK.out; omega]; exact HT.out.symm), by rw [show n - (gk - 1) = k + 1 from by have := HK.out; omega, HT.out]; exact Lib.hid q, ⟨b_0, b_1⟩, Lib.hid zxt⟩
set_option maxRecDepth 100000 in
set_option maxHeartbeats 4000000 in
theorem r13classes_any (n c n2 c2 : Nat) (A A2 : Option Addr) (cl : List (Int × Int × Int × Int × Int × Int)) (w : World) (h : Sl w 6 A n c (cl.flatMap clsC)) (hw : ∀ x ∈ cl, WdC x) :
    Calls Tryz.prog 63 #[.agg #[.slice A n c, .slice A2 n2 c2]] w fun r w' => r = .returned (.int .i64 (clsV cl)) ∧ Ext w w' := by
  have hll := h.rlen clsC_len (by decide)
  have hsm := h.small
  by_cases hL : 1024 < n
  · have hV := clsV_long (cl := cl) (by omega)
    rw [hV]
    have hL2 : (1024 : Int) < (n : Int) := by omega
    clear h hll hw hV
    go_enter Tryz.func63, Tryz.ntmps63
    go_wp2
    go_ret
    exact ⟨rfl, zxt⟩
  have hL2 : ¬ (1024 : Int) < (n : Int) := by omega
  have HS := Lib.hid h
  have HW := Lib.hid hw
  have HLL := Lib.hid (And.intro hll hL)
  have pq1 := pol_eq
  have pq2 := pol_eqg
  obtain ⟨V, hV⟩ : ∃ V, V = clsV cl := ⟨_, rfl⟩
  rw [← hV]
  have HV := Lib.hid hV
  have C3 := Lib.hid (fun (w' : World) (hx : Ext w w') => r13all_any n c n2 c2 A A2 cl w' (h.ext hx) hw)
  obtain ⟨CT, hCT⟩ : ∃ t, t = capT cl := ⟨_, rfl⟩
  rw [← hCT] at C3
  have HCT := Lib.hid hCT
  clear h hw hll hL hV hCT
  go_enter Tryz.func63, Tryz.ntmps63
  go_wp2
  go_loopg [3] n (fun gh i wx => gh ≤ n ∧ i = .int .i64 ((n - gh : Nat) : Int) ∧ Hid (clsGo none cl = clsGo (prK kC cl (n - gh)) (cl.drop (n - gh))) ∧ (wx.cell? ⟨w.heap.size, 0, none⟩ = some (.slice A n c) ∧ wx.cell? ⟨w.heap.size, 1, none⟩ = some (.slice A2 n2 c2)) ∧ Hid (Ext w wx))
  case atStart => exact ⟨Nat.le_refl _, by simp, by rw [Nat.sub_self]; exact Lib.hid rfl, ⟨by simp [go_sem, World.cell?_alloc_past], by simp [go_sem, World.cell?_alloc_past]⟩, Lib.hid zxt⟩
  case round =>
    obtain ⟨hg, hi, HI, ⟨b_0, b_1⟩, XR⟩ := hrel
    obtain ⟨k, hk⟩ : ∃ k, k = n - gk := ⟨_, rfl⟩
    rw [← hk] at hi HI
    subst hi
    have hqr := cell_lt b_0
    by_cases hz : gk = 0
    · have hkn : ¬ (k : Int) < (n : Int) := by omega
      have hG := clsGo_end HI.out (by have := HLL.out; omega)
      have HD := Lib.hid (clsV_tot (show ¬ 1024 < cl.length from by have := HLL.out; omega) hG)
      rw [← HV.out, ← HCT.out] at HD
      clear hk hg hz HI hG HV HCT
      go_wp2_with fail
      (with_reducible refine (C3.out _ zxt).mono ?_)
      rintro e w41 ⟨rfl, hx41⟩
      have z41 := hx41.size
      try simp at z41
      have X41 : Hid (Ext w w41) := Lib.hid (Ext.trans zxt hx41)
      clear b_0 b_1 XR hx41 z41
      by_cases q : 4611686018427387904 < CT
      · obtain rfl : V = 12 := HD.out.trans (if_pos q)
        have qd : decide (4611686018427387904 < CT) = true := decide_eq_true q
        go_wp2_with fail
        go_ret
        exact ⟨rfl, zxt⟩
      · obtain rfl : V = 0 := HD.out.trans (if_neg q)
        have qd : decide (4611686018427387904 < CT) = false := decide_eq_false q
        go_wp2_with fail
        go_ret
        exact ⟨rfl, zxt⟩
    · have hkn : (k : Int) < (n : Int) := by omega
      have hkl : k < cl.length := by have := HLL.out; omega
      have HSr := Lib.hid (HS.out.ext XR.out)
      obtain ⟨b1, o1, rfl, hb1, hc_x⟩ := HSr.out.rec_ clsC_len (show 0 < n from by omega)
      obtain ⟨xw, hl_x⟩ : ∃ x, cl[k]? = some x := ⟨_, List.getElem?_eq_getElem (by omega)⟩
      have x_0 := hc_x (k) xw hl_x 0 _ rfl
      have x_1 := hc_x (k) xw hl_x 1 _ rfl
      have x_2 := hc_x (k) xw hl_x 2 _ rfl
      have x_3 := hc_x (k) xw hl_x 3 _ rfl
      have x_4 := hc_x (k) xw hl_x 4 _ rfl
      have x_5 := hc_x (k) xw hl_x 5 _ rfl
      obtain ⟨xv, xs, xp, xf, xt, xh⟩ := xw
      simp only at x_0 x_1 x_2 x_3 x_4 x_5
      rw [Nat.add_zero] at x_0
      rw [← Nat.add_assoc] at x_1 x_2 x_3 x_4 x_5
      have hwx := HW.out _ (List.mem_of_getElem? hl_x)
      have CS := Lib.hid (fun w => pCheck_any xt xh w)
      obtain ⟨ES, hES⟩ : ∃ ES, ES = chkS xv xs xp xf := ⟨_, rfl⟩
      have CT := Lib.hid (fun w => rCheck12_any xv xs xp xf w)
      rw [← hES] at CT
      obtain ⟨EP, hEP⟩ : ∃ EP, EP = chkE xt xh := ⟨_, rfl⟩
      rw [← hEP] at CS
      have HK := Lib.hid (And.intro hk (And.intro hg hz))
      have HX := Lib.hid (And.intro hl_x (And.intro hES hEP))
      have hb1s : ¬ b1 = wr.heap.size := by omega
      have hqs : ¬ w.heap.size = wr.heap.size := by omega
      by_cases hk0 : k = 0
      · subst hk0
        have HP := Lib.hid (show prevGe (prK kC cl 0) [xv, xs, xp, xf] = false from rfl)
        clear hk hg hz hkl hl_x hwx hES hEP hc_x HSr
        simp only [Nat.zero_mul, Nat.add_zero] at x_0 x_1 x_2 x_3 x_4 x_5
        simp only [Int.cast_ofNat_Int] at hkn ⊢
        go_wp2_with fail
        (with_reducible refine (CT.out _).mono ?_)
        rintro e w11 ⟨rfl, hx11⟩
        replace b_0 : w11.cell? ⟨w.heap.size, 0, none⟩ = some (.slice (some ⟨b1, o1, none⟩) n c) := hx11.has zcv
        replace b_1 : w11.cell? ⟨w.heap.size, 1, none⟩ = some (.slice A2 n2 c2) := hx11.has zcv
        have c0_4 : w11.cell? ⟨wr.heap.size, 4, none⟩ = some (.int .u64 xt) := hx11.has zcv
        have c0_5 : w11.cell? ⟨wr.heap.size, 5, none⟩ = some (.int .u64 xh) := hx11.has zcv
        have z11 := hx11.size
        try simp at z11
        have lt_b_c0 : w.heap.size < wr.heap.size := by omega
        have ne_b_c0 : ¬ w.heap.size = wr.heap.size := by omega
        have ne_c0_b : ¬ wr.heap.size = w.heap.size := by omega
        have zq := zrc (show w.heap.size < w11.heap.size from by omega)
        obtain ⟨rb, rba, rbb, rbc, rbn⟩ := zq
        have zq := zrc (show wr.heap.size < w11.heap.size from by omega)
        obtain ⟨rc0, rc0a, rc0b, rc0c, rc0n⟩ := zq
        have X11 : Hid (Ext w w11) := Lib.hid (Ext.trans zxt hx11)
        clear x_5 x_2 x_1 x_4 x_3 x_0 XR hx11 z11
        by_cases q3 : ¬ ES = 0
        · have q3b : (ES != 0) = true := by simp [q3]
          obtain rfl : V = 3 := HV.out.trans ((clsV_go (show ¬ 1024 < cl.length from by have := HLL.out; omega) (by rw [clsGo_at HI.out HX.out.1 (v := 3) (clsOne_range (show chkS xv xs xp xf ≠ 0 from by rw [← HX.out.2.1]; exact q3)) (by first | decide | assumption)]; first | decide | assumption)).trans (clsGo_at HI.out HX.out.1 (clsOne_range (show chkS xv xs xp xf ≠ 0 from by rw [← HX.out.2.1]; exact q3)) (by first | decide | assumption)))
          go_wp2_with fail
          go_ret
          exact ⟨rfl, zxt⟩
        · have q3b : (ES != 0) = false := by simpa using q3
          have q3c : ES = 0 := by omega
          go_wp2_with fail
          refine wp_region_held_drew (S := fun w' => True) (by kernel_rfl) (by first | exact trivial | (simp [go_sem, World.cell?_alloc_past, *]; done)) (fun hHeld => ?_)
          refine' zt 0 ?_
          refine' zt 1 ?_
          refine' zt 2 ?_
          refine' zs 3 ?_
          refine' zs 4 ?_
          refine' zs 5 ?_
          refine' zs 6 ?_
          refine' zs 7 ?_
          refine' zs 8 ?_
          refine' zs 9 ?_
          refine' zs 10 ?_
          refine' zs 11 ?_
          refine' zs 12 ?_
          refine' zs 13 ?_
          refine' zt 14 ?_
          refine wpAnyH_done (by kernel_rfl) ?_ _
          go_wp2_with fail
          (with_reducible refine (CS.out _).mono ?_)
          rintro e w12 ⟨rfl, hx12⟩
          replace b_0 := zh hx12 b_0
          replace b_1 := zh hx12 b_1
          replace c0_4 := zh hx12 c0_4
          replace c0_5 := zh hx12 c0_5
          have z12 := hx12.size
          try simp at z12
          have zq := zrc (show w.heap.size < w12.heap.size from by omega)
          clear rb rba rbb rbc rbn
          obtain ⟨rb, rba, rbb, rbc, rbn⟩ := zq
          have zq := zrc (show wr.heap.size < w12.heap.size from by omega)
          clear rc0 rc0a rc0b rc0c rc0n
          obtain ⟨rc0, rc0a, rc0b, rc0c, rc0n⟩ := zq
          have X12 : Hid (Ext w w12) := Lib.hid (Ext.trans zxt hx12)
          clear X11 hx12 z12
          by_cases q5 : ¬ EP = 0
          · have q5b : (EP != 0) = true := by simp [q5]
            obtain rfl : V = EP := HV.out.trans ((clsV_go (show ¬ 1024 < cl.length from by have := HLL.out; omega) zSlTel1_3).trans (clsGo_at HI.out HX.out.1 ((clsOne_pool (c := (xv, xs, xp, xf, xt, xh)) (show chkS xv xs xp xf = 0 from by rw [← HX.out.2.1]; omega) HP.out (show chkE xt xh ≠ 0 from by rw [← HX.out.2.2]; exact q5)).trans HX.out.2.2.symm) (by first | decide | assumption)))
            go_wp2_with fail
            go_ret
            exact ⟨rfl, zxt⟩
          · have q5b : (EP != 0) = false := by simpa using q5
            have q5c : EP = 0 := by omega
            by_cases q6 : xt = 0 ∧ xh = 0
            · obtain ⟨q6a, q6b⟩ := q6
              have q6c : (xt == 0 && xh == 0) = true := two_true ⟨q6a, q6b⟩
              obtain rfl : V = 11 := HV.out.trans ((clsV_go (show ¬ 1024 < cl.length from by have := HLL.out; omega) zSlTel1_4).trans (clsGo_at HI.out HX.out.1 (clsOne_state (show chkS xv xs xp xf = 0 from by rw [← HX.out.2.1]; omega) HP.out (show chkE xt xh = 0 from by rw [← HX.out.2.2]; omega) ⟨q6a, q6b⟩) (by first | decide | assumption)))
              go_wp2_with fail
              go_ret
              exact ⟨rfl, zxt⟩
            · have q6c : (xt == 0 && xh == 0) = false := two_false q6
              have HN := Lib.hid (clsGo_next HI.out HX.out.1 (clsOne_ok (show chkS xv xs xp xf = 0 from by rw [← HX.out.2.1]; omega) HP.out (show chkE xt xh = 0 from by rw [← HX.out.2.2]; omega) q6))
              go_wp2_with fail
              go_roundg (gk - 1)
              case measure => have := HK.out; omega
              case rel => exact ⟨by have := HK.out; omega, num_eq (by have := HK.out; omega), by rw [show n - (gk - 1) = 0 + 1 from by have := HK.out; omega]; exact HN, ⟨b_0, b_1⟩, Lib.hid zxt⟩
      · obtain ⟨m, rfl⟩ : ∃ m, k = m + 1 := ⟨k - 1, by omega⟩
        obtain ⟨yw, hl_y⟩ : ∃ x, cl[m]? = some x := ⟨_, List.getElem?_eq_getElem (by omega)⟩
        have y_0 := hc_x m yw hl_y 0 _ rfl
        have y_1 := hc_x m yw hl_y 1 _ rfl
        have y_2 := hc_x m yw hl_y 2 _ rfl
        have y_3 := hc_x m yw hl_y 3 _ rfl
        obtain ⟨yv, ys, yp, yf, yt, yh⟩ := yw
        simp only at y_0 y_1 y_2 y_3
        rw [Nat.add_zero] at y_0
        rw [← Nat.add_assoc] at y_1 y_2 y_3
        obtain ⟨G, hG⟩ : ∃ G, G = cmpK [yv, ys, yp, yf] [xv, xs, xp, xf] := ⟨_, rfl⟩
        have HG := Lib.hid (show G = cmpL [(yv, xv), (ys, xs), (yp, xp), (yf, xf)] from hG)
        have HP := Lib.hid (show prevGe (prK kC cl (m + 1)) [xv, xs, xp, xf] = decide (0 ≤ G) from by rw [prK_succ hl_y, hG]; rfl)
        have hm1 : (m : Int) + 1 - 1 = (m : Int) := by omega
        have hmd : decide ((0 : Int) < (m : Int) + 1) = true := decide_eq_true (by omega)
        have hmp : (0 : Int) < (m : Int) + 1 := by omega
        have hml : (m : Int) < (n : Int) := by omega
        have hmw : IntKind.i64.wrap (m : Int) = (m : Int) := IntWalk.i64_in _ (by omega)
        have hmw2 : IntKind.i64.wrap ((m : Int) + 1 - 1) = (m : Int) := by rw [hm1]; exact hmw
        have hms : m ≤ 9223372036854775806 := by omega
        clear hk hg hz hkl hl_x hl_y hwx hES hEP hG hc_x HSr
        go_wp2_with fail
        (with_reducible refine (CT.out _).mono ?_)
        rintro e w11 ⟨rfl, hx11⟩
        replace y_0 : w11.cell? ⟨b1, o1 + m * 6, none⟩ = some (.int .i64 yv) := hx11.has zcv
        replace y_1 : w11.cell? ⟨b1, o1 + m * 6 + 1, none⟩ = some (.int .i64 ys) := hx11.has zcv
        replace y_2 : w11.cell? ⟨b1, o1 + m * 6 + 2, none⟩ = some (.int .i64 yp) := hx11.has zcv
        replace y_3 : w11.cell? ⟨b1, o1 + m * 6 + 3, none⟩ = some (.int .i64 yf) := hx11.has zcv
        replace b_0 : w11.cell? ⟨w.heap.size, 0, none⟩ = some (.slice (some ⟨b1, o1, none⟩) n c) := hx11.has zcv
        replace b_1 : w11.cell? ⟨w.heap.size, 1, none⟩ = some (.slice A2 n2 c2) := hx11.has zcv
        have c0_0 : w11.cell? ⟨wr.heap.size, 0, none⟩ = some (.int .i64 xv) := hx11.has zcv
        have c0_1 : w11.cell? ⟨wr.heap.size, 1, none⟩ = some (.int .i64 xs) := hx11.has zcv
        have c0_2 : w11.cell? ⟨wr.heap.size, 2, none⟩ = some (.int .i64 xp) := hx11.has zcv
        have c0_3 : w11.cell? ⟨wr.heap.size, 3, none⟩ = some (.int .i64 xf) := hx11.has zcv
        have c0_4 : w11.cell? ⟨wr.heap.size, 4, none⟩ = some (.int .u64 xt) := hx11.has zcv
        have c0_5 : w11.cell? ⟨wr.heap.size, 5, none⟩ = some (.int .u64 xh) := hx11.has zcv
        have z11 := hx11.size
        try simp at z11
        have lt_y_c0 : b1 < wr.heap.size := by omega
        have ne_y_c0 : ¬ b1 = wr.heap.size := by omega
        have lt_b_c0 : w.heap.size < wr.heap.size := by omega
        have ne_b_c0 : ¬ w.heap.size = wr.heap.size := by omega
        have ne_c0_y : ¬ wr.heap.size = b1 := by omega
        have ne_c0_b : ¬ wr.heap.size = w.heap.size := by omega
        have zq := zrc (show b1 < w11.heap.size from by omega)
        obtain ⟨ry, rya, ryb, ryc, ryn⟩ := zq
        have zq := zrc (show w.heap.size < w11.heap.size from by omega)
        obtain ⟨rb, rba, rbb, rbc, rbn⟩ := zq
        have zq := zrc (show wr.heap.size < w11.heap.size from by omega)
        obtain ⟨rc0, rc0a, rc0b, rc0c, rc0n⟩ := zq
        have X11 : Hid (Ext w w11) := Lib.hid (Ext.trans zxt hx11)
        clear x_5 x_1 x_2 x_4 x_0 x_3 XR hx11 z11
        by_cases q3 : ¬ ES = 0
        · have q3b : (ES != 0) = true := by simp [q3]
          obtain rfl : V = 3 := HV.out.trans ((clsV_go (show ¬ 1024 < cl.length from by have := HLL.out; omega) (by rw [clsGo_at HI.out HX.out.1 (v := 3) (clsOne_range (show chkS xv xs xp xf ≠ 0 from by rw [← HX.out.2.1]; exact q3)) (by first | decide | assumption)]; first | decide | assumption)).trans (clsGo_at HI.out HX.out.1 (clsOne_range (show chkS xv xs xp xf ≠ 0 from by rw [← HX.out.2.1]; exact q3)) (by first | decide | assumption)))
          go_wp2_with fail
          go_ret
          exact ⟨rfl, zxt⟩
        · have q3b : (ES != 0) = false := by simpa using q3
          have q3c : ES = 0 := by omega
          go_wp2_with fail
          refine wp_region_held_drew (S := fun w' => w'.cell? ⟨w.heap.size, 0, none⟩ = some (.slice (some ⟨b1, o1, none⟩) n c) ∧ w'.cell? ⟨wr.heap.size, 0, none⟩ = some (.int .i64 xv) ∧ w'.cell? ⟨wr.heap.size, 1, none⟩ = some (.int .i64 xs) ∧ w'.cell? ⟨wr.heap.size, 2, none⟩ = some (.int .i64 xp) ∧ w'.cell? ⟨wr.heap.size, 3, none⟩ = some (.int .i64 xf) ∧ w'.cell? ⟨b1, o1 + m * 6, none⟩ = some (.int .i64 yv) ∧ w'.cell? ⟨b1, o1 + m * 6 + 1, none⟩ = some (.int .i64 ys) ∧ w'.cell? ⟨b1, o1 + m * 6 + 2, none⟩ = some (.int .i64 yp) ∧ w'.cell? ⟨b1, o1 + m * 6 + 3, none⟩ = some (.int .i64 yf)) (by kernel_rfl) (by first | exact ⟨b_0, c0_0, c0_1, c0_2, c0_3, y_0, y_1, y_2, y_3⟩ | (simp [go_sem, World.cell?_alloc_past, *]; done)) (fun hHeld => ?_)
          refine' zt 0 ?_
          refine' zt 1 ?_
          refine' zt 2 ?_
          refine' zt 3 ?_
          refine' zt 4 ?_
          refine' zt 5 ?_
          refine' zt 6 ?_
          refine' zt 7 ?_
          refine' zt 8 ?_
          refine' zt 9 ?_
          refine' zt 10 ?_
          refine' zt 11 ?_
          refine' zn 12 (fun K hK => ?_)
          go_simp
          (with_reducible refine (rCompare12_at yv ys yp yf xv xs xp xf G _ HG.out).mono ?_)
          rintro e w12 ⟨rfl, hx12⟩
          replace y_0 := zh hx12 y_0
          replace y_1 := zh hx12 y_1
          replace y_2 := zh hx12 y_2
          replace y_3 := zh hx12 y_3
          replace b_0 := zh hx12 b_0
          replace b_1 := zh hx12 b_1
          replace c0_0 := zh hx12 c0_0
          replace c0_1 := zh hx12 c0_1
          replace c0_2 := zh hx12 c0_2
          replace c0_3 := zh hx12 c0_3
          replace c0_4 := zh hx12 c0_4
          replace c0_5 := zh hx12 c0_5
          have z12 := hx12.size
          try simp at z12
          have zq := zrc (show b1 < w12.heap.size from by omega)
          clear ry rya ryb ryc ryn
          obtain ⟨ry, rya, ryb, ryc, ryn⟩ := zq
          have zq := zrc (show w.heap.size < w12.heap.size from by omega)
          clear rb rba rbb rbc rbn
          obtain ⟨rb, rba, rbb, rbc, rbn⟩ := zq
          have zq := zrc (show wr.heap.size < w12.heap.size from by omega)
          clear rc0 rc0a rc0b rc0c rc0n
          obtain ⟨rc0, rc0a, rc0b, rc0c, rc0n⟩ := zq
          have X12 : Hid (Ext w w12) := Lib.hid (Ext.trans zxt hx12)
          clear X11 hx12 z12
          refine hK.out _ _ (by (first | exact ⟨b_0, c0_0, c0_1, c0_2, c0_3, y_0, y_1, y_2, y_3⟩ | (simp [go_sem, World.cell?_alloc_past, *]; done))) (fun hHeld => ?_); clear hK K; try simp only [Act.put, List.setIfInBounds_toArray, List.set_cons_zero, List.set_cons_succ]
          refine' zt 13 ?_
          refine' zt 14 ?_
          refine wpAnyH_done (by kernel_rfl) ?_ _
          by_cases q4 : 0 ≤ G
          · have q4b : decide (0 ≤ G) = true := decide_eq_true q4
            obtain rfl : V = 9 := HV.out.trans ((clsV_go (show ¬ 1024 < cl.length from by have := HLL.out; omega) (by rw [clsGo_at HI.out HX.out.1 (v := 9) (clsOne_order (show chkS xv xs xp xf = 0 from by rw [← HX.out.2.1]; omega) (HP.out.trans q4b)) (by first | decide | assumption)]; first | decide | assumption)).trans (clsGo_at HI.out HX.out.1 (clsOne_order (show chkS xv xs xp xf = 0 from by rw [← HX.out.2.1]; omega) (HP.out.trans q4b)) (by first | decide | assumption)))
            go_wp2_with fail
            go_ret
            exact ⟨rfl, zxt⟩
          · have q4b : decide (0 ≤ G) = false := decide_eq_false q4
            replace HP := Lib.hid (HP.out.trans q4b)
            go_wp2_with fail
            (with_reducible refine (CS.out _).mono ?_)
            rintro e w13 ⟨rfl, hx13⟩
            replace y_0 := zh hx13 y_0
            replace y_1 := zh hx13 y_1
            replace y_2 := zh hx13 y_2
            replace y_3 := zh hx13 y_3
            replace b_0 := zh hx13 b_0
            replace b_1 := zh hx13 b_1
            replace c0_0 := zh hx13 c0_0
            replace c0_1 := zh hx13 c0_1
            replace c0_2 := zh hx13 c0_2
            replace c0_3 := zh hx13 c0_3
            replace c0_4 := zh hx13 c0_4
            replace c0_5 := zh hx13 c0_5
            have z13 := hx13.size
            try simp at z13
            have zq := zrc (show b1 < w13.heap.size from by omega)
            clear ry rya ryb ryc ryn
            obtain ⟨ry, rya, ryb, ryc, ryn⟩ := zq
            have zq := zrc (show w.heap.size < w13.heap.size from by omega)
            clear rb rba rbb rbc rbn
            obtain ⟨rb, rba, rbb, rbc, rbn⟩ := zq
            have zq := zrc (show wr.heap.size < w13.heap.size from by omega)
            clear rc0 rc0a rc0b rc0c rc0n
            obtain ⟨rc0, rc0a, rc0b, rc0c, rc0n⟩ := zq
            have X13 : Hid (Ext w w13) := Lib.hid (Ext.trans zxt hx13)
            clear X12 hx13 z13
            by_cases q5 : ¬ EP = 0
            · have q5b : (EP != 0) = true := by simp [q5]
              obtain rfl : V = EP := HV.out.trans ((clsV_go (show ¬ 1024 < cl.length from by have := HLL.out; omega) zSlTel1_3).trans (clsGo_at HI.out HX.out.1 ((clsOne_pool (c := (xv, xs, xp, xf, xt, xh)) (show chkS xv xs xp xf = 0 from by rw [← HX.out.2.1]; omega) HP.out (show chkE xt xh ≠ 0 from by rw [← HX.out.2.2]; exact q5)).trans HX.out.2.2.symm) (by first | decide | assumption)))
              go_wp2_with fail
              go_ret
              exact ⟨rfl, zxt⟩
            · have q5b : (EP != 0) = false := by simpa using q5
              have q5c : EP = 0 := by omega
              by_cases q6 : xt = 0 ∧ xh = 0
              · obtain ⟨q6a, q6b⟩ := q6
                have q6c : (xt == 0 && xh == 0) = true := two_true ⟨q6a, q6b⟩
                obtain rfl : V = 11 := HV.out.trans ((clsV_go (show ¬ 1024 < cl.length from by have := HLL.out; omega) zSlTel1_4).trans (clsGo_at HI.out HX.out.1 (clsOne_state (show chkS xv xs xp xf = 0 from by rw [← HX.out.2.1]; omega) HP.out (show chkE xt xh = 0 from by rw [← HX.out.2.2]; omega) ⟨q6a, q6b⟩) (by first | decide | assumption)))
                go_wp2_with fail
                go_ret
                exact ⟨rfl, zxt⟩
              · have q6c : (xt == 0 && xh == 0) = false := two_false q6
                have HN := Lib.hid (clsGo_next HI.out HX.out.1 (clsOne_ok (show chkS xv xs xp xf = 0 from by rw [← HX.out.2.1]; omega) HP.out (show chkE xt xh = 0 from by rw [← HX.out.2.2]; omega) q6))
                go_wp2_with fail
                go_roundg (gk - 1)
                case measure => have := HK.out; omega
                case rel => exact ⟨by have := HK.out; omega, num_eq (by have := HK.out; omega), by rw [show n - (gk - 1) = (m + 1) + 1 from by have := HK.out; omega]; exact HN, ⟨b_0, b_1⟩, Lib.hid zxt⟩
end
section
open Go.RowKit Go.ChangeShapes Go.WideShapes Go.Deep Go.Joins
theorem posGo_at {cl ps : List (Int × Int × Int × Int × Int × Int)} {k : Nat} {x : (Int × Int × Int × Int × Int × Int)} {v : Int} (h : posGo cl none ps = posGo cl (prK kP ps k) (ps.drop k)) (hx : ps[k]? = some x) (h1 : posOne cl (prK kP ps k) x = v) (hv : v ≠ 0) : posGo cl none ps = v := by
  rw [h, drop_at hx]
  show (if posOne cl (prK kP ps k) x ≠ 0 then _ else _) = _
  rw [h1, if_pos hv]
theorem posGo_next {cl ps : List (Int × Int × Int × Int × Int × Int)} {k : Nat} {x : (Int × Int × Int × Int × Int × Int)} (h : posGo cl none ps = posGo cl (prK kP ps k) (ps.drop k)) (hx : ps[k]? = some x) (h1 : posOne cl (prK kP ps k) x = 0) : posGo cl none ps = posGo cl (prK kP ps (k + 1)) (ps.drop (k + 1)) := by
  rw [h, drop_at hx, prK_succ hx]
  show (if posOne cl (prK kP ps k) x ≠ 0 then _ else _) = _
  rw [if_neg (by simpa using h1)]
theorem posGo_end {cl ps : List (Int × Int × Int × Int × Int × Int)} {k : Nat} (h : posGo cl none ps = posGo cl (prK kP ps k) (ps.drop k)) (hk : ps.length ≤ k) : posGo cl none ps = 0 := by
  rw [h, List.drop_of_length_le hk]
  rfl
theorem posV_go {cl ps : List (Int × Int × Int × Int × Int × Int)} {v : Int} (h : posGo cl none ps = v) (hv : v ≠ 0) : posV cl ps = v := by unfold posV; rw [h, if_pos hv]
theorem posV_ne {cl ps : List (Int × Int × Int × Int × Int × Int)} {c : (Int × Int × Int × Int × Int × Int)} (h : posGo cl none ps = 0) (hc : c ∈ cl) (hn : shO ps (kC c) ≠ shC c) : posV cl ps = 11 := by
  unfold posV
  rw [if_neg (by simpa using h), if_neg]
  intro ha
  rw [List.all_eq_true] at ha
  exact hn (by simpa using ha c hc)
theorem posV_eq {cl ps : List (Int × Int × Int × Int × Int × Int)} (h : posGo cl none ps = 0) (ha : ∀ c ∈ cl, shO ps (kC c) = shC c) : posV cl ps = 0 := by
  unfold posV
  rw [if_neg (by simpa using h), if_pos]
  rw [List.all_eq_true]
  intro c hc
  simpa using ha c hc
theorem posOne_unknown' {cl : List (Int × Int × Int × Int × Int × Int)} {pr : Option (List Int)} {p : (Int × Int × Int × Int × Int × Int)} (h : 0 ≤ p.1 ∧ p.1 < 64) (h2 : prevGe pr (kP p) = false) (h3 : shP p ≠ 0) (h4 : getK kC cl (stP p) = none) : posOne cl pr p = 10 := by
  unfold posOne
  rw [if_neg (by omega), if_neg (by simp [h2]), if_neg h3, if_pos (by rw [h4]; rfl)]
theorem posOne_fine {cl : List (Int × Int × Int × Int × Int × Int)} {pr : Option (List Int)} {p c : (Int × Int × Int × Int × Int × Int)} (h : 0 ≤ p.1 ∧ p.1 < 64) (h2 : prevGe pr (kP p) = false) (h3 : shP p ≠ 0) (h4 : getK kC cl (stP p) = some c) : posOne cl pr p = 0 := by
  unfold posOne
  rw [if_neg (by omega), if_neg (by simp [h2]), if_neg h3, if_neg (by rw [h4]; simp)]
theorem u64_eq {a b : Int} (h : a = b) : Value.int .u64 a = Value.int .u64 b := by rw [h]
theorem shO_nn {ps : List (Int × Int × Int × Int × Int × Int)} (hw : ∀ x ∈ ps, WdP x) (q : List Int) : 0 ≤ shO ps q := addF_nn (fun y hy => (hw y (List.mem_filter.1 hy).1).1)
theorem shO_le {ps : List (Int × Int × Int × Int × Int × Int)} (hw : ∀ x ∈ ps, WdP x) (q : List Int) (k : Nat) : shO (ps.take k) q ≤ shO ps q := by
  have h : shO ps q = shO (ps.take k) q + shO (ps.drop k) q := by
    unfold shO
    conv => lhs; rw [← List.take_append_drop k ps, List.filter_append, addF_app]
  have := shO_nn (ps := ps.drop k) (fun x hx => hw x (List.mem_of_mem_drop hx)) q
  omega
set_option maxRecDepth 100000 in
set_option maxHeartbeats 4000000 in
theorem r13Check_any (n c n2 c2 : Nat) (A A2 : Option Addr) (cl ps : List (Int × Int × Int × Int × Int × Int)) (w : World) (h : Sl w 6 A n c (cl.flatMap clsC)) (h2 : Sl w 6 A2 n2 c2 (ps.flatMap posC)) (hw : ∀ x ∈ cl, WdC x) (hw2 : ∀ x ∈ ps, WdP x) :
    Calls Tryz.prog 15 #[.agg #[.slice A n c, .slice A2 n2 c2]] w fun r w' => r = .returned (.int .i64 (chkH cl ps)) ∧ Ext w w' := by
  have hll := h.rlen clsC_len (by decide)
  have hll2 := h2.rlen posC_len (by decide)
  have hsm := h.small
  have hsm2 := h2.small
  have C1 := Lib.hid (fun (w' : World) (hx : Ext w w') => r13classes_any n c n2 c2 A A2 cl w' (h.ext hx) hw)
  obtain ⟨E, hE⟩ : ∃ E, E = clsV cl := ⟨_, rfl⟩
  obtain ⟨V, hV⟩ : ∃ V, V = chkH cl ps := ⟨_, rfl⟩
  rw [← hE] at C1
  rw [← hV]
  by_cases he : ¬ E = 0
  · obtain rfl : V = E := by rw [hV, hE]; unfold chkH; rw [if_pos (by rw [← hE]; exact he)]
    have heb : (V != 0) = true := by simpa using he
    clear h h2 hw hw2 hE hV hll hll2
    go_enter Tryz.func15, Tryz.ntmps15
    go_wp2_with fail
    (with_reducible refine (C1.out _ zxt).mono ?_)
    rintro e w1 ⟨rfl, hx1⟩
    have z1 := hx1.size
    try simp at z1
    have X1 : Hid (Ext w w1) := Lib.hid (Ext.trans zxt hx1)
    clear hx1 z1
    go_wp2_with fail
    go_ret
    exact ⟨rfl, zxt⟩
  replace he : E = 0 := by omega
  have HV := Lib.hid (show V = posV cl ps from by rw [hV]; unfold chkH; rw [if_neg (by rw [← hE]; simpa using he)])
  have CC := Lib.hid (fun (V S P Q : Int) (w' : World) (hx : Ext w w') => r13class_any n c n2 c2 A A2 cl V S P Q w' (h.ext hx))
  have HS := Lib.hid h
  have HT := Lib.hid h2
  have HW := Lib.hid hw
  have HU := Lib.hid hw2
  have HLL := Lib.hid (And.intro hll hll2)
  have pq1 := stm_eq
  have pq2 := stm_eqg
  subst he
  clear h h2 hw hw2 hE hV hll hll2
  go_enter Tryz.func15, Tryz.ntmps15
  go_wp2_with fail
  (with_reducible refine (C1.out _ zxt).mono ?_)
  rintro e w1 ⟨rfl, hx1⟩
  have c0_0 : w1.cell? ⟨w.heap.size, 0, none⟩ = some (.slice A n c) := hx1.has zcv
  have c0_1 : w1.cell? ⟨w.heap.size, 1, none⟩ = some (.slice A2 n2 c2) := hx1.has zcv
  have z1 := hx1.size
  try simp at z1
  have zq := zrc (show w.heap.size < w1.heap.size from by omega)
  obtain ⟨rc0, rc0a, rc0b, rc0c, rc0n⟩ := zq
  have X1 : Hid (Ext w w1) := Lib.hid (Ext.trans zxt hx1)
  clear hx1 z1
  go_wp2_with fail
  go_loopg [4] n2 (fun gh i wx => gh ≤ n2 ∧ i = .int .i64 ((n2 - gh : Nat) : Int) ∧ Hid (posGo cl none ps = posGo cl (prK kP ps (n2 - gh)) (ps.drop (n2 - gh))) ∧ (wx.cell? ⟨w.heap.size, 0, none⟩ = some (.slice A n c) ∧ wx.cell? ⟨w.heap.size, 1, none⟩ = some (.slice A2 n2 c2)) ∧ Hid (Ext w wx))
  case atStart => exact ⟨Nat.le_refl _, by simp, by rw [Nat.sub_self]; exact Lib.hid rfl, ⟨c0_0, c0_1⟩, Lib.hid zxt⟩
  case round =>
    obtain ⟨hg, hi, HI, ⟨b_0, b_1⟩, XR⟩ := hrel
    obtain ⟨k, hk⟩ : ∃ k, k = n2 - gk := ⟨_, rfl⟩
    rw [← hk] at hi HI
    subst hi
    have hqr := cell_lt b_0
    by_cases hz : gk = 0
    · have hkn : ¬ (k : Int) < (n2 : Int) := by omega
      have hG := posGo_end HI.out (by have := HLL.out.2; omega)
      have HG := Lib.hid hG
      clear hk hg hz HI hG
      go_wp2_with fail
      go_loopg [6] n (fun gh i wx => gh ≤ n ∧ i = .int .i64 ((n - gh : Nat) : Int) ∧ Hid (∀ c ∈ cl.take (n - gh), shO ps (kC c) = shC c) ∧ (wx.cell? ⟨w.heap.size, 0, none⟩ = some (.slice A n c) ∧ wx.cell? ⟨w.heap.size, 1, none⟩ = some (.slice A2 n2 c2)) ∧ Hid (Ext w wx))
      case atStart => exact ⟨Nat.le_refl _, by simp, by rw [Nat.sub_self]; exact Lib.hid (fun c h => by cases h), ⟨b_0, b_1⟩, XR⟩
      case round =>
        clear XR b_0 b_1 hqr
        obtain ⟨hg, hi, HA, ⟨b_0, b_1⟩, XR⟩ := hrel
        obtain ⟨g1, hg1⟩ : ∃ g, g = gk := ⟨_, rfl⟩
        rw [← hg1] at hg hi HA
        obtain ⟨k1, hk1⟩ : ∃ k, k = n - g1 := ⟨_, rfl⟩
        rw [← hk1] at hi HA
        subst hi
        have hqr := cell_lt b_0
        by_cases hz : g1 = 0
        · have hkn1 : ¬ (k1 : Int) < (n : Int) := by omega
          obtain rfl : V = 0 := HV.out.trans (posV_eq HG.out (by have hh := HA.out; rwa [List.take_of_length_le (by have := HLL.out.1; omega)] at hh))
          clear hk1 hg hz HA HG
          go_wp2
          go_ret
          exact ⟨rfl, XR.out⟩
        · have hkn1 : (k1 : Int) < (n : Int) := by omega
          have hkl1 : k1 < cl.length := by have := HLL.out.1; omega
          have HSr := Lib.hid (HS.out.ext XR.out)
          obtain ⟨b1, o1, rfl, hb1, hc_x⟩ := HSr.out.rec_ clsC_len (show 0 < n from by omega)
          obtain ⟨xw, hl_x⟩ : ∃ x, cl[k1]? = some x := ⟨_, List.getElem?_eq_getElem (by omega)⟩
          have x_0 := hc_x (k1) xw hl_x 0 _ rfl
          have x_1 := hc_x (k1) xw hl_x 1 _ rfl
          have x_2 := hc_x (k1) xw hl_x 2 _ rfl
          have x_3 := hc_x (k1) xw hl_x 3 _ rfl
          have x_4 := hc_x (k1) xw hl_x 4 _ rfl
          have x_5 := hc_x (k1) xw hl_x 5 _ rfl
          obtain ⟨xv, xs, xp, xf, xt, xh⟩ := xw
          simp only at x_0 x_1 x_2 x_3 x_4 x_5
          rw [Nat.add_zero] at x_0
          rw [← Nat.add_assoc] at x_1 x_2 x_3 x_4 x_5
          have HX1 := Lib.hid (And.intro hl_x (And.intro hk1 (And.intro hg hz)))
          have hxm := List.mem_of_getElem? hl_x
          have hxw : 0 ≤ xh := (HW.out _ hxm).2.1
          have HXM := Lib.hid hxm
          clear hc_x HSr hl_x hk1 hg hz hkl1 hxm
          go_wp2_with fail
          go_loopg [7, 8] n2 (fun gh a j wx => gh ≤ n2 ∧ j = .int .i64 ((n2 - gh : Nat) : Int) ∧ a = .int .u64 (xh - shO (ps.take (n2 - gh)) [xv, xs, xp, xf]) ∧ Hid (0 ≤ xh - shO (ps.take (n2 - gh)) [xv, xs, xp, xf]) ∧ (wx.cell? ⟨w.heap.size, 0, none⟩ = some (.slice (some ⟨b1, o1, none⟩) n c) ∧ wx.cell? ⟨w.heap.size, 1, none⟩ = some (.slice A2 n2 c2)) ∧ Hid (Ext w wx))
          case atStart => exact ⟨Nat.le_refl _, by simp, by rw [Nat.sub_self]; exact u64_eq (by simp [shO, addF]), by rw [Nat.sub_self]; exact Lib.hid (by simpa [shO, addF] using hxw), ⟨b_0, b_1⟩, XR⟩
          case round =>
            clear XR b_0 b_1 hqr
            obtain ⟨hg, hj, ha, HB, ⟨b_0, b_1⟩, XR⟩ := hrel
            obtain ⟨k, hk⟩ : ∃ k, k = n2 - gk := ⟨_, rfl⟩
            rw [← hk] at hj ha HB
            subst hj
            obtain ⟨t, ht⟩ : ∃ t, t = xh - shO (ps.take k) [xv, xs, xp, xf] := ⟨_, rfl⟩
            rw [← ht] at ha HB
            subst ha
            have hqr := cell_lt b_0
            by_cases hz : gk = 0
            · have hkn : ¬ (k : Int) < (n2 : Int) := by omega
              have hT : t = xh - shO ps [xv, xs, xp, xf] := by rw [ht, List.take_of_length_le (by have := HLL.out.2; omega)]
              have HT0 := Lib.hid hT
              have HBX := HB
              clear hk hg hz ht HB hT x_0 x_1 x_2 x_3 x_4 x_5
              by_cases q : 0 < t
              · have qd : decide (0 < t) = true := decide_eq_true q
                obtain rfl : V = 11 := HV.out.trans (posV_ne HG.out HXM.out (by show shO ps [xv, xs, xp, xf] ≠ xh; have := HT0.out; omega))
                go_wp2_with fail
                go_ret
                exact ⟨rfl, zxt⟩
              · have qd : decide (0 < t) = false := decide_eq_false q
                have HN := Lib.hid (show ∀ c ∈ cl.take (k1 + 1), shO ps (kC c) = shC c from by
                  intro c hc
                  rw [List.take_add_one, HX1.out.1] at hc
                  rcases List.mem_append.1 hc with hc | hc
                  · exact HA.out c hc
                  · obtain rfl : c = (xv, xs, xp, xf, xt, xh) := by simpa using hc
                    show shO ps [xv, xs, xp, xf] = xh
                    have := HT0.out
                    have := HBX.out
                    omega)
                go_wp2_with fail
                go_roundg (g1 - 1)
                case measure => have := HX1.out; omega
                case rel => exact ⟨by have := HX1.out; omega, num_eq (by have := HX1.out; omega), by rw [show n - (g1 - 1) = k1 + 1 from by have := HX1.out; omega]; exact HN, ⟨b_0, b_1⟩, Lib.hid zxt⟩
            · have hkn : (k : Int) < (n2 : Int) := by omega
              have hkl : k < ps.length := by have := HLL.out.2; omega
              have HTr := Lib.hid (HT.out.ext XR.out)
              obtain ⟨b2, o2, rfl, hb2, hc_p⟩ := HTr.out.rec_ posC_len (show 0 < n2 from by omega)
              have hSx := HS.out.ext XR.out
              obtain ⟨bq, oq, hbq, hb1, hc_x⟩ := hSx.rec_ clsC_len (show 0 < n from by omega)
              obtain ⟨rfl, rfl⟩ : b1 = bq ∧ o1 = oq := by simpa using hbq
              replace x_0 := hc_x k1 _ HX1.out.1 0 _ rfl
              replace x_1 := hc_x k1 _ HX1.out.1 1 _ rfl
              replace x_2 := hc_x k1 _ HX1.out.1 2 _ rfl
              replace x_3 := hc_x k1 _ HX1.out.1 3 _ rfl
              simp only at x_0 x_1 x_2 x_3
              rw [Nat.add_zero] at x_0
              rw [← Nat.add_assoc] at x_1 x_2 x_3
              obtain ⟨pw, hl_p⟩ : ∃ x, ps[k]? = some x := ⟨_, List.getElem?_eq_getElem (by omega)⟩
              have p_0 := hc_p (k) pw hl_p 0 _ rfl
              have p_1 := hc_p (k) pw hl_p 1 _ rfl
              have p_2 := hc_p (k) pw hl_p 2 _ rfl
              have p_3 := hc_p (k) pw hl_p 3 _ rfl
              have p_4 := hc_p (k) pw hl_p 4 _ rfl
              have p_5 := hc_p (k) pw hl_p 5 _ rfl
              obtain ⟨po, pv, ps_, pp, pf, ph⟩ := pw
              simp only at p_0 p_1 p_2 p_3 p_4 p_5
              rw [Nat.add_zero] at p_0
              rw [← Nat.add_assoc] at p_1 p_2 p_3 p_4 p_5
              have hpw := (HU.out _ (List.mem_of_getElem? hl_p))
              change 0 ≤ ph ∧ ph < 18446744073709551616 at hpw
              have hto := shO_take hl_p [xv, xs, xp, xf]
              change shO (ps.take (k + 1)) [xv, xs, xp, xf] = shO (ps.take k) [xv, xs, xp, xf] + (if [pv, ps_, pp, pf] = [xv, xs, xp, xf] then ph else 0) at hto
              have hle := shO_le HU.out [xv, xs, xp, xf] (k + 1)
              have HQ := Lib.hid (And.intro hto (And.intro hle ht))
              have HK := Lib.hid (And.intro hk (And.intro hg hz))
              have hb1s : ¬ b1 = wr.heap.size := by omega
              have hb2s : ¬ b2 = wr.heap.size := by omega
              have hqs : ¬ w.heap.size = wr.heap.size := by omega
              clear hk hg hz hkl hl_p hc_p hc_x hSx HTr hto hle ht hbq x_4 x_5
              by_cases hq : pv = xv ∧ ps_ = xs ∧ pp = xp ∧ pf = xf
              · have hto2 : shO (ps.take (k + 1)) [xv, xs, xp, xf] = shO (ps.take k) [xv, xs, xp, xf] + ph := by rw [HQ.out.1, if_pos (by simp [hq])]
                have HQ2 := Lib.hid hto2
                have hqb := four_true hq
                clear hto2 hq
                by_cases qo : t < ph
                · have qod : decide (t < ph) = true := decide_eq_true qo
                  obtain rfl : V = 11 := HV.out.trans (posV_ne HG.out HXM.out (by show shO ps [xv, xs, xp, xf] ≠ xh; have := HQ.out; have := HQ2.out; omega))
                  go_wp2_with fail
                  refine wp_region_held_drew (S := fun w' => w'.cell? ⟨w.heap.size, 0, none⟩ = some (.slice (some ⟨b1, o1, none⟩) n c) ∧ w'.cell? ⟨wr.heap.size, 1, none⟩ = some (.int .i64 pv) ∧ w'.cell? ⟨wr.heap.size, 2, none⟩ = some (.int .i64 ps_) ∧ w'.cell? ⟨wr.heap.size, 3, none⟩ = some (.int .i64 pp) ∧ w'.cell? ⟨wr.heap.size, 4, none⟩ = some (.int .i64 pf) ∧ w'.cell? ⟨b1, o1 + k1 * 6, none⟩ = some (.int .i64 xv) ∧ w'.cell? ⟨b1, o1 + k1 * 6 + 1, none⟩ = some (.int .i64 xs) ∧ w'.cell? ⟨b1, o1 + k1 * 6 + 2, none⟩ = some (.int .i64 xp) ∧ w'.cell? ⟨b1, o1 + k1 * 6 + 3, none⟩ = some (.int .i64 xf)) (by kernel_rfl) (by first | exact ⟨b_0, c0_1, c0_2, c0_3, c0_4, x_0, x_1, x_2, x_3⟩ | (simp [go_sem, World.cell?_alloc_past, *]; done)) (fun hHeld => ?_)
                  refine' zt 0 ?_
                  refine' zt 1 ?_
                  refine' zt 2 ?_
                  refine' zt 3 ?_
                  refine' zt 4 ?_
                  refine' zt 5 ?_
                  refine' zt 6 ?_
                  refine' zt 7 ?_
                  refine' zt 8 ?_
                  refine wpAnyH_done (by kernel_rfl) ?_ _
                  go_wp2_with fail
                  go_ret
                  exact ⟨rfl, zxt⟩
                · have qod : decide (t < ph) = false := decide_eq_false qo
                  have hwt : IntKind.u64.wrap (t - ph) = t - ph := IntWalk.u64_in _ (by have := HB.out; have h4 := HQ.out.2.2; have h6 := (HW.out _ HXM.out).2.2; change xh < _ at h6; have := shO_nn (ps := ps.take k) (fun x hx => HU.out x (List.mem_of_mem_take hx)) [xv, xs, xp, xf]; omega)
                  have HNT := Lib.hid (show t - ph = xh - shO (ps.take (k + 1)) [xv, xs, xp, xf] ∧ 0 ≤ t - ph from by have := HQ.out; have := HQ2.out; omega)
                  go_wp2_with fail
                  refine wp_region_held_drew (S := fun w' => w'.cell? ⟨w.heap.size, 0, none⟩ = some (.slice (some ⟨b1, o1, none⟩) n c) ∧ w'.cell? ⟨wr.heap.size, 1, none⟩ = some (.int .i64 pv) ∧ w'.cell? ⟨wr.heap.size, 2, none⟩ = some (.int .i64 ps_) ∧ w'.cell? ⟨wr.heap.size, 3, none⟩ = some (.int .i64 pp) ∧ w'.cell? ⟨wr.heap.size, 4, none⟩ = some (.int .i64 pf) ∧ w'.cell? ⟨b1, o1 + k1 * 6, none⟩ = some (.int .i64 xv) ∧ w'.cell? ⟨b1, o1 + k1 * 6 + 1, none⟩ = some (.int .i64 xs) ∧ w'.cell? ⟨b1, o1 + k1 * 6 + 2, none⟩ = some (.int .i64 xp) ∧ w'.cell? ⟨b1, o1 + k1 * 6 + 3, none⟩ = some (.int .i64 xf)) (by kernel_rfl) (by first | exact ⟨b_0, c0_1, c0_2, c0_3, c0_4, x_0, x_1, x_2, x_3⟩ | (simp [go_sem, World.cell?_alloc_past, *]; done)) (fun hHeld => ?_)
                  refine' zt 0 ?_
                  refine' zt 1 ?_
                  refine' zt 2 ?_
                  refine' zt 3 ?_
                  refine' zt 4 ?_
                  refine' zt 5 ?_
                  refine' zt 6 ?_
                  refine' zt 7 ?_
                  refine' zt 8 ?_
                  refine wpAnyH_done (by kernel_rfl) ?_ _
                  go_wp2_with fail
                  go_roundg (gk - 1)
                  case measure => have := HK.out; omega
                  case rel => exact ⟨by have := HK.out; omega, num_eq (by have := HK.out; omega), by rw [show n2 - (gk - 1) = k + 1 from by have := HK.out; omega]; exact u64_eq (by have := HNT.out; omega), by rw [show n2 - (gk - 1) = k + 1 from by have := HK.out; omega]; exact Lib.hid (by have := HNT.out; have := HB.out; omega), ⟨by simp [go_sem, World.cell?_alloc_past, *], by simp [go_sem, World.cell?_alloc_past, *]⟩, Lib.hid zxt⟩
              · have HNT := Lib.hid (show t = xh - shO (ps.take (k + 1)) [xv, xs, xp, xf] from by have h1 := HQ.out.1; rw [if_neg (by simpa using hq)] at h1; have := HQ.out; omega)
                have hqb := four_false hq
                clear hq
                go_wp2_with fail
                refine wp_region_held_drew (S := fun w' => w'.cell? ⟨w.heap.size, 0, none⟩ = some (.slice (some ⟨b1, o1, none⟩) n c) ∧ w'.cell? ⟨wr.heap.size, 1, none⟩ = some (.int .i64 pv) ∧ w'.cell? ⟨wr.heap.size, 2, none⟩ = some (.int .i64 ps_) ∧ w'.cell? ⟨wr.heap.size, 3, none⟩ = some (.int .i64 pp) ∧ w'.cell? ⟨wr.heap.size, 4, none⟩ = some (.int .i64 pf) ∧ w'.cell? ⟨b1, o1 + k1 * 6, none⟩ = some (.int .i64 xv) ∧ w'.cell? ⟨b1, o1 + k1 * 6 + 1, none⟩ = some (.int .i64 xs) ∧ w'.cell? ⟨b1, o1 + k1 * 6 + 2, none⟩ = some (.int .i64 xp) ∧ w'.cell? ⟨b1, o1 + k1 * 6 + 3, none⟩ = some (.int .i64 xf)) (by kernel_rfl) (by first | exact ⟨b_0, c0_1, c0_2, c0_3, c0_4, x_0, x_1, x_2, x_3⟩ | (simp [go_sem, World.cell?_alloc_past, *]; done)) (fun hHeld => ?_)
                refine' zt 0 ?_
                refine' zt 1 ?_
                refine' zt 2 ?_
                refine' zt 3 ?_
                refine' zt 4 ?_
                refine' zt 5 ?_
                refine' zt 6 ?_
                refine' zt 7 ?_
                refine' zt 8 ?_
                refine wpAnyH_done (by kernel_rfl) ?_ _
                go_wp2_with fail
                go_roundg (gk - 1)
                case measure => have := HK.out; omega
                case rel => exact ⟨by have := HK.out; omega, num_eq (by have := HK.out; omega), by rw [show n2 - (gk - 1) = k + 1 from by have := HK.out; omega]; exact u64_eq (by have := HNT.out; omega), by rw [show n2 - (gk - 1) = k + 1 from by have := HK.out; omega]; exact Lib.hid (by have := HNT.out; have := HB.out; omega), ⟨by simp [go_sem, World.cell?_alloc_past, *], by simp [go_sem, World.cell?_alloc_past, *]⟩, Lib.hid zxt⟩
    · have hkn : (k : Int) < (n2 : Int) := by omega
      have hkl : k < ps.length := by have := HLL.out.2; omega
      have HTr := Lib.hid (HT.out.ext XR.out)
      obtain ⟨b2, o2, rfl, hb2, hc_p⟩ := HTr.out.rec_ posC_len (show 0 < n2 from by omega)
      obtain ⟨pw, hl_p⟩ : ∃ x, ps[k]? = some x := ⟨_, List.getElem?_eq_getElem (by omega)⟩
      have p_0 := hc_p (k) pw hl_p 0 _ rfl
      have p_1 := hc_p (k) pw hl_p 1 _ rfl
      have p_2 := hc_p (k) pw hl_p 2 _ rfl
      have p_3 := hc_p (k) pw hl_p 3 _ rfl
      have p_4 := hc_p (k) pw hl_p 4 _ rfl
      have p_5 := hc_p (k) pw hl_p 5 _ rfl
      obtain ⟨po, pv, ps_, pp, pf, ph⟩ := pw
      simp only at p_0 p_1 p_2 p_3 p_4 p_5
      rw [Nat.add_zero] at p_0
      rw [← Nat.add_assoc] at p_1 p_2 p_3 p_4 p_5
      have C2 := Lib.hid (fun w => r13owner_any po w)
      obtain ⟨OB, hOB⟩ : ∃ OB, OB = decide (0 ≤ po ∧ po < 64) := ⟨_, rfl⟩
      rw [← hOB] at C2
      have CCk := Lib.hid (CC.out pv ps_ pp pf)
      have HK := Lib.hid (And.intro hk (And.intro hg hz))
      have HX := Lib.hid (And.intro hl_p hOB)
      have hb2s : ¬ b2 = wr.heap.size := by omega
      have hqs : ¬ w.heap.size = wr.heap.size := by omega
      by_cases hk0 : k = 0
      · subst hk0
        have HP := Lib.hid (show prevGe (prK kP ps 0) [po, pv, ps_, pp, pf] = false from rfl)
        clear hk hg hz hkl hl_p hOB hc_p HTr
        simp only [Nat.zero_mul, Nat.add_zero] at p_0 p_1 p_2 p_3 p_4 p_5
        simp only [Int.cast_ofNat_Int] at hkn ⊢
        go_wp2_with fail
        (with_reducible refine (C2.out _).mono ?_)
        rintro e w_1 ⟨rfl, rfl⟩
        rcases (show OB = false ∨ OB = true from by cases OB <;> simp) with rfl | rfl
        · obtain rfl : V = 3 := HV.out.trans (posV_go (posGo_at HI.out HX.out.1 (posOne_range (of_decide_eq_false HX.out.2.symm)) (by decide)) (by decide))
          go_wp2_with fail
          go_ret
          exact ⟨rfl, zxt⟩
        · go_wp2_with fail
          refine wp_region_held_drew (S := fun w' => True) (by kernel_rfl) (by first | exact trivial | (simp [go_sem, World.cell?_alloc_past, *]; done)) (fun hHeld => ?_)
          refine' zt 0 ?_
          refine' zt 1 ?_
          refine' zt 2 ?_
          refine' zs 3 ?_
          refine' zs 4 ?_
          refine' zs 5 ?_
          refine' zs 6 ?_
          refine' zs 7 ?_
          refine' zs 8 ?_
          refine' zs 9 ?_
          refine' zs 10 ?_
          refine' zs 11 ?_
          refine' zt 12 ?_
          refine' zt 13 ?_
          refine wpAnyH_done (by kernel_rfl) ?_ _
          by_cases q6 : ph = 0
          · have q6c : (ph == 0) = true := by simp [q6]
            obtain rfl : V = 14 := HV.out.trans (posV_go (posGo_at HI.out HX.out.1 (posOne_dust (show 0 ≤ po ∧ po < 64 from of_decide_eq_true HX.out.2.symm) HP.out q6) (by decide)) (by decide))
            go_wp2_with fail
            go_ret
            exact ⟨rfl, zxt⟩
          · have q6c : (ph == 0) = false := by simpa using q6
            go_wp2_with fail
            (with_reducible refine (CCk.out _ zxt).mono ?_)
            rintro e w11 ⟨ci, rfl, hfi, hx11⟩
            replace b_0 : w11.cell? ⟨w.heap.size, 0, none⟩ = some (.slice A n c) := hx11.has zcv
            replace b_1 : w11.cell? ⟨w.heap.size, 1, none⟩ = some (.slice (some ⟨b2, o2, none⟩) n2 c2) := hx11.has zcv
            have z11 := hx11.size
            try simp at z11
            have zq := zrc (show w.heap.size < w11.heap.size from by omega)
            obtain ⟨rb, rba, rbb, rbc, rbn⟩ := zq
            have X11 : Hid (Ext w w11) := Lib.hid (Ext.trans zxt hx11)
            clear p_2 p_5 p_4 p_3 p_1 p_0 XR hx11 z11
            have HFI := Lib.hid hfi
            clear hfi
            rcases HFI.out with ⟨rfl, hN⟩ | ⟨mm, xw, rfl, hM, hG9⟩
            · obtain rfl : V = 10 := HV.out.trans (posV_go (posGo_at HI.out HX.out.1 (posOne_unknown' (show 0 ≤ po ∧ po < 64 from of_decide_eq_true HX.out.2.symm) HP.out q6 hN) (by decide)) (by decide))
              go_wp2_with fail
              go_ret
              exact ⟨rfl, zxt⟩
            · have hmm0 : ¬ (mm : Int) < 0 := by omega
              have HN := Lib.hid (posGo_next HI.out HX.out.1 (posOne_fine (show 0 ≤ po ∧ po < 64 from of_decide_eq_true HX.out.2.symm) HP.out q6 hG9))
              clear hM hG9
              go_wp2_with fail
              go_roundg (gk - 1)
              case measure => have := HK.out; omega
              case rel => exact ⟨by have := HK.out; omega, num_eq (by have := HK.out; omega), by rw [show n2 - (gk - 1) = 0 + 1 from by have := HK.out; omega]; exact HN, ⟨b_0, b_1⟩, Lib.hid zxt⟩
      · obtain ⟨m, rfl⟩ : ∃ m, k = m + 1 := ⟨k - 1, by omega⟩
        obtain ⟨yw, hl_y⟩ : ∃ x, ps[m]? = some x := ⟨_, List.getElem?_eq_getElem (by omega)⟩
        have y_0 := hc_p m yw hl_y 0 _ rfl
        have y_1 := hc_p m yw hl_y 1 _ rfl
        have y_2 := hc_p m yw hl_y 2 _ rfl
        have y_3 := hc_p m yw hl_y 3 _ rfl
        have y_4 := hc_p m yw hl_y 4 _ rfl
        have y_5 := hc_p m yw hl_y 5 _ rfl
        obtain ⟨qo, qv, qs, qp, qf, qh⟩ := yw
        simp only at y_0 y_1 y_2 y_3 y_4 y_5
        rw [Nat.add_zero] at y_0
        rw [← Nat.add_assoc] at y_1 y_2 y_3 y_4 y_5
        obtain ⟨G, hG⟩ : ∃ G, G = decide (cmpK [qo, qv, qs, qp, qf] [po, pv, ps_, pp, pf] < 0) := ⟨_, rfl⟩
        have CG := Lib.hid (fun w => r13below_any qo qv qs qp qf qh po pv ps_ pp pf ph w)
        rw [← hG] at CG
        have HP := Lib.hid (show prevGe (prK kP ps (m + 1)) [po, pv, ps_, pp, pf] = !G from by rw [prK_succ hl_y, hG]; show decide (0 ≤ _) = _; by_cases hh : cmpK [qo, qv, qs, qp, qf] [po, pv, ps_, pp, pf] < 0; rw [decide_eq_true hh]; exact decide_eq_false (by show ¬ 0 ≤ cmpK [qo, qv, qs, qp, qf] _; omega); rw [decide_eq_false hh]; exact decide_eq_true (by show 0 ≤ cmpK [qo, qv, qs, qp, qf] _; omega))
        have hm1 : (m : Int) + 1 - 1 = (m : Int) := by omega
        have hmd : decide ((0 : Int) < (m : Int) + 1) = true := decide_eq_true (by omega)
        have hmp : (0 : Int) < (m : Int) + 1 := by omega
        have hml : (m : Int) < (n2 : Int) := by omega
        have hmw : IntKind.i64.wrap (m : Int) = (m : Int) := IntWalk.i64_in _ (by omega)
        have hmw2 : IntKind.i64.wrap ((m : Int) + 1 - 1) = (m : Int) := by rw [hm1]; exact hmw
        have hms : m ≤ 9223372036854775806 := by omega
        clear hk hg hz hkl hl_p hl_y hOB hG hc_p HTr
        go_wp2_with fail
        (with_reducible refine (C2.out _).mono ?_)
        rintro e w_1 ⟨rfl, rfl⟩
        rcases (show OB = false ∨ OB = true from by cases OB <;> simp) with rfl | rfl
        · obtain rfl : V = 3 := HV.out.trans (posV_go (posGo_at HI.out HX.out.1 (posOne_range (of_decide_eq_false HX.out.2.symm)) (by decide)) (by decide))
          go_wp2_with fail
          go_ret
          exact ⟨rfl, zxt⟩
        · go_wp2_with fail
          refine wp_region_held_drew (S := fun w' => w'.cell? ⟨w.heap.size, 1, none⟩ = some (.slice (some ⟨b2, o2, none⟩) n2 c2) ∧ w'.cell? ⟨wr.heap.size, 0, none⟩ = some (.int .i64 po) ∧ w'.cell? ⟨wr.heap.size, 1, none⟩ = some (.int .i64 pv) ∧ w'.cell? ⟨wr.heap.size, 2, none⟩ = some (.int .i64 ps_) ∧ w'.cell? ⟨wr.heap.size, 3, none⟩ = some (.int .i64 pp) ∧ w'.cell? ⟨wr.heap.size, 4, none⟩ = some (.int .i64 pf) ∧ w'.cell? ⟨wr.heap.size, 5, none⟩ = some (.int .u64 ph) ∧ w'.cell? ⟨b2, o2 + m * 6, none⟩ = some (.int .i64 qo) ∧ w'.cell? ⟨b2, o2 + m * 6 + 1, none⟩ = some (.int .i64 qv) ∧ w'.cell? ⟨b2, o2 + m * 6 + 2, none⟩ = some (.int .i64 qs) ∧ w'.cell? ⟨b2, o2 + m * 6 + 3, none⟩ = some (.int .i64 qp) ∧ w'.cell? ⟨b2, o2 + m * 6 + 4, none⟩ = some (.int .i64 qf) ∧ w'.cell? ⟨b2, o2 + m * 6 + 5, none⟩ = some (.int .u64 qh)) (by kernel_rfl) (by first | exact ⟨b_1, c0_0, c0_1, c0_2, c0_3, c0_4, c0_5, y_0, y_1, y_2, y_3, y_4, y_5⟩ | (simp [go_sem, World.cell?_alloc_past, *]; done)) (fun hHeld => ?_)
          refine' zt 0 ?_
          refine' zt 1 ?_
          refine' zt 2 ?_
          refine' zt 3 ?_
          refine' zt 4 ?_
          refine' zt 5 ?_
          refine' zt 6 ?_
          refine' zt 7 ?_
          refine' zt 8 ?_
          refine' zt 9 ?_
          refine' zn 10 (fun K hK => ?_)
          go_simp
          (with_reducible refine (CG.out _).mono ?_)
          rintro e w11 ⟨rfl, hx11⟩
          replace y_0 : w11.cell? ⟨b2, o2 + m * 6, none⟩ = some (.int .i64 qo) := hx11.has zcv
          replace y_1 : w11.cell? ⟨b2, o2 + m * 6 + 1, none⟩ = some (.int .i64 qv) := hx11.has zcv
          replace y_2 : w11.cell? ⟨b2, o2 + m * 6 + 2, none⟩ = some (.int .i64 qs) := hx11.has zcv
          replace y_3 : w11.cell? ⟨b2, o2 + m * 6 + 3, none⟩ = some (.int .i64 qp) := hx11.has zcv
          replace y_4 : w11.cell? ⟨b2, o2 + m * 6 + 4, none⟩ = some (.int .i64 qf) := hx11.has zcv
          replace y_5 : w11.cell? ⟨b2, o2 + m * 6 + 5, none⟩ = some (.int .u64 qh) := hx11.has zcv
          replace b_0 : w11.cell? ⟨w.heap.size, 0, none⟩ = some (.slice A n c) := hx11.has zcv
          replace b_1 : w11.cell? ⟨w.heap.size, 1, none⟩ = some (.slice (some ⟨b2, o2, none⟩) n2 c2) := hx11.has zcv
          have c0_0 : w11.cell? ⟨wr.heap.size, 0, none⟩ = some (.int .i64 po) := hx11.has zcv
          have c0_1 : w11.cell? ⟨wr.heap.size, 1, none⟩ = some (.int .i64 pv) := hx11.has zcv
          have c0_2 : w11.cell? ⟨wr.heap.size, 2, none⟩ = some (.int .i64 ps_) := hx11.has zcv
          have c0_3 : w11.cell? ⟨wr.heap.size, 3, none⟩ = some (.int .i64 pp) := hx11.has zcv
          have c0_4 : w11.cell? ⟨wr.heap.size, 4, none⟩ = some (.int .i64 pf) := hx11.has zcv
          have c0_5 : w11.cell? ⟨wr.heap.size, 5, none⟩ = some (.int .u64 ph) := hx11.has zcv
          have z11 := hx11.size
          try simp at z11
          have lt_y_c0 : b2 < wr.heap.size := by omega
          have ne_y_c0 : ¬ b2 = wr.heap.size := by omega
          have lt_b_c0 : w.heap.size < wr.heap.size := by omega
          have ne_b_c0 : ¬ w.heap.size = wr.heap.size := by omega
          have ne_c0_y : ¬ wr.heap.size = b2 := by omega
          have ne_c0_b : ¬ wr.heap.size = w.heap.size := by omega
          have zq := zrc (show b2 < w11.heap.size from by omega)
          obtain ⟨ry, rya, ryb, ryc, ryn⟩ := zq
          have zq := zrc (show w.heap.size < w11.heap.size from by omega)
          obtain ⟨rb, rba, rbb, rbc, rbn⟩ := zq
          have zq := zrc (show wr.heap.size < w11.heap.size from by omega)
          obtain ⟨rc0, rc0a, rc0b, rc0c, rc0n⟩ := zq
          have X11 : Hid (Ext w w11) := Lib.hid (Ext.trans zxt hx11)
          clear p_2 p_5 p_4 p_3 p_1 p_0 XR hx11 z11
          refine hK.out _ _ (by (first | exact ⟨b_1, c0_0, c0_1, c0_2, c0_3, c0_4, c0_5, y_0, y_1, y_2, y_3, y_4, y_5⟩ | (simp [go_sem, World.cell?_alloc_past, *]; done))) (fun hHeld => ?_); clear hK K; try simp only [Act.put, List.setIfInBounds_toArray, List.set_cons_zero, List.set_cons_succ]
          refine' zt 11 ?_
          refine' zt 12 ?_
          refine' zt 13 ?_
          refine wpAnyH_done (by kernel_rfl) ?_ _
          rcases (show G = false ∨ G = true from by cases G <;> simp) with rfl | rfl
          · obtain rfl : V = 9 := HV.out.trans (posV_go (posGo_at HI.out HX.out.1 (posOne_order (show 0 ≤ po ∧ po < 64 from of_decide_eq_true HX.out.2.symm) HP.out) (by decide)) (by decide))
            go_wp2_with fail
            go_ret
            exact ⟨rfl, zxt⟩
          · replace HP := Lib.hid HP.out
            by_cases q6 : ph = 0
            · have q6c : (ph == 0) = true := by simp [q6]
              obtain rfl : V = 14 := HV.out.trans (posV_go (posGo_at HI.out HX.out.1 (posOne_dust (show 0 ≤ po ∧ po < 64 from of_decide_eq_true HX.out.2.symm) HP.out q6) (by decide)) (by decide))
              go_wp2_with fail
              go_ret
              exact ⟨rfl, zxt⟩
            · have q6c : (ph == 0) = false := by simpa using q6
              go_wp2_with fail
              (with_reducible refine (CCk.out _ zxt).mono ?_)
              rintro e w12 ⟨ci, rfl, hfi, hx12⟩
              replace y_0 : w12.cell? ⟨b2, o2 + m * 6, none⟩ = some (.int .i64 qo) := hx12.has zcv
              replace y_1 : w12.cell? ⟨b2, o2 + m * 6 + 1, none⟩ = some (.int .i64 qv) := hx12.has zcv
              replace y_2 : w12.cell? ⟨b2, o2 + m * 6 + 2, none⟩ = some (.int .i64 qs) := hx12.has zcv
              replace y_3 : w12.cell? ⟨b2, o2 + m * 6 + 3, none⟩ = some (.int .i64 qp) := hx12.has zcv
              replace y_4 : w12.cell? ⟨b2, o2 + m * 6 + 4, none⟩ = some (.int .i64 qf) := hx12.has zcv
              replace y_5 : w12.cell? ⟨b2, o2 + m * 6 + 5, none⟩ = some (.int .u64 qh) := hx12.has zcv
              replace b_0 : w12.cell? ⟨w.heap.size, 0, none⟩ = some (.slice A n c) := hx12.has zcv
              replace b_1 : w12.cell? ⟨w.heap.size, 1, none⟩ = some (.slice (some ⟨b2, o2, none⟩) n2 c2) := hx12.has zcv
              replace c0_0 : w12.cell? ⟨wr.heap.size, 0, none⟩ = some (.int .i64 po) := hx12.has zcv
              replace c0_1 : w12.cell? ⟨wr.heap.size, 1, none⟩ = some (.int .i64 pv) := hx12.has zcv
              replace c0_2 : w12.cell? ⟨wr.heap.size, 2, none⟩ = some (.int .i64 ps_) := hx12.has zcv
              replace c0_3 : w12.cell? ⟨wr.heap.size, 3, none⟩ = some (.int .i64 pp) := hx12.has zcv
              replace c0_4 : w12.cell? ⟨wr.heap.size, 4, none⟩ = some (.int .i64 pf) := hx12.has zcv
              replace c0_5 : w12.cell? ⟨wr.heap.size, 5, none⟩ = some (.int .u64 ph) := hx12.has zcv
              have z12 := hx12.size
              try simp at z12
              have zq := zrc (show b2 < w12.heap.size from by omega)
              clear ry rya ryb ryc ryn
              obtain ⟨ry, rya, ryb, ryc, ryn⟩ := zq
              have zq := zrc (show w.heap.size < w12.heap.size from by omega)
              clear rb rba rbb rbc rbn
              obtain ⟨rb, rba, rbb, rbc, rbn⟩ := zq
              have zq := zrc (show wr.heap.size < w12.heap.size from by omega)
              clear rc0 rc0a rc0b rc0c rc0n
              obtain ⟨rc0, rc0a, rc0b, rc0c, rc0n⟩ := zq
              have X12 : Hid (Ext w w12) := Lib.hid (Ext.trans zxt hx12)
              clear X11 hx12 z12
              have HFI := Lib.hid hfi
              clear hfi
              rcases HFI.out with ⟨rfl, hN⟩ | ⟨mm, xw, rfl, hM, hG9⟩
              · obtain rfl : V = 10 := HV.out.trans (posV_go (posGo_at HI.out HX.out.1 (posOne_unknown' (show 0 ≤ po ∧ po < 64 from of_decide_eq_true HX.out.2.symm) HP.out q6 hN) (by decide)) (by decide))
                go_wp2_with fail
                go_ret
                exact ⟨rfl, zxt⟩
              · have hmm0 : ¬ (mm : Int) < 0 := by omega
                have HN := Lib.hid (posGo_next HI.out HX.out.1 (posOne_fine (show 0 ≤ po ∧ po < 64 from of_decide_eq_true HX.out.2.symm) HP.out q6 hG9))
                clear hM hG9
                go_wp2_with fail
                go_roundg (gk - 1)
                case measure => have := HK.out; omega
                case rel => exact ⟨by have := HK.out; omega, num_eq (by have := HK.out; omega), by rw [show n2 - (gk - 1) = (m + 1) + 1 from by have := HK.out; omega]; exact HN, ⟨b_0, b_1⟩, Lib.hid zxt⟩
end
section
open Go.RowKit
theorem Off.wf {w w' : World} {g o q : Nat} (h : Off w g o q) (hx : WF g o w w') : Off w' g o q :=
  ⟨by have := h.1; have := hx.but.size; omega, by have := h.2.1; have := hx.but.size; omega, fun hs => h.2.2 (hx.row q h.2.1 hs)⟩
theorem SlB.bel {B G : Nat} {w w' : World} {sz n c : Nat} {A : Option Addr} {xs : List Value} (h : SlB B w sz A n c xs) (hx : Below G w w') (hb : B ≤ G) : SlB B w' sz A n c xs := by
  refine ⟨⟨h.1.1, h.1.2.1, h.1.2.2.1, fun hn => ?_⟩, h.2⟩
  obtain ⟨b, o, e, hlt, hc⟩ := h.1.at_ hn
  have h2 := h.2 hn b o none e
  exact ⟨b, o, e, by have := hx.size; omega, fun j u hu => (hx.cell (p := ⟨b, o + j, none⟩) (show b < G by omega)).trans (hc j u hu)⟩
theorem Ext.bel {a b c : World} {g : Nat} (h : Ext a b) (k : Below g b c) (hg : a.heap.size ≤ g) : Ext a c := Below.trans h (k.mono hg)
end
section
open Go.RowKit
theorem run_app_sl {P : Program} (w : World) (base : Nat) (t ty e : TypeId) (i : TypeInfo) (z : Value) (size bytes : Nat) (ht : P.underlying t = some (.slice e)) (hi : P.info? e = some i) (hz : i.zero = some z)
    (hsize : i.size = size) (hby : i.bytes = bytes) (hzs : z.cells.size = size) (hsz : 0 < size)
    (v : Value) (n : Nat) (xs : List Value) (hown : w.ownsRow base e size v n xs) (A : Option Addr) (m c : Nat) (news : List Value) (hS : Sl w size A m c news) (h1 : ∀ u ∈ news, u.oneCell' = true)
    (hn : n + m < 1099511627776) (hb128 : bytes ≤ 127) (hbase : base ≤ w.heap.size) :
    ∃ v' w', (Builtin.append_ #[t, t] ty #[v, .slice A m c]).run P w = .ok v' w' ∧ w'.ownsRow base e size v' (n + m) (xs ++ news) ∧ But (fun k => v.ownBlock = some k) w w' ∧ (∀ k, v'.ownBlock = some k → v.ownBlock = some k ∨ w.heap.size ≤ k) := by
  have hby2 : (n + m) * bytes ≤ 140737488355328 := by
    have : (n + m) * bytes ≤ 1099511627776 * 127 := Nat.mul_le_mul (by omega) hb128
    omega
  have h63 : n + m ≤ maxLen := by simp [maxLen]; omega
  rcases A with _ | ad
  · have hm : m = 0 := by
      rcases Nat.eq_zero_or_pos m with h0 | h0
      · exact h0
      · obtain ⟨_, _, hh, _⟩ := hS.at_ h0
        cases hh
    subst hm
    have hnw : news = [] := hS.drop0
    subst hnw
    exact ⟨v, w, run_append_none (P := P) w base t ty e i size ht hi v n xs hown c, by simpa using hown, But.refl _ _, fun k hk => .inl hk⟩
  · have hcells : ∀ j u, news[j]? = some u → w.cell? (ad.add j) = some u := by
      intro j u hu
      rcases Nat.eq_zero_or_pos m with h0 | h0
      · subst h0
        rw [hS.drop0] at hu
        simp at hu
      · obtain ⟨b, o', hh, _, hc⟩ := hS.at_ h0
        injection hh with hh
        subst hh
        rw [addr_add]
        exact hc j u hu
    obtain ⟨v', w', hr, g2, g3, _, g5⟩ := run_append_own_at (P := P) w base t ty e i z size bytes ht hi hz hsize hby hzs hsz v n xs hown ad m c news hS.len hcells h1 h63 hby2 hbase
    refine ⟨v', w', hr, g2, But.ofGrown g3, fun k hk => ?_⟩
    rcases g5 with g5 | g5
    · left; rw [← g5]; exact hk
    · right; rw [g5] at hk; injection hk with hk; omega
theorem oper_app {P : Program} {o : Oper} {a : Act} (w : World) {K : Act → World → Prop} {Q : Exit → Act → World → Prop} (s x : Operand) (t : TypeId) (ho : o.op = .call { callee := .builtin .append, args := #[s, x], argTypes := #[t, t] })
    (base : Nat) (e : TypeId) (i : TypeInfo) (z : Value) (size bytes : Nat) (ht : P.underlying t = some (.slice e)) (hi : P.info? e = some i) (hz : i.zero = some z)
    (hsize : i.size = size) (hby : i.bytes = bytes) (hzs : z.cells.size = size) (hsz : 0 < size)
    (v : Value) (n : Nat) (xs : List Value) (hs : a.eval s = v) (hown : w.ownsRow base e size v n xs) (A : Option Addr) (m c : Nat) (news : List Value) (hx : a.eval x = .slice A m c) (hS : Sl w size A m c news) (h1 : ∀ u ∈ news, u.oneCell' = true)
    (hn : n + m < 1099511627776) (hb128 : bytes ≤ 127) (hbase : base ≤ w.heap.size)
    (h : ∀ v' w', w'.ownsRow base e size v' (n + m) (xs ++ news) → But (fun k => v.ownBlock = some k) w w' → (∀ k, v'.ownBlock = some k → v.ownBlock = some k ∨ w.heap.size ≤ k) → K (a.put o.dst v') w') : Oper.wp P o a w K Q := by
  obtain ⟨v', w', hr, h2, h3, h4⟩ := run_app_sl (P := P) w base t o.type e i z size bytes ht hi hz hsize hby hzs hsz v n xs hown A m c news hS h1 hn hb128 hbase
  unfold Oper.wp execOp
  simp only [ho, resolve, invoke, builtin, Sem.run_bind, Sem.run_pure, Result.andThen_ok, List.map_toArray, List.map_cons, List.map_nil, hs, hx, hr]
  exact h v' w' h2 h3 h4
end
section
open Go.RowKit Go.ChangeShapes Go.WideShapes Go.Deep Go.Joins
/-- classes, positions that a reference's step hands back, beside what was handed in -/
def RetC1 (L : List (Int × Int × Int × Int × Int × Int)) (v2 : Value) (w : World) (e : Ending) (w' : World) : Prop := ∃ B d, e = .returned (.agg #[.slice B L.length d, v2]) ∧ (B = none → d = 0) ∧ OwnCls w' w.heap.size (.slice B L.length d) L.length L ∧ Ext w w'
def RetP1 (L : List (Int × Int × Int × Int × Int × Int)) (v1 : Value) (w : World) (e : Ending) (w' : World) : Prop := ∃ B d, e = .returned (.agg #[v1, .slice B L.length d]) ∧ (B = none → d = 0) ∧ OwnPos w' w.heap.size (.slice B L.length d) L.length L ∧ Ext w w'
theorem RetC1.mk {L : List (Int × Int × Int × Int × Int × Int)} {v2 : Value} {b d : Nat} {B : Option Addr} {w w' : World} (hb : w.heap.size ≤ b) (h : w'.ownsRow b 79 6 (.slice B L.length d) L.length (L.flatMap clsC)) (hx : Ext w w') : RetC1 L v2 w (.returned (.agg #[.slice B L.length d, v2])) w' := by
  obtain ⟨B', d', e, h1, _⟩ := own_parts2 h
  obtain ⟨rfl, rfl⟩ : B = B' ∧ d = d' := by simpa using e
  exact ⟨B, d, rfl, h1, own_lower h hb, hx⟩
theorem RetP1.mk {L : List (Int × Int × Int × Int × Int × Int)} {v1 : Value} {b d : Nat} {B : Option Addr} {w w' : World} (hb : w.heap.size ≤ b) (h : w'.ownsRow b 82 6 (.slice B L.length d) L.length (L.flatMap posC)) (hx : Ext w w') : RetP1 L v1 w (.returned (.agg #[v1, .slice B L.length d])) w' := by
  obtain ⟨B', d', e, h1, _⟩ := own_parts2 h
  obtain ⟨rfl, rfl⟩ : B = B' ∧ d = d' := by simpa using e
  exact ⟨B, d, rfl, h1, own_lower h hb, hx⟩
end
section
open Go.RowKit Go.ChangeShapes Go.WideShapes Go.Deep Go.Joins
set_option maxRecDepth 100000 in
set_option maxHeartbeats 4000000 in
theorem kCopyHolding_any (c c2 : Nat) (A A2 : Option Addr) (cl ps : List (Int × Int × Int × Int × Int × Int)) (w : World) (h : Sl w 6 A cl.length c (cl.flatMap clsC)) (h2 : Sl w 6 A2 ps.length c2 (ps.flatMap posC)) (hn : cl.length < 1099511627776) (hn2 : ps.length < 1099511627776) :
    Calls Tryz.prog 13 #[.agg #[.slice A cl.length c, .slice A2 ps.length c2]] w fun r w' => ∃ v, r = .returned v ∧ HoldR cl ps w v w' := by
  obtain ⟨iCls, iCls_0, iCls_1, iCls_2, iCls_3⟩ := info_parts cls_info
  obtain ⟨iPos, iPos_0, iPos_1, iPos_2, iPos_3⟩ := info_parts pos_info
  have HS := Lib.hid h
  have HT := Lib.hid h2
  clear h h2
  go_enter Tryz.func13, Tryz.ntmps13
  go_wp2_with fail
  refine wp_region_held_drew (S := fun w' => w'.cell? ⟨w.heap.size, 0, none⟩ = some (.slice A cl.length c) ∧ w'.cell? ⟨w.heap.size, 1, none⟩ = some (.slice A2 ps.length c2)) (by kernel_rfl) (by (simp [go_sem, World.cell?_alloc_past]; done)) (fun hHeld => ?_)
  refine' zt 1 ?_
  refine' zt 2 ?_
  refine' zt 5 ?_
  refine' zt 6 ?_
  obtain ⟨u0, hu⟩ : ∃ u, u = World.drew ((w.alloc (.cells #[.slice A cl.length c, .slice A2 ps.length c2] 25)).alloc (.cells #[.slice none 0 0, .slice none 0 0] 25)) := ⟨_, rfl⟩
  rw [← hu]
  have XU : Hid (Ext w u0) := Lib.hid (by rw [hu]; repeat (first | with_reducible exact Ext.refl _ | with_reducible refine Ext.drew ?_ | with_reducible refine Ext.drewN ?_ _ | with_reducible refine Ext.alloc ?_ _ | with_reducible refine Ext.setCell ?_ (by first | omega | (simp; done) | (simp; omega)) _))
  have hz0 : w.heap.size + 2 ≤ u0.heap.size := by rw [hu]; simp
  have c0_0 : u0.cell? ⟨w.heap.size, 0, none⟩ = some (.slice A cl.length c) := by rw [hu]; simp [go_sem, World.cell?_alloc_past]
  have c0_1 : u0.cell? ⟨w.heap.size, 1, none⟩ = some (.slice A2 ps.length c2) := by rw [hu]; simp [go_sem, World.cell?_alloc_past]
  have r_0 : u0.cell? ⟨w.heap.size + 1, 0, none⟩ = some (.slice none 0 0) := by rw [hu]; simp [go_sem, World.cell?_alloc_past]
  have r_1 : u0.cell? ⟨w.heap.size + 1, 1, none⟩ = some (.slice none 0 0) := by rw [hu]; simp [go_sem, World.cell?_alloc_past]
  have r_0f : u0.frozen? ⟨w.heap.size + 1, 0, none⟩ = false := by rw [hu]; simp [go_sem, World.cell?_alloc_past]
  have r_1f : u0.frozen? ⟨w.heap.size + 1, 1, none⟩ = false := by rw [hu]; simp [go_sem, World.cell?_alloc_past]
  clear hu
  refine' next2_in 0 4 rfl rfl (by kernel_rfl) (by rfl) (by rfl) (fun K hK => ?_) (fun K hK => ?_)
  · go_simp
    generalize hu : u0.alloc (.cells #[] 79) = u0a
    have hx : Ext u0 u0a := by rw [← hu]; exact (Ext.refl _).alloc _
    have E1 : Hid (World.ownsRow u0a (w.heap.size + 2) 79 6 (.slice (some ⟨u0.heap.size, 0, none⟩) 0 0) 0 []) := Lib.hid (by rw [← hu]; exact own_lower (own_empty _ _ _) (by omega))
    clear hu
    replace r_0f := hx.froz r_0 r_0f
    replace r_1f := hx.froz r_1 r_1f
    replace c0_0 := hx.has c0_0
    replace c0_1 := hx.has c0_1
    replace r_0 := hx.has r_0
    replace r_1 := hx.has r_1
    have hz := Ext.size hx
    replace XU : Hid (Ext w u0a) := Lib.hid (Ext.trans XU.out hx)
    clear hx
    have hq1 : w.heap.size + 2 ≤ u0.heap.size := by omega
    refine hK.out _ _ (by exact ⟨c0_0, c0_1⟩) (fun hHeld => ?_); clear hK K; try simp only [Act.put, List.setIfInBounds_toArray, List.set_cons_zero, List.set_cons_succ]
    refine' next2_in 3 4 rfl rfl (by kernel_rfl) (by rfl) (by rfl) (fun K hK => ?_) (fun K hK => ?_)
    · refine oper_app _ (.tmp 3) (.tmp 5) 22 rfl (w.heap.size + 2) 79 iCls (.agg #[.int .i64 0, .int .i64 0, .int .i64 0, .int .i64 0, .int .u64 0, .int .u64 0]) 6 48 Tryz.underlying22 iCls_0 iCls_1 iCls_2 iCls_3 rfl (by decide) _ 0 [] (by rfl) E1.out A cl.length c (cl.flatMap clsC) (by rfl) (HS.out.ext XU.out) clsC_one (by omega) (by decide) (by omega) ?_
      intro v u0aa hown hx hn
      simp only [Nat.zero_add, List.nil_append] at hown
      obtain ⟨B, d, rfl, _, _⟩ := own_parts2 hown
      have hqq := own_rng E1.out
      replace r_0f := hx.froz (fun hh => by have := hqq _ hh; omega) r_0 r_0f
      replace r_1f := hx.froz (fun hh => by have := hqq _ hh; omega) r_1 r_1f
      replace c0_0 := hx.has (fun hh => by have := hqq _ hh; omega) c0_0
      replace c0_1 := hx.has (fun hh => by have := hqq _ hh; omega) c0_1
      replace r_0 := hx.has (fun hh => by have := hqq _ hh; omega) r_0
      replace r_1 := hx.has (fun hh => by have := hqq _ hh; omega) r_1
      have hz := hx.size
      replace XU : Hid (Ext w u0aa) := Lib.hid (Below.trans XU.out (hx.below (Ext.size XU.out) (fun k hk hh => by have := hqq _ hh; omega)))
      have O1 := Lib.hid hown
      clear hx hown hn hqq E1
      refine hK.out _ _ (by exact ⟨c0_0, c0_1⟩) (fun hHeld => ?_); clear hK K; try simp only [Act.put, List.setIfInBounds_toArray, List.set_cons_zero, List.set_cons_succ]
      refine' zn 4 (fun K hK => ?_)
      go_simp
      generalize hu : u0aa.alloc (.cells #[] 82) = u0aaa
      have hx : Ext u0aa u0aaa := by rw [← hu]; exact (Ext.refl _).alloc _
      have E2 : Hid (World.ownsRow u0aaa (w.heap.size + 2) 82 6 (.slice (some ⟨u0aa.heap.size, 0, none⟩) 0 0) 0 []) := Lib.hid (by rw [← hu]; exact own_lower (own_empty _ _ _) (by omega))
      clear hu
      replace r_0f := hx.froz r_0 r_0f
      replace r_1f := hx.froz r_1 r_1f
      replace c0_0 := hx.has c0_0
      replace c0_1 := hx.has c0_1
      replace r_0 := hx.has r_0
      replace r_1 := hx.has r_1
      have hz := Ext.size hx
      replace O1 := Lib.hid (own_keep O1.out hx)
      replace XU : Hid (Ext w u0aaa) := Lib.hid (Ext.trans XU.out hx)
      clear hx
      refine hK.out _ _ (by exact ⟨c0_0, c0_1⟩) (fun hHeld => ?_); clear hK K; try simp only [Act.put, List.setIfInBounds_toArray, List.set_cons_zero, List.set_cons_succ]
      refine' zn 7 (fun K hK => ?_)
      refine oper_app _ (.tmp 7) (.tmp 9) 23 rfl (w.heap.size + 2) 82 iPos (.agg #[.int .i64 0, .int .i64 0, .int .i64 0, .int .i64 0, .int .i64 0, .int .u64 0]) 6 48 Tryz.underlying23 iPos_0 iPos_1 iPos_2 iPos_3 rfl (by decide) _ 0 [] (by rfl) E2.out A2 ps.length c2 (ps.flatMap posC) (by rfl) (HT.out.ext XU.out) posC_one (by omega) (by decide) (by omega) ?_
      intro v u0aaaa hown hx hn
      simp only [Nat.zero_add, List.nil_append] at hown
      obtain ⟨B2, d2, rfl, _, _⟩ := own_parts2 hown
      have hqq := own_rng E2.out
      replace r_0f := hx.froz (fun hh => by have := hqq _ hh; omega) r_0 r_0f
      replace r_1f := hx.froz (fun hh => by have := hqq _ hh; omega) r_1 r_1f
      replace c0_0 := hx.has (fun hh => by have := hqq _ hh; omega) c0_0
      replace c0_1 := hx.has (fun hh => by have := hqq _ hh; omega) c0_1
      replace r_0 := hx.has (fun hh => by have := hqq _ hh; omega) r_0
      replace r_1 := hx.has (fun hh => by have := hqq _ hh; omega) r_1
      have hz := hx.size
      replace O1 := Lib.hid (own_but1Word O1.out hx (own_apart O1.out E2.out cls_pos))
      replace XU : Hid (Ext w u0aaaa) := Lib.hid (Below.trans XU.out (hx.below (Ext.size XU.out) (fun k hk hh => by have := hqq _ hh; omega)))
      have O2 := Lib.hid hown
      clear hx hown hn hqq E2
      refine hK.out _ _ (by exact ⟨c0_0, c0_1⟩) (fun hHeld => ?_); clear hK K; try simp only [Act.put, List.setIfInBounds_toArray, List.set_cons_zero, List.set_cons_succ]
      refine' zt 8 ?_
      refine' zn 9 (fun K hK => ?_)
      go_simp
      refine hK.out _ _ (by (simp [go_sem, World.cell?_alloc_past, c0_0, c0_1]; done)) (fun hHeld => ?_); clear hK K; try simp only [Act.put, List.setIfInBounds_toArray, List.set_cons_zero, List.set_cons_succ]
      refine wpAnyH_done (by kernel_rfl) ?_ _
      go_wp2_with fail
      refine bodyPost_ret (v := .agg #[.slice B cl.length d, .slice B2 ps.length d2]) (by simp [results, Tryz.results13, go_sem, World.cell?_alloc_past, r_0, r_1, r_0f, r_1f]; try rfl) rfl ⟨_, rfl, holdS_of (b := w.heap.size + 2) (by omega) (show World.ownsRow _ (w.heap.size + 2) _ _ _ _ _ from by repeat (first | with_reducible refine own_box ?_ (by omega) | with_reducible refine World.ownsRow.drew ?_ | exact O1.out)) (show World.ownsRow _ (w.heap.size + 2) _ _ _ _ _ from by repeat (first | with_reducible refine own_box ?_ (by omega) | with_reducible refine World.ownsRow.drew ?_ | exact O2.out)) zSlTel1_2⟩
    · go_simp
      generalize hu : u0a.alloc (.cells #[] 82) = u0aa
      have hx : Ext u0a u0aa := by rw [← hu]; exact (Ext.refl _).alloc _
      have E2 : Hid (World.ownsRow u0aa (w.heap.size + 2) 82 6 (.slice (some ⟨u0a.heap.size, 0, none⟩) 0 0) 0 []) := Lib.hid (by rw [← hu]; exact own_lower (own_empty _ _ _) (by omega))
      clear hu
      replace r_0f := hx.froz r_0 r_0f
      replace r_1f := hx.froz r_1 r_1f
      replace c0_0 := hx.has c0_0
      replace c0_1 := hx.has c0_1
      replace r_0 := hx.has r_0
      replace r_1 := hx.has r_1
      have hz := Ext.size hx
      replace E1 := Lib.hid (own_keep E1.out hx)
      replace XU : Hid (Ext w u0aa) := Lib.hid (Ext.trans XU.out hx)
      clear hx
      refine hK.out _ _ (by exact ⟨c0_0, c0_1⟩) (fun hHeld => ?_); clear hK K; try simp only [Act.put, List.setIfInBounds_toArray, List.set_cons_zero, List.set_cons_succ]
      refine' zn 3 (fun K hK => ?_)
      refine oper_app _ (.tmp 3) (.tmp 5) 22 rfl (w.heap.size + 2) 79 iCls (.agg #[.int .i64 0, .int .i64 0, .int .i64 0, .int .i64 0, .int .u64 0, .int .u64 0]) 6 48 Tryz.underlying22 iCls_0 iCls_1 iCls_2 iCls_3 rfl (by decide) _ 0 [] (by rfl) E1.out A cl.length c (cl.flatMap clsC) (by rfl) (HS.out.ext XU.out) clsC_one (by omega) (by decide) (by omega) ?_
      intro v u0aaa hown hx hn
      simp only [Nat.zero_add, List.nil_append] at hown
      obtain ⟨B, d, rfl, _, _⟩ := own_parts2 hown
      have hqq := own_rng E1.out
      replace r_0f := hx.froz (fun hh => by have := hqq _ hh; omega) r_0 r_0f
      replace r_1f := hx.froz (fun hh => by have := hqq _ hh; omega) r_1 r_1f
      replace c0_0 := hx.has (fun hh => by have := hqq _ hh; omega) c0_0
      replace c0_1 := hx.has (fun hh => by have := hqq _ hh; omega) c0_1
      replace r_0 := hx.has (fun hh => by have := hqq _ hh; omega) r_0
      replace r_1 := hx.has (fun hh => by have := hqq _ hh; omega) r_1
      have hz := hx.size
      replace E2 := Lib.hid (own_but1Word E2.out hx (own_apart E2.out E1.out (fun e => cls_pos e.symm)))
      replace XU : Hid (Ext w u0aaa) := Lib.hid (Below.trans XU.out (hx.below (Ext.size XU.out) (fun k hk hh => by have := hqq _ hh; omega)))
      have O1 := Lib.hid hown
      clear hx hown hn hqq E1
      refine hK.out _ _ (by exact ⟨c0_0, c0_1⟩) (fun hHeld => ?_); clear hK K; try simp only [Act.put, List.setIfInBounds_toArray, List.set_cons_zero, List.set_cons_succ]
      refine' zn 7 (fun K hK => ?_)
      refine oper_app _ (.tmp 7) (.tmp 9) 23 rfl (w.heap.size + 2) 82 iPos (.agg #[.int .i64 0, .int .i64 0, .int .i64 0, .int .i64 0, .int .i64 0, .int .u64 0]) 6 48 Tryz.underlying23 iPos_0 iPos_1 iPos_2 iPos_3 rfl (by decide) _ 0 [] (by rfl) E2.out A2 ps.length c2 (ps.flatMap posC) (by rfl) (HT.out.ext XU.out) posC_one (by omega) (by decide) (by omega) ?_
      intro v u0aaaa hown hx hn
      simp only [Nat.zero_add, List.nil_append] at hown
      obtain ⟨B2, d2, rfl, _, _⟩ := own_parts2 hown
      have hqq := own_rng E2.out
      replace r_0f := hx.froz (fun hh => by have := hqq _ hh; omega) r_0 r_0f
      replace r_1f := hx.froz (fun hh => by have := hqq _ hh; omega) r_1 r_1f
      replace c0_0 := hx.has (fun hh => by have := hqq _ hh; omega) c0_0
      replace c0_1 := hx.has (fun hh => by have := hqq _ hh; omega) c0_1
      replace r_0 := hx.has (fun hh => by have := hqq _ hh; omega) r_0
      replace r_1 := hx.has (fun hh => by have := hqq _ hh; omega) r_1
      have hz := hx.size
      replace O1 := Lib.hid (own_but1Word O1.out hx (own_apart O1.out E2.out cls_pos))
      replace XU : Hid (Ext w u0aaaa) := Lib.hid (Below.trans XU.out (hx.below (Ext.size XU.out) (fun k hk hh => by have := hqq _ hh; omega)))
      have O2 := Lib.hid hown
      clear hx hown hn hqq E2
      refine hK.out _ _ (by exact ⟨c0_0, c0_1⟩) (fun hHeld => ?_); clear hK K; try simp only [Act.put, List.setIfInBounds_toArray, List.set_cons_zero, List.set_cons_succ]
      refine' zt 8 ?_
      refine' zn 9 (fun K hK => ?_)
      go_simp
      refine hK.out _ _ (by (simp [go_sem, World.cell?_alloc_past, c0_0, c0_1]; done)) (fun hHeld => ?_); clear hK K; try simp only [Act.put, List.setIfInBounds_toArray, List.set_cons_zero, List.set_cons_succ]
      refine wpAnyH_done (by kernel_rfl) ?_ _
      go_wp2_with fail
      refine bodyPost_ret (v := .agg #[.slice B cl.length d, .slice B2 ps.length d2]) (by simp [results, Tryz.results13, go_sem, World.cell?_alloc_past, r_0, r_1, r_0f, r_1f]; try rfl) rfl ⟨_, rfl, holdS_of (b := w.heap.size + 2) (by omega) (show World.ownsRow _ (w.heap.size + 2) _ _ _ _ _ from by repeat (first | with_reducible refine own_box ?_ (by omega) | with_reducible refine World.ownsRow.drew ?_ | exact O1.out)) (show World.ownsRow _ (w.heap.size + 2) _ _ _ _ _ from by repeat (first | with_reducible refine own_box ?_ (by omega) | with_reducible refine World.ownsRow.drew ?_ | exact O2.out)) zSlTel1_2⟩
  · go_simp
    generalize hu : u0.alloc (.cells #[] 82) = u0a
    have hx : Ext u0 u0a := by rw [← hu]; exact (Ext.refl _).alloc _
    have E2 : Hid (World.ownsRow u0a (w.heap.size + 2) 82 6 (.slice (some ⟨u0.heap.size, 0, none⟩) 0 0) 0 []) := Lib.hid (by rw [← hu]; exact own_lower (own_empty _ _ _) (by omega))
    clear hu
    replace r_0f := hx.froz r_0 r_0f
    replace r_1f := hx.froz r_1 r_1f
    replace c0_0 := hx.has c0_0
    replace c0_1 := hx.has c0_1
    replace r_0 := hx.has r_0
    replace r_1 := hx.has r_1
    have hz := Ext.size hx
    replace XU : Hid (Ext w u0a) := Lib.hid (Ext.trans XU.out hx)
    clear hx
    refine hK.out _ _ (by exact ⟨c0_0, c0_1⟩) (fun hHeld => ?_); clear hK K; try simp only [Act.put, List.setIfInBounds_toArray, List.set_cons_zero, List.set_cons_succ]
    refine' zn 0 (fun K hK => ?_)
    go_simp
    generalize hu : u0a.alloc (.cells #[] 79) = u0aa
    have hx : Ext u0a u0aa := by rw [← hu]; exact (Ext.refl _).alloc _
    have E1 : Hid (World.ownsRow u0aa (w.heap.size + 2) 79 6 (.slice (some ⟨u0a.heap.size, 0, none⟩) 0 0) 0 []) := Lib.hid (by rw [← hu]; exact own_lower (own_empty _ _ _) (by omega))
    clear hu
    replace r_0f := hx.froz r_0 r_0f
    replace r_1f := hx.froz r_1 r_1f
    replace c0_0 := hx.has c0_0
    replace c0_1 := hx.has c0_1
    replace r_0 := hx.has r_0
    replace r_1 := hx.has r_1
    have hz := Ext.size hx
    replace E2 := Lib.hid (own_keep E2.out hx)
    replace XU : Hid (Ext w u0aa) := Lib.hid (Ext.trans XU.out hx)
    clear hx
    have hq1 : w.heap.size + 2 ≤ u0a.heap.size := by omega
    refine hK.out _ _ (by exact ⟨c0_0, c0_1⟩) (fun hHeld => ?_); clear hK K; try simp only [Act.put, List.setIfInBounds_toArray, List.set_cons_zero, List.set_cons_succ]
    refine' zn 3 (fun K hK => ?_)
    refine oper_app _ (.tmp 3) (.tmp 5) 22 rfl (w.heap.size + 2) 79 iCls (.agg #[.int .i64 0, .int .i64 0, .int .i64 0, .int .i64 0, .int .u64 0, .int .u64 0]) 6 48 Tryz.underlying22 iCls_0 iCls_1 iCls_2 iCls_3 rfl (by decide) _ 0 [] (by rfl) E1.out A cl.length c (cl.flatMap clsC) (by rfl) (HS.out.ext XU.out) clsC_one (by omega) (by decide) (by omega) ?_
    intro v u0aaa hown hx hn
    simp only [Nat.zero_add, List.nil_append] at hown
    obtain ⟨B, d, rfl, _, _⟩ := own_parts2 hown
    have hqq := own_rng E1.out
    replace r_0f := hx.froz (fun hh => by have := hqq _ hh; omega) r_0 r_0f
    replace r_1f := hx.froz (fun hh => by have := hqq _ hh; omega) r_1 r_1f
    replace c0_0 := hx.has (fun hh => by have := hqq _ hh; omega) c0_0
    replace c0_1 := hx.has (fun hh => by have := hqq _ hh; omega) c0_1
    replace r_0 := hx.has (fun hh => by have := hqq _ hh; omega) r_0
    replace r_1 := hx.has (fun hh => by have := hqq _ hh; omega) r_1
    have hz := hx.size
    replace E2 := Lib.hid (own_but1Word E2.out hx (own_apart E2.out E1.out (fun e => cls_pos e.symm)))
    replace XU : Hid (Ext w u0aaa) := Lib.hid (Below.trans XU.out (hx.below (Ext.size XU.out) (fun k hk hh => by have := hqq _ hh; omega)))
    have O1 := Lib.hid hown
    clear hx hown hn hqq E1
    refine hK.out _ _ (by exact ⟨c0_0, c0_1⟩) (fun hHeld => ?_); clear hK K; try simp only [Act.put, List.setIfInBounds_toArray, List.set_cons_zero, List.set_cons_succ]
    refine' zn 7 (fun K hK => ?_)
    refine oper_app _ (.tmp 7) (.tmp 9) 23 rfl (w.heap.size + 2) 82 iPos (.agg #[.int .i64 0, .int .i64 0, .int .i64 0, .int .i64 0, .int .i64 0, .int .u64 0]) 6 48 Tryz.underlying23 iPos_0 iPos_1 iPos_2 iPos_3 rfl (by decide) _ 0 [] (by rfl) E2.out A2 ps.length c2 (ps.flatMap posC) (by rfl) (HT.out.ext XU.out) posC_one (by omega) (by decide) (by omega) ?_
    intro v u0aaaa hown hx hn
    simp only [Nat.zero_add, List.nil_append] at hown
    obtain ⟨B2, d2, rfl, _, _⟩ := own_parts2 hown
    have hqq := own_rng E2.out
    replace r_0f := hx.froz (fun hh => by have := hqq _ hh; omega) r_0 r_0f
    replace r_1f := hx.froz (fun hh => by have := hqq _ hh; omega) r_1 r_1f
    replace c0_0 := hx.has (fun hh => by have := hqq _ hh; omega) c0_0
    replace c0_1 := hx.has (fun hh => by have := hqq _ hh; omega) c0_1
    replace r_0 := hx.has (fun hh => by have := hqq _ hh; omega) r_0
    replace r_1 := hx.has (fun hh => by have := hqq _ hh; omega) r_1
    have hz := hx.size
    replace O1 := Lib.hid (own_but1Word O1.out hx (own_apart O1.out E2.out cls_pos))
    replace XU : Hid (Ext w u0aaaa) := Lib.hid (Below.trans XU.out (hx.below (Ext.size XU.out) (fun k hk hh => by have := hqq _ hh; omega)))
    have O2 := Lib.hid hown
    clear hx hown hn hqq E2
    refine hK.out _ _ (by exact ⟨c0_0, c0_1⟩) (fun hHeld => ?_); clear hK K; try simp only [Act.put, List.setIfInBounds_toArray, List.set_cons_zero, List.set_cons_succ]
    refine' zt 8 ?_
    refine' zn 9 (fun K hK => ?_)
    go_simp
    refine hK.out _ _ (by (simp [go_sem, World.cell?_alloc_past, c0_0, c0_1]; done)) (fun hHeld => ?_); clear hK K; try simp only [Act.put, List.setIfInBounds_toArray, List.set_cons_zero, List.set_cons_succ]
    refine wpAnyH_done (by kernel_rfl) ?_ _
    go_wp2_with fail
    refine bodyPost_ret (v := .agg #[.slice B cl.length d, .slice B2 ps.length d2]) (by simp [results, Tryz.results13, go_sem, World.cell?_alloc_past, r_0, r_1, r_0f, r_1f]; try rfl) rfl ⟨_, rfl, holdS_of (b := w.heap.size + 2) (by omega) (show World.ownsRow _ (w.heap.size + 2) _ _ _ _ _ from by repeat (first | with_reducible refine own_box ?_ (by omega) | with_reducible refine World.ownsRow.drew ?_ | exact O1.out)) (show World.ownsRow _ (w.heap.size + 2) _ _ _ _ _ from by repeat (first | with_reducible refine own_box ?_ (by omega) | with_reducible refine World.ownsRow.drew ?_ | exact O2.out)) zSlTel1_2⟩
end
section
open Go.RowKit Go.ChangeShapes Go.WideShapes Go.Deep Go.Joins
theorem rBk (V S P F v h : Int) (hh : h ≤ 4294967296) (w : World) : Calls Tryz.prog 86 #[.agg #[.int .i64 V, .int .i64 S, .int .i64 P, .int .i64 F], .int .i64 v, .int .i64 h, .int .i64 (-1)] w fun r w' => r = .returned (.bool (bkdB V S P F v h 0)) ∧ Ext w w' := by
  have H := rBacked12_any V S P F v h (-1) (by omega) w
  rw [bkdB_neg] at H
  exact H
end
section
open Go.RowKit Go.Shelf Go.ChangeShapes Go.WideShapes Go.Deep Go.Joins
attribute [local go_sem] Oper.semAt_some

/-- an owner's positions; what Of hands back -/
def ofF (O : Int) (ps : List (Int × Int × Int × Int × Int × Int)) : List (Int × Int × Int × Int × Int × Int) := ps.filter (fun x => decide (x.1 = O))
def RetPs (L : List (Int × Int × Int × Int × Int × Int)) (E : Int) (w : World) (r : Ending) (w' : World) : Prop := ∃ A c, r = .returned (.tuple #[.slice A L.length c, .int .i64 E]) ∧ (A = none → c = 0) ∧ OwnPos w' w.heap.size (.slice A L.length c) L.length L ∧ Ext w w'
theorem RetPs.mk {L : List (Int × Int × Int × Int × Int × Int)} {E : Int} {w w' : World} {A : Option Addr} {c b : Nat} (hb : w.heap.size ≤ b) (h : OwnPos w' b (.slice A L.length c) L.length L) (hx : Ext w w') : RetPs L E w (.returned (.tuple #[.slice A L.length c, .int .i64 E])) w' := by
  obtain ⟨A', c', e, h1, _⟩ := own_parts2 h
  obtain ⟨rfl, rfl⟩ : A = A' ∧ c = c' := by simpa using e
  exact ⟨A, c, rfl, h1, own_lower h hb, hx⟩
theorem ofF_snoc (O : Int) (ps : List (Int × Int × Int × Int × Int × Int)) (x : (Int × Int × Int × Int × Int × Int)) : ofF O (ps ++ [x]) = if x.1 = O then ofF O ps ++ [x] else ofF O ps := by
  unfold ofF
  rw [List.filter_append]
  by_cases h : x.1 = O
  · rw [if_pos h]; simp [h]
  · rw [if_neg h]; simp [h]
theorem own_put {w : World} {base n sz l : Nat} {e : TypeId} {v : Value} {xs : List Value} {ob o' : Obj} (h : w.ownsRow base e sz v n xs) (hl : w.heap[l]? = some ob) (hnc : ob.isCells = false) : (w.putObj l o').ownsRow base e sz v n xs := own_but1Word h (but_putObj (S := fun k => k = l) w l o' rfl) (fun j hj hh => by
  have h9 : j = l := hh
  obtain ⟨_, _, cs, h2⟩ := own_block h hj
  rw [h9, hl] at h2
  obtain rfl := Option.some.inj h2
  cases hnc)
theorem PI.put {b q B l : Nat} {O : Int} {L : List (Int × Int × Int × Int × Int × Int)} {w W : World} {ob o' : Obj} (h : PI b q B O L w W) (hl : W.heap[l]? = some ob) (hnc : ob.isCells = false) (hw : w.heap.size ≤ l) : PI b q B O L w (W.putObj l o') := by
  obtain ⟨A, c, h1, h2⟩ := h.r
  refine ⟨cell_put2 h.o0 hl hnc, ⟨A, c, cell_put2 h1 hl hnc, own_put h2 hl hnc⟩, ?_, ext_put h.x hw⟩
  refine (but_putObj (S := fun k => k = l) W l o' rfl).froz (fun hh => ?_) h1 h.f0
  have h9 : q = l := hh
  obtain ⟨o2, h3, h4⟩ := cells_of_cell h1
  simp only at h3
  rw [h9, hl] at h3
  obtain rfl := Option.some.inj h3
  rw [hnc] at h4
  cases h4
set_option maxRecDepth 100000 in
set_option maxHeartbeats 4000000 in
theorem hOf_bad (n c n2 c2 : Nat) (A A2 : Option Addr) (cl ps : List (Int × Int × Int × Int × Int × Int)) (O E : Int) (w : World) (C1 : Hid (∀ w', Ext w w' → Calls Tryz.prog 14 #[.agg #[.slice A n c, .slice A2 n2 c2]] w' fun r w'' => r = .returned (.int .i64 E) ∧ Ext w' w'')) (he : ¬ E = 0) :
    Calls Tryz.prog 40 #[.agg #[.slice A n c, .slice A2 n2 c2], .int .i64 O] w (RetPs [] E w) := by
  have heb : (E != 0) = true := by simpa using he
  refine (callsIn_wide (n := 6)).1 ?_
  refine callsIn_of_wp_marks Tryz.func40 rfl trivial ?_ rfl
  simp only [Tryz.ntmps40, List.size_toArray, List.length_cons, List.length_nil, Nat.reduceAdd, Nat.reduceSub, Array.replicate_succ, Array.replicate_zero, List.push_toArray, List.append_toArray, List.nil_append, List.cons_append]
  gi_wp2_with fail
  refine ⟨trivial, ?_⟩
  (with_reducible refine (callsIn_wide.2 (C1.out _ zxt)).mono ?_)
  rintro e w1 ⟨rfl, hx1⟩
  have z1 := hx1.size
  try simp at z1
  have X1 : Hid (Ext w w1) := Lib.hid (Ext.trans zxt hx1)
  clear hx1 z1
  gi_wp2_with fail
  exact ⟨.tuple #[.slice none 0 0, .int .i64 E], by simp [results, Tryz.results40, go_sem, World.cell?_alloc_past]; try rfl, RetPs.mk (L := []) (Nat.le_refl _) (OwnPos.nil _ _) zxt⟩
set_option maxRecDepth 100000 in
set_option maxHeartbeats 4000000 in
theorem hOf_ok (n c n2 c2 : Nat) (A A2 : Option Addr) (cl ps : List (Int × Int × Int × Int × Int × Int)) (O : Int) (w : World) (h : Sl w 6 A n c (cl.flatMap clsC)) (h2 : Sl w 6 A2 n2 c2 (ps.flatMap posC)) (hw : ∀ x ∈ cl, WdC x) (hw2 : ∀ x ∈ ps, WdP x) (hn2 : n2 < 1099511000) (C1 : Hid (∀ w', Ext w w' → Calls Tryz.prog 14 #[.agg #[.slice A n c, .slice A2 n2 c2]] w' fun r w'' => r = .returned (.int .i64 0) ∧ Ext w' w'')) :
    Calls Tryz.prog 40 #[.agg #[.slice A n c, .slice A2 n2 c2], .int .i64 O] w (RetPs (ofF O ps) 0 w) := by
  have HS := Lib.hid h.low
  have HT := Lib.hid h2.low
  have HW := Lib.hid (And.intro hw hw2)
  have hll := h2.rlen posC_len (by decide)
  have HLL := Lib.hid hll
  have hlen := h2.rlen posC_len (by decide)
  have hsm2 := h2.small
  obtain ⟨iPos, iPos_0, iPos_1, iPos_2, iPos_3⟩ := info_parts pos_info
  obtain ⟨G, hG⟩ : ∃ G, G = ofF O ps := ⟨_, rfl⟩
  rw [← hG]
  have HG := Lib.hid hG
  clear hG hlen
  clear h h2 hw hw2 hll
  refine (callsIn_wide (n := 6)).1 ?_
  refine callsIn_of_wp_marks Tryz.func40 rfl trivial ?_ rfl
  simp only [Tryz.ntmps40, List.size_toArray, List.length_cons, List.length_nil, Nat.reduceAdd, Nat.reduceSub, Array.replicate_succ, Array.replicate_zero, List.push_toArray, List.append_toArray, List.nil_append, List.cons_append]
  gi_wp2_with fail
  refine ⟨trivial, ?_⟩
  (with_reducible refine (callsIn_wide.2 (C1.out _ zxt)).mono ?_)
  rintro e w1 ⟨rfl, hx1⟩
  have c0_0 : w1.cell? ⟨w.heap.size, 0, none⟩ = some (.slice A n c) := hx1.has zcv
  have c0_1 : w1.cell? ⟨w.heap.size, 1, none⟩ = some (.slice A2 n2 c2) := hx1.has zcv
  have c1_0 : w1.cell? ⟨w.heap.size + 1, 0, none⟩ = some (.int .i64 O) := hx1.has zcv
  have z1 := hx1.size
  try simp at z1
  have lt_c0_c1 : w.heap.size < w.heap.size + 1 := by omega
  have ne_c0_c1 : ¬ w.heap.size = w.heap.size + 1 := by omega
  have ne_c1_c0 : ¬ w.heap.size + 1 = w.heap.size := by omega
  have zq := zrc (show w.heap.size < w1.heap.size from by omega)
  obtain ⟨rc0, rc0a, rc0b, rc0c, rc0n⟩ := zq
  have zq := zrc (show w.heap.size + 1 < w1.heap.size from by omega)
  obtain ⟨rc1, rc1a, rc1b, rc1c, rc1n⟩ := zq
  replace HS := Lib.hid (HS.out.ext (Ext.trans zxt hx1))
  replace HT := Lib.hid (HT.out.ext (Ext.trans zxt hx1))
  have X1 : Hid (Ext w w1) := Lib.hid (Ext.trans zxt hx1)
  clear hx1
  gi_wp2_with fail
  refine ⟨trivial, (hworths_in _ _ trivial rfl _ _ _ _ _ _ _).mono ?_⟩
  rintro e w0 ⟨rfl, hw0⟩
  have hx0 : Ext w1 w0 := by rw [hw0]; exact ((Ext.refl _).alloc _).alloc _
  have hz0 : w0.heap.size = w1.heap.size + 1 + 1 := by rw [hw0]; simp
  have hc0 : w0.cell? ⟨w1.heap.size + 1, 0, none⟩ = some (.slice A n c) := by rw [hw0]; simp [go_sem, World.cell?_alloc_past]
  have hc1 : w0.cell? ⟨w1.heap.size + 1, 1, none⟩ = some (.slice A2 n2 c2) := by rw [hw0]; simp [go_sem, World.cell?_alloc_past]
  have hs0 : w0.cell? ⟨w1.heap.size, 0, none⟩ = some (.slice none 0 0) := by rw [hw0]; simp [go_sem, World.cell?_alloc_past]
  have hf0 : w0.frozen? ⟨w1.heap.size, 0, none⟩ = false := by rw [hw0]; simp [go_sem, World.cell?_alloc_past]
  have HVI : PI (w.heap.size + 1) (w1.heap.size) w0.heap.size O (ofF O []) w w0 := ⟨hx0.has c1_0, ⟨none, 0, hs0, OwnPos.nil _ _⟩, hf0, Ext.trans X1.out hx0⟩
  have HS0 := SlB.ext HS.out hx0
  have HT0 := SlB.ext HT.out hx0
  have hzw : w.heap.size + 2 ≤ w1.heap.size := by omega
  clear hw0 hx0 hs0 hf0
  gi_wp2_with fail
  refine rangeFunc_stop rfl (by decide) (gf := 149) (lb := #[.pointer (some ⟨w1.heap.size + 1, 0, none⟩)]) rfl trivial (enters_of Tryz.func149 (by kernel_rfl) rfl) (enc := fun x : (Int × Int × Int × Int × Int × Int) => #[.agg #[.int .i64 x.1, .int .i64 x.2.1, .int .i64 x.2.2.1, .int .i64 x.2.2.2.1, .int .i64 x.2.2.2.2.1, .int .u64 x.2.2.2.2.2], .int .u64 (wvl cl x)]) (xs := ps) (S := fun k => k = w1.heap.size ∨ w0.heap.size ≤ k) (fun k hk => .inr hk)
    (fun q J Jx W hW hJ hX hY h0 => hworths1_in 5 (by decide) q (w1.heap.size + 1) n c n2 c2 w.heap.size (fun k => k = w1.heap.size ∨ w0.heap.size ≤ k) A A2 cl ps J Jx W HW.out.1 HW.out.2 hJ hY (fun k hk => by rcases hk with h9 | h9 <;> omega) (fun hh => by rcases hh with h9 | h9 <;> omega) (Ext.has hW hc0) (Ext.has hW hc1) (SlB.ext HS0 hW) (SlB.ext HT0 hW) h0)
    (fun _ => rfl)
    (fun pre W => PI (w.heap.size + 1) (w1.heap.size) w0.heap.size O (ofF O pre) w W)
    (fun pre W => False)
    (fun s A A' hs hx => hs) (fun s A A' hs hx => hs.ext hx) (fun s A q o o' hs hq ho hnc => hs.put ho hnc (by omega)) (fun s A q o o' hs hq ho hnc => hs) HVI
    (fun pre x a' W => ∃ p, a' = { tmps := #[.agg #[.slice A n c, .slice A2 n2 c2], .int .i64 O, .pointer (some ⟨w.heap.size, 0, none⟩), .pointer (some ⟨w.heap.size + 1, 0, none⟩), .slice none 0 0, .int .i64 0, .int .i64 0, .pointer (some ⟨w1.heap.size, 0, none⟩), .pointer (some ⟨p, 0, none⟩), .agg #[.slice A n c, .slice A2 n2 c2], .int .i64 0, .int .i64 0, .bool false, undef, .agg #[.slice A n c, .slice A2 n2 c2], .func (.func 149) #[] #[.pointer (some ⟨w1.heap.size + 1, 0, none⟩)], .agg #[.int .i64 x.1, .int .i64 x.2.1, .int .i64 x.2.2.1, .int .i64 x.2.2.2.1, .int .i64 x.2.2.2.2.1, .int .u64 x.2.2.2.2.2], .int .u64 (wvl cl x), undef, undef, undef, undef, undef, undef, undef, undef, undef], defers := [] } ∧ (W.cell? ⟨p, 0, none⟩ = some (.int .i64 x.1) ∧ W.cell? ⟨p, 1, none⟩ = some (.int .i64 x.2.1) ∧ W.cell? ⟨p, 2, none⟩ = some (.int .i64 x.2.2.1) ∧ W.cell? ⟨p, 3, none⟩ = some (.int .i64 x.2.2.2.1) ∧ W.cell? ⟨p, 4, none⟩ = some (.int .i64 x.2.2.2.2.1) ∧ W.cell? ⟨p, 5, none⟩ = some (.int .u64 x.2.2.2.2.2)) ∧ w0.heap.size ≤ p ∧ PI (w.heap.size + 1) (w1.heap.size) w0.heap.size O (ofF O pre) w W)
    (fun s x a A q o o' hs hq ho hnc => ?put) ?assign ?body ?done (fun D pre W hD hpre hf => hf.elim)
  case put =>
    obtain ⟨p, h1, ⟨h2, h3, h4, h5, h6, h7⟩, h8, h9⟩ := hs
    exact ⟨p, h1, ⟨cell_put2 h2 ho hnc, cell_put2 h3 ho hnc, cell_put2 h4 ho hnc, cell_put2 h5 ho hnc, cell_put2 h6 ho hnc, cell_put2 h7 ho hnc⟩, h8, h9.put ho hnc (by omega)⟩
  case assign =>
    intro q pre x W K hI hpre hzW hK
    gi_wp2
    refine hK _ _ (KeepsOthers.alloc _ _) ((But.refl _ _).alloc _) ⟨W.heap.size, rfl, ⟨by simp [go_sem, World.cell?_alloc_past], by simp [go_sem, World.cell?_alloc_past], by simp [go_sem, World.cell?_alloc_past], by simp [go_sem, World.cell?_alloc_past], by simp [go_sem, World.cell?_alloc_past], by simp [go_sem, World.cell?_alloc_past]⟩, hzW, hI.ext ((Ext.refl _).alloc _)⟩
  case body =>
    rintro q pre x a' W ⟨p, rfl, ⟨p_0, p_1, p_2, p_3, p_4, p_5⟩, hp, hV⟩ hpx hzW
    have HV := Lib.hid hV
    have o_0 := hV.o0
    obtain ⟨A9, c9, s_0, hown⟩ := hV.r
    have s_0f := hV.f0
    have hsn := ofF_snoc O pre x
    have hlb : (ofF O pre).length ≤ n2 := by
      have h1 : (ofF O pre).length ≤ pre.length := List.length_filter_le _ _
      have h2 := hpx.length_le
      rw [List.length_append] at h2
      have := HLL.out
      omega
    obtain ⟨L, hL⟩ : ∃ L, L = ofF O pre := ⟨_, rfl⟩
    rw [← hL] at s_0 hown hsn hlb
    have HL := Lib.hid hL
    have HO := Lib.hid hown
    obtain ⟨x1, x2, x3, x4, x5, x6⟩ := x
    simp only at p_0 p_1 p_2 p_3 p_4 p_5 hsn
    have HSN := Lib.hid hsn
    clear hV hpx hL hown hsn
    by_cases e0 : x1 = O
    · have e0b : (x1 == O) = true := by simp [e0]
      have HE := Lib.hid (HSN.out.trans (if_pos e0))
      clear e0
      gi_wp2_with (gi_at_builtin; refine Hid.out ?_)
      refine Lib.hid ?_
      refine wpListIn_append_own _ rfl _ _ 23 rfl w0.heap.size 82 iPos (.agg #[.int .i64 0, .int .i64 0, .int .i64 0, .int .i64 0, .int .i64 0, .int .u64 0]) 6 48 Tryz.underlying23 iPos_0 iPos_1 iPos_2 iPos_3 rfl (by decide) _ L.length (L.flatMap posC) rfl (own_keep HO.out ((Ext.refl _).alloc _)) ⟨W.heap.size, 0, none⟩ 1 1 [.int .i64 x1, .int .i64 x2, .int .i64 x3, .int .i64 x4, .int .i64 x5, .int .u64 x6] rfl rfl (by intro j u hu; rw [addr_add, Nat.zero_add, cell_of_row _ _ j _ _ (0, 0) (heap_alloc_new _ _)]; simpa using hu) (by intro u hu; simp at hu; rcases hu with rfl | rfl | rfl | rfl | rfl | rfl <;> rfl) (by simp [maxLen]; omega) (by omega) (by simp; omega) ?_
      intro v' w9 hown' hgrow _
      have hrg := own_rng HO.out
      have hb := But.ofGrown hgrow
      have hsN : w9.cell? ⟨w1.heap.size, 0, none⟩ = some (.slice A9 L.length c9) := hb.has (fun hh => by have := hrg _ hh; omega) (Ext.has ((Ext.refl W).alloc _) s_0)
      have hfN : w9.frozen? ⟨w1.heap.size, 0, none⟩ = false := hb.froz (fun hh => by have := hrg _ hh; omega) (v := .slice A9 L.length c9) (Ext.has ((Ext.refl W).alloc _) s_0) (Ext.froz ((Ext.refl W).alloc _) s_0 s_0f)
      have hoN : w9.cell? ⟨w.heap.size + 1, 0, none⟩ = some (.int .i64 O) := hb.has (fun hh => by have := hrg _ hh; omega) (Ext.has ((Ext.refl W).alloc _) o_0)
      have hbW := Lib.hid ((But.ofExt ((Ext.refl W).alloc _)).trans hb)
      obtain ⟨A8, c8, rfl, hnil, hO8⟩ := own_app (f := posC) (x1, x2, x3, x4, x5, x6) hown' rfl rfl
      have HO8 := Lib.hid hO8
      have hko := Lib.hid ((KeepsOthers.alloc W _).trans (KeepsOthers.of_grownBy hgrow (fun j ob hj hob => by obtain ⟨_, _, cs, h2⟩ := own_block (own_keep HO.out ((Ext.refl _).alloc _)) hj; rw [hob] at h2; obtain rfl := Option.some.inj h2; rfl)))
      clear hown' hgrow hb hnil hO8 hrg
      gi_wp2
      refine ⟨hko.out.trans (KeepsOthers.setCell _ _ _), ((hbW.out).mono (fun k _ hk => by have := own_rng HO.out _ hk; right; omega)).setCell (p := ⟨w1.heap.size, 0, none⟩) (.inl rfl) _, ?_⟩
      have h := HV.out
      rw [HE.out]
      exact ⟨by simp [go_sem, hoN], ⟨A8, c8, by simp [go_sem, hsN], own_box HO8.out (by omega)⟩, by simp [go_sem, hsN, hfN], Below.setCell (p := ⟨w1.heap.size, 0, none⟩) (Below.trans h.x (hbW.out.below (Ext.size h.x) (fun k hk hh => by have := own_rng HO.out _ hh; omega))) (by simp; omega) _⟩
    · have e0b : (x1 == O) = false := by simpa using e0
      have HE := Lib.hid (HSN.out.trans (if_neg e0))
      clear e0
      gi_wp2
      refine ⟨KeepsOthers.refl _, But.refl _ _, ?_⟩
      have h := HV.out
      rw [HE.out, HL.out]
      exact h
  case done =>
    rintro D W hD hV hK
    have HV := Lib.hid hV
    obtain ⟨A9, c9, s_0, hown⟩ := hV.r
    rw [← HG.out] at s_0 hown
    have HO := Lib.hid hown
    clear hV hown
    gi_wp2
    refine ⟨by simp, .inl ⟨_, _, rfl, run_takeDeferred hK, ?_⟩⟩
    exact ⟨.tuple #[.slice A9 G.length c9, .int .i64 0], by simp [results, Tryz.results40, go_sem]; try rfl, RetPs.mk (b := w0.heap.size) (by omega) (own_put HO.out hK rfl) (ext_put HV.out.x (by omega))⟩
theorem hOf_any (n c n2 c2 : Nat) (A A2 : Option Addr) (cl ps : List (Int × Int × Int × Int × Int × Int)) (O : Int) (w : World) (h : Sl w 6 A n c (cl.flatMap clsC)) (h2 : Sl w 6 A2 n2 c2 (ps.flatMap posC)) (hn : n < 1099511627776) (hn2 : n2 < 1099511000) (hw : ∀ x ∈ cl, WdC x) (hw2 : ∀ x ∈ ps, WdP x) :
    Calls Tryz.prog 40 #[.agg #[.slice A n c, .slice A2 n2 c2], .int .i64 O] w (RetPs (if chkH cl ps ≠ 0 then [] else ofF O ps) (chkH cl ps) w) := by
  have C1 : ∀ w', Ext w w' → Calls Tryz.prog 14 #[.agg #[.slice A n c, .slice A2 n2 c2]] w' fun r w'' => r = .returned (.int .i64 (chkH cl ps)) ∧ Ext w' w'' := fun w' hx => hCheck_any n c n2 c2 A A2 cl ps w' (h.ext hx) (h2.ext hx) hn (by omega) hw hw2
  by_cases he : chkH cl ps = 0
  · rw [if_neg (by simpa using he), he]
    rw [he] at C1
    exact hOf_ok n c n2 c2 A A2 cl ps O w h h2 hw hw2 hn2 (Lib.hid C1)
  · rw [if_pos he]
    exact hOf_bad n c n2 c2 A A2 cl ps O _ w (Lib.hid C1) he
end
end Go.Proofs.YtkinchgjidpjnaaGreat
