/- The kit's TimesGreat returns the product, for great numbers of at most 100 digits. -/
import Derived.Test.YtplmgcbjfmdebaaGreat
import Derived.Laws.MakeOwn
set_option linter.unusedVariables false
set_option linter.unusedSimpArgs false
namespace Go.Proofs.Ytplmgcbjfmdebaa
open Go.RowKit Gr

/-- a new row of noughts -/
def zer (n : Nat) : Array Value := madeCells (Value.int .u64 0).cells n
theorem iv_set (k : IntKind) (l : List Int) (j : Nat) (x : Int) : (iv k l).set j (.int k x) = iv k (l.set j x) := by simp [iv, List.map_set]
theorem zer_eq (n : Nat) : (zer n).toList = iv .u64 (List.replicate n 0) ∧ (zer n).size = n := by
  unfold zer
  refine ⟨?_, size_madeCells _ _⟩
  rw [show (Value.int .u64 0).cells = #[Value.int .u64 0] from rfl, toList_madeCells_one]
  simp [iv]
theorem own_zer (w : World) (n : Nat) (hn : n < 1099511627776) : (w.alloc (.cells (zer n) 36)).ownsRow w.heap.size 36 1 (.slice (some ⟨w.heap.size, 0, none⟩) n n) n (iv .u64 (List.replicate n 0)) := by
  rw [← (zer_eq n).1]
  exact World.ownsRow_lit w (zer n) n (Nat.le_refl _) (by simp [maxLen]; omega) (by rw [(zer_eq n).2, Nat.mul_one])
/-- a store into an owned row of integers -/
theorem own_store {w : World} {base g n c : Nat} {e : TypeId} {k : IntKind} {O : List Int} (h : w.ownsRow base e 1 (.slice (some ⟨g, 0, none⟩) n c) n (iv k O)) (j : Nat) (x : Int) :
    (w.setCell ⟨g, j, none⟩ (.int k x)).ownsRow base e 1 (.slice (some ⟨g, 0, none⟩) n c) n (iv k (O.set j x)) := by
  rw [← iv_set]
  exact (h.stored j (.int k x)).1
theorem own_cell {w : World} {base g n c : Nat} {e : TypeId} {k : IntKind} {O : List Int} (h : w.ownsRow base e 1 (.slice (some ⟨g, 0, none⟩) n c) n (iv k O)) {j : Nat} (hj : j < n) (hl : O.length = n) :
    w.cell? ⟨g, j, none⟩ = some (.int k (O.getD j 0)) := by
  rw [h.cellAt j (by omega)]
  exact iv_get k O j (by omega)
theorem own_base {w : World} {base g n c : Nat} {e : TypeId} {sz : Nat} {xs : List Value} (h : w.ownsRow base e sz (.slice (some ⟨g, 0, none⟩) n c) n xs) : base ≤ g ∧ g < w.heap.size := h.lt g rfl
theorem own_drewN {w : World} {base n : Nat} {e : TypeId} {sz : Nat} {v : Value} {xs : List Value} (h : w.ownsRow base e sz v n xs) (k : Nat) : (w.drewN k).ownsRow base e sz v n xs := h
theorem kdigit_q (A : Option Addr) (n c : Nat) (l : List Int) (i : Nat) (w : World) (k : Nat) (h : Sl w 1 A n c (iv .u64 l)) :
    Calls Try.prog 53 #[.slice A n c, .int .i64 i] (w.drewN k) fun e w'' => e = .returned (.int .u64 (l.getD i 0)) ∧ ∃ m, w'' = w.drewN m :=
  (kdigit_any A n c l i (w.drewN k) (h.ext ((Ext.refl w).drewN k))).mono fun e w' ⟨he, hw⟩ => ⟨he, k, hw.symm⟩
theorem make_u64 {i0 : TypeInfo} (hi0 : Try.prog.info? 36 = some i0) (hz0 : i0.zero = some (.int .u64 0)) (hz1 : i0.size = 1) (hz2 : i0.bytes = 8) (N : Int) (n : Nat) (hN : N = n) (hn : n < 1099511627776) (w : World) :
    (Instr.makeSlice 22 (.int .i64 N) (.int .i64 N)).run Try.prog w = .ok (.slice (some ⟨w.heap.size, 0, none⟩) n n) (w.alloc (.cells (zer n) 36)) := by
  subst hN
  have h := run_make (P := Try.prog) w 22 36 i0 _ Try.underlying22 hi0 hz0 .i64 .i64 n n (by omega) (Int.le_refl _) (by rw [hz2]; omega) (by omega)
  rw [Int.toNat_natCast, hz1, Nat.mul_one] at h
  exact h

set_option maxHeartbeats 400000 in
theorem kTimesGreat_any (A B : Option Addr) (n m c d : Nat) (a b : List Int) (N M : Int) (w : World) (ha : IsGr w A n c a N) (hb : IsGr w B m d b M) (hn : n ≤ 100) (hm : m ≤ 100) :
    Calls Try.prog 33 #[.slice A n c, .slice B m d] w (GrRet (N * M) w) := by
  obtain ⟨sa, da, na, ea⟩ := ha
  obtain ⟨sb, db, nb, eb⟩ := hb
  have hla := sa.ilen
  have hlb := sb.ilen
  obtain ⟨i0, hi0, hz0, hz1, hz2⟩ := info_parts u64_info
  have hmk := fun W => make_u64 hi0 hz0 hz1 hz2 ((n : Int) + m + 1) (n + m + 1) (by omega) (by omega) W
  have hmk2 : ∀ W, (Instr.makeSlice 22 (.int .i64 ((n : Int) + m + 1)) (.int .i64 ((n : Int) + m + 1))).run Try.prog W = .ok (.slice (some ⟨W.heap.size, 0, none⟩) (n + m + 1) (n + m + 1)) (W.alloc (.cells (zer (n + m + 1)) 36)) := hmk
  clear hmk
  go_enter Try.func33, Try.ntmps33
  go_wp2
  have O0 := Lib.hid (own_zer w (n + m + 1) (by omega))
  have X0 := Lib.hid ((Ext.refl w).alloc (.cells (zer (n + m + 1)) 36))
  clear hmk2
  have HA := Lib.hid sa
  have HB := Lib.hid sb
  clear sa sb
  go_loopg [6] n (fun g i wx => g ≤ n ∧ ∃ O, Hid (Prd a b (n - g) O ∧ wx.ownsRow w.heap.size 36 1 (.slice (some ⟨w.heap.size, 0, none⟩) (n + m + 1) (n + m + 1)) (n + m + 1) (iv .u64 O)) ∧ Ext w wx ∧ i = .int .i64 ((n - g : Nat) : Int))
  case atStart => exact ⟨Nat.le_refl _, _, ⟨by rw [Nat.sub_self]; exact Prd.start a b, by rw [hla, hlb]; exact O0.out⟩, X0.out, by simp⟩
  case round =>
    obtain ⟨hg, O, H, hx, rfl⟩ := hrel
    obtain ⟨gk2, hgk2⟩ : ∃ g : Nat, g = gk := ⟨_, rfl⟩
    subst hgk2
    obtain ⟨i, hi⟩ : ∃ i, i = n - gk2 := ⟨_, rfl⟩
    rw [← hi] at H ⊢
    obtain ⟨wo, rfl⟩ : ∃ wo : World, wo = wr := ⟨_, rfl⟩
    by_cases hz : gk2 = 0
    · have hin : i = n := by omega
      subst hin
      obtain ⟨P, own⟩ := H.out
      have T := Lib.hid (trim_gr (N := N * M) (Sl.own own) P.dig (by rw [← hla] at P; rw [P.done, ea, eb]))
      clear P own H hz hg hi
      go_wp2_with (go_at_call 54; refine T.out.mono ?_; rintro e w1 ⟨A', n', c', l', rfl, hgr, hx1⟩)
      go_ret
      exact ⟨A', n', c', l', rfl, hgr, hx.trans hx1⟩
    · have hi1 : (i : Int) < n := by omega
      obtain ⟨P, own⟩ := H.out
      have hb0 := (own_base own).2
      have R0 := Lib.hid (And.intro P.row own)
      have P0 := Lib.hid P
      have hin : i < n := by omega
      have hgk := Lib.hid (And.intro hi (And.intro hg hz))
      clear P own H hz hg hi hin
      go_wp2
      go_loopg [7, 8] (m + 1) (fun g y i2 wx => g ≤ m + 1 ∧ ∃ (O2 : List Int) (cy : Int), Hid (Row a b O i O2 cy (m + 1 - g) ∧ wx.ownsRow w.heap.size 36 1 (.slice (some ⟨w.heap.size, 0, none⟩) (n + m + 1) (n + m + 1)) (n + m + 1) (iv .u64 O2)) ∧
        0 ≤ cy ∧ cy < 65536 ∧ Ext w wx ∧ y = .int .u64 cy ∧ i2 = .int .i64 ((m + 1 - g : Nat) : Int))
      case atStart => exact ⟨Nat.le_refl _, O, 0, ⟨by rw [Nat.sub_self]; exact R0.out.1, R0.out.2⟩, by decide, by decide, hx, rfl, by simp⟩
      case round =>
        obtain ⟨hg, O2, cy, R, c0, c1, hx2, rfl, rfl⟩ := hrel
        obtain ⟨k, hk⟩ : ∃ k, k = m + 1 - gk := ⟨_, rfl⟩
        rw [← hk] at R ⊢
        by_cases hz : gk = 0
        · obtain ⟨Rr, own2⟩ := R.out
          have hkm : k = m + 1 := by omega
          have P2 := Lib.hid (P0.out.next da db (by have := hgk.out; omega) (by rw [hlb, ← hkm]; exact Rr))
          have W2 := Lib.hid own2
          have hkm2 : ¬ (k : Int) ≤ m := by omega
          clear Rr own2 R hz hg hk hkm
          go_wp2
          go_roundg (gk2 - 1)
          case measure => have := hgk.out; omega
          case rel => exact ⟨by have := hgk.out; omega, O2, ⟨by rw [show n - (gk2 - 1) = i + 1 from by have := hgk.out; omega]; exact P2.out, W2.out⟩, hx2, num_eq (by have := hgk.out; omega)⟩
        · obtain ⟨Rr, own2⟩ := R.out
          have hkm : k ≤ m := by omega
          obtain ⟨t0, t1, R2⟩ := Rr.step da db (by have := hgk.out; omega) (by omega)
          have hcell := own_cell own2 (show i + k < n + m + 1 from by omega) (by rw [Rr.len, hla, hlb])
          have hfr := own2.frozenAt (i + k)
          obtain ⟨b1, o1, rfl, hb1, hc1⟩ := HA.out.cell (show i < n from by have := hgk.out; omega)
          have hcell2 : wr.cell? ⟨b1, o1 + i, none⟩ = some (.int .u64 (a.getD i 0)) := (hx2.cells.1 _ _ hb1).trans (hc1 i (by have := hgk.out; omega))
          have HD := Lib.hid (fun j => kdigit_q B m d b k wr j (HB.out.ext hx2))
          obtain ⟨x1, x2⟩ := Rr.dig.getD (i + k)
          obtain ⟨y1, y2⟩ := da.getD i
          obtain ⟨z1, z2⟩ := db.getD k
          obtain ⟨x, hx⟩ : ∃ x, x = O2.getD (i + k) 0 := ⟨_, rfl⟩
          obtain ⟨y, hy⟩ : ∃ x, x = a.getD i 0 := ⟨_, rfl⟩
          obtain ⟨z, hz⟩ : ∃ x, x = b.getD k 0 := ⟨_, rfl⟩
          rw [← hx] at hcell x1 x2 t0 t1 R2
          rw [← hy] at hcell2 y1 y2 t0 t1 R2
          rw [← hz] at HD z1 z2 t0 t1 R2
          have p1 : 0 ≤ y * z := Int.mul_nonneg y1 z1
          have p2 : y * z < 4294967296 := by omega
          have N2 := Lib.hid (And.intro R2 (own_store own2 (i + k) ((cy + x + y * z) % 65536)))
          have HK := Lib.hid (And.intro hk (And.intro hg hkm))
          have i1 : (i : Int) + (k : Int) < (n : Int) + (m : Int) + 1 := by omega
          have k1 : (k : Int) ≤ m := by omega
          clear Rr own2 R hg hk hx hy hz R2 hc1 hb1 hkm
          go_wp2
          have w1 : IntKind.i64.wrap ((i : Int) + (k : Int)) = (i : Int) + (k : Int) := IntWalk.i64_in _ (by omega)
          have w2 : ((i : Int) + (k : Int)).toNat = i + k := by omega
          have w3 : (0 : Int) ≤ (i : Int) + (k : Int) := by omega
          go_quiet ((go_at_call 53; exact HD.out _))
          clear w1 w2 w3
          go_wp2
          go_roundg (gk - 1)
          case measure => have := HK.out; omega
          case rel =>
            obtain ⟨R2, own3⟩ := N2.out
            have hkk : m + 1 - (gk - 1) = k + 1 := by have := HK.out; omega
            exact ⟨by have := HK.out; omega, _, _, ⟨by rw [hkk]; exact R2, own3⟩, by omega, by omega, (hx2.drewN _).setCell (Nat.le_refl _) _, rfl, num_eq (by rw [hkk]; omega)⟩
end Go.Proofs.Ytplmgcbjfmdebaa
