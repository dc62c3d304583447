/- The kit's SumGreat returns the sum of two great numbers of at most 100 digits. -/
import Derived.Test.YtplmgcbjfmdebaaTimes
import Derived.Test.YtplmgcbjfmdebaaMem2
set_option linter.unusedVariables false
set_option linter.unusedSimpArgs false
namespace Go.Proofs.Ytplmgcbjfmdebaa.Gr
/-- at the head of the loop: what is summed so far -/
structure SG (a b O : List Int) (cy : Int) (i : Nat) : Prop where
  dig : Dig O
  len : O.length = i
  c0 : 0 ≤ cy
  c1 : cy ≤ 1
  sum : val O + pw i * cy = val (a.take i) + val (b.take i)
theorem SG.start (a b : List Int) : SG a b [] 0 0 := ⟨Dig.nil, rfl, by decide, by decide, by simp [val]⟩
theorem SG.step {a b O : List Int} {cy : Int} {i : Nat} (h : SG a b O cy i) (da : Dig a) (db : Dig b) :
    let t := cy + a.getD i 0 + b.getD i 0
    0 ≤ t ∧ t < 131072 ∧ SG a b (O ++ [t % 65536]) (t / 65536) (i + 1) := by
  intro t
  obtain ⟨a1, a2⟩ := da.getD i
  obtain ⟨b1, b2⟩ := db.getD i
  have c0 := h.c0
  have c1 := h.c1
  have t0 : 0 ≤ t := by show 0 ≤ cy + a.getD i 0 + b.getD i 0; omega
  have t1 : t < 131072 := by show cy + a.getD i 0 + b.getD i 0 < 131072; omega
  refine ⟨t0, t1, h.dig.append (Dig.nil.cons (by omega) (by omega)), by rw [List.length_append, h.len]; rfl, by omega, by omega, ?_⟩
  rw [val_append, h.len, val_take_succ, val_take_succ]
  have e := h.sum
  show val O + pw i * (t % 65536 + 65536 * 0) + 65536 * pw i * (t / 65536) = _
  have e2 : pw i * (t % 65536 + 65536 * 0) + 65536 * pw i * (t / 65536) = pw i * t := by
    rw [show t % 65536 + 65536 * 0 = t % 65536 from by omega, Int.mul_comm 65536 (pw i), Int.mul_assoc, ← Int.mul_add]
    congr 1; omega
  have e3 : pw i * t = pw i * cy + (pw i * a.getD i 0 + pw i * b.getD i 0) := by
    show pw i * (cy + a.getD i 0 + b.getD i 0) = _
    rw [Int.mul_add, Int.mul_add]; omega
  omega
theorem SG.done {a b O : List Int} {i : Nat} (h : SG a b O 0 i) (ha : a.length ≤ i) (hb : b.length ≤ i) : val O = val a + val b := by
  have e := h.sum
  rw [List.take_of_length_le ha, List.take_of_length_le hb] at e
  omega
end Go.Proofs.Ytplmgcbjfmdebaa.Gr
namespace Go.Proofs.Ytplmgcbjfmdebaa
open Go.RowKit Gr

set_option maxRecDepth 100000 in
set_option maxHeartbeats 1000000 in
theorem kSumGreat_any (A B : Option Addr) (n m c d : Nat) (a b : List Int) (N M : Int) (w : World) (ha : IsGr w A n c a N) (hb : IsGr w B m d b M) (hn : n ≤ 100) (hm : m ≤ 100) :
    Calls Try.prog 37 #[.slice A n c, .slice B m d] w (GrRet (N + M) w) := by
  obtain ⟨sa, da, na, ea⟩ := ha
  obtain ⟨sb, db, nb, eb⟩ := hb
  have hla := Lib.hid sa.ilen
  have hlb := Lib.hid sb.ilen
  have HA := Lib.hid sa
  have HB := Lib.hid sb
  have HD := Lib.hid (And.intro da db)
  have HE := Lib.hid (And.intro ea eb)
  clear sa sb da na ea db nb eb
  obtain ⟨mx, hmx⟩ : ∃ mx : Nat, (if (n : Int) < m then (m : Int) else n) = mx ∧ n ≤ mx ∧ m ≤ mx := by
    by_cases h : (n : Int) < m
    · exact ⟨m, by rw [if_pos h], by omega, Nat.le_refl _⟩
    · exact ⟨n, by rw [if_neg h], Nat.le_refl _, by omega⟩
  obtain ⟨hmx, hmx1, hmx2⟩ := hmx
  have hmax : ∀ (ts : Array TypeId) (t : TypeId) (w : World), (Builtin.max_ ts t #[.int .i64 n, .int .i64 m]).run Try.prog w = .ok (.int .i64 mx) w := by
    intro ts t w
    rw [run_max_int2, hmx]
  have hmx3 : mx ≤ 100 := by
    by_cases h : (n : Int) < m
    · rw [if_pos h] at hmx; omega
    · rw [if_neg h] at hmx; omega
  clear hmx
  obtain ⟨i0, hi0, hz0, hz1, hz2⟩ := info_parts u64_info
  go_enter Try.func37, Try.ntmps37
  go_wp2
  go_loopg [5, 6, 7] (mx + 1) (fun g v y i wx => g ≤ mx + 1 ∧ ∃ (O : List Int) (cy : Int), Hid (SG a b O cy (mx + 1 - g) ∧ wx.ownsRow w.heap.size 36 1 v (mx + 1 - g) (iv .u64 O)) ∧ Hid (g = 0 → cy = 0) ∧ 0 ≤ cy ∧ cy ≤ 1 ∧ y = .int .u64 cy ∧ i = .int .i64 ((mx + 1 - g : Nat) : Int) ∧ Ext w wx)
  case atStart => exact ⟨Nat.le_refl _, [], 0, ⟨by rw [Nat.sub_self]; exact SG.start a b, by rw [Nat.sub_self]; exact own_nil _ _ _ _⟩, fun _ => rfl, by decide, by decide, rfl, by simp, Ext.refl _⟩
  case round =>
    obtain ⟨hg, O, cy, H, H0, c0, c1, rfl, hi, hx⟩ := hrel
    obtain ⟨k, hk⟩ : ∃ k, k = mx + 1 - gk := ⟨_, rfl⟩
    rw [← hk] at H hi
    subst hi
    have XW := Lib.hid hx
    have hs := hx.size
    clear hx
    obtain ⟨G, own⟩ := H.out
    have HG := Lib.hid G
    have HO := Lib.hid own
    clear H G own
    by_cases hz : ¬ (k : Int) < mx ∧ cy = 0
    · obtain ⟨hkn, rfl⟩ := hz
      obtain ⟨A', c', rfl, so⟩ := own_parts HO.out
      have T := Lib.hid (trim_gr (N := N + M) so HG.out.dig (by rw [HG.out.done (by have := hla.out; omega) (by have := hlb.out; omega), HE.out.1, HE.out.2]))
      clear so hk hg
      go_wp2_with (go_at_call 54; refine T.out.mono ?_; rintro e w1 ⟨A2, n2, c2, l2, rfl, hgr, hx1⟩)
      go_ret
      exact ⟨A2, n2, c2, l2, rfl, hgr, XW.out.trans hx1⟩
    · obtain ⟨t0, t1, G2⟩ := HG.out.step HD.out.1 HD.out.2
      have C1 := Lib.hid (kdigit_any A n c a k wr (HA.out.ext XW.out))
      have C2 := Lib.hid (kdigit_any B m d b k wr (HB.out.ext XW.out))
      obtain ⟨y1, y2⟩ := HD.out.1.getD k
      obtain ⟨z1, z2⟩ := HD.out.2.getD k
      obtain ⟨y, hy⟩ : ∃ x, x = a.getD k 0 := ⟨_, rfl⟩
      obtain ⟨z, hzz⟩ : ∃ x, x = b.getD k 0 := ⟨_, rfl⟩
      have hlast : gk = 1 → (cy + y + z) / 65536 = 0 := by
        intro h1
        have e1 : y = 0 := by rw [hy, List.getD_eq_getElem?_getD, List.getElem?_eq_none (by have := hla.out; omega)]; rfl
        have e2 : z = 0 := by rw [hzz, List.getD_eq_getElem?_getD, List.getElem?_eq_none (by have := hlb.out; omega)]; rfl
        omega
      have HLAST := Lib.hid hlast
      rw [← hy] at y1 y2 t0 t1 G2 C1
      rw [← hzz] at z1 z2 t0 t1 G2 C2
      have GG := Lib.hid G2
      have hgk : gk ≠ 0 := by
        intro h
        have := H0.out h
        exact hz ⟨by omega, this⟩
      have HK := Lib.hid (And.intro hk (And.intro hg hgk))
      have hk1 : k ≤ 1000 := by omega
      have hkk : (k : Int) < mx ∨ ¬ (k : Int) < mx ∧ 0 < cy := by
        by_cases h : (k : Int) < mx
        · exact .inl h
        · exact .inr ⟨h, by have : ¬ cy = 0 := fun e => hz ⟨h, e⟩; omega⟩
      have hkb := Lib.hid (show k < 1099511627776 by omega)
      clear hlast hy hzz G2 hz hk hg hgk
      rcases hkk with hkk | ⟨hkk, hcy⟩
      all_goals
        go_wp2_with fail
        refine C1.out.mono ?_
        rintro e w1 ⟨rfl, rfl⟩
        go_wp2_with fail
        refine C2.out.mono ?_
        rintro e w1 ⟨rfl, rfl⟩
        go_wp2_with (at_builtin; refine wpList_append_new wr rfl _ _ 22 rfl _ 36 i0 (.int .u64 0) 1 8 Try.underlying22 hi0 hz0 hz1 hz2 rfl (by decide) _ _ _ (by rfl) HO.out #[.int .u64 ((cy + y + z) % 65536)] 1 (by rfl) rfl (by intro u hu; simp at hu; subst hu; rfl) hkb.out (by decide) hs ?_; intro v1 w1 hown1 hb1)
        go_roundg (gk - 1)
        case measure => have := HK.out; omega
        case rel =>
          have e5 : mx + 1 - (gk - 1) = k + 1 := by have := HK.out; omega
          exact ⟨by have := HK.out; omega, O ++ [(cy + y + z) % 65536], (cy + y + z) / 65536, ⟨by rw [e5]; exact GG.out, by rw [e5, ← iv_snoc]; exact hown1⟩, fun h => HLAST.out (by have := HK.out; omega), by omega, by omega, rfl, num_eq (by rw [e5]; omega), XW.out.below hb1⟩
end Go.Proofs.Ytplmgcbjfmdebaa
