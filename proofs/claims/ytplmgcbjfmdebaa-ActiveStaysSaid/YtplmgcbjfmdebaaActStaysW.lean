/- law17: ActiveStays returns true, whatever comes in. Conditions: none but those of the arguments' types. -/
import Derived.Test.YtplmgcbjfmdebaaActTellsW
import Derived.Test.YtplmgcbjfmdebaaActKnownW
import Derived.Test.YtplmgcbjfmdebaaAct14
import Derived.Test.YtplmgcbjfmdebaaPick
import Derived.Laws.IdiomCopy
import Derived.Laws.CopyRow
set_option linter.unusedVariables false
set_option linter.unusedSimpArgs false
namespace Go.Proofs.Ytplmgcbjfmdebaa
open Go.RowKit Go.Shelf Go.ChangeShapes Go.WideShapes Go.Deep

theorem make_words {i0 : TypeInfo} (hi0 : Try.prog.info? 36 = some i0) (hz0 : i0.zero = some (.int .u64 0)) (hz1 : i0.size = 1) (hz2 : i0.bytes = 8) (n : Nat) (hn : n < 1099511627776) (w : World) :
    ∃ w', (Instr.makeSlice 22 (.int .i64 (n : Int)) (.int .i64 (n : Int))).run Try.prog w = .ok (.slice (some ⟨w.heap.size, 0, none⟩) n n) w' ∧ OwnWord w' w.heap.size (.slice (some ⟨w.heap.size, 0, none⟩) n n) n (List.replicate n 0) ∧ Ext w w' := by
  obtain ⟨w', h1, h2, h3⟩ := run_make_full (P := Try.prog) w w.heap.size 22 36 i0 _ 1 Try.underlying22 hi0 hz0 hz1 .i64 .i64 n (by rw [hz2]; omega) (by simp [maxLen]; omega) (Nat.le_refl _)
  refine ⟨w', h1, ?_, (Ext.refl w).grown h3 (fun k e => by cases e)⟩
  have e : (madeCells (Value.int .u64 0).cells (n * 1)).toList = iv .u64 (List.replicate n 0) := by
    simp [madeCells, iv, Value.cells, Nat.mod_one, List.map_const']
  rw [e] at h2
  exact h2
theorem copy_run {w : World} {g K cap base n c : Nat} {A : Option Addr} {ts : List Int} (h : OwnWord w base (.slice (some ⟨g, 0, none⟩) K cap) K (List.replicate K 0)) (hs : Sl w 1 A n c (iv .u64 ts)) (hn : n ≤ K) :
    ∃ w', (∀ ty, (Builtin.copy_ #[22, 22] ty #[.slice (some ⟨g, 0, none⟩) K cap, .slice A n c]).run Try.prog w = .ok (.int .i64 (n : Int)) w') ∧ OwnWord w' base (.slice (some ⟨g, 0, none⟩) K cap) K (padW ts K) ∧ But (· = g) w w' := by
  have hu := Try.underlying22
  have hsz : (Try.prog.info? 36).map (·.size) = some 1 := by
    obtain ⟨i0, hi0, hz0, hz1, hz2⟩ := info_parts infoWord
    rw [hi0]; simp [hz1]
  have hl := hs.ilen
  rcases Nat.eq_zero_or_pos n with h0 | h0
  · subst h0
    have ht : ts = [] := List.eq_nil_of_length_eq_zero hl
    subst ht
    refine ⟨w, fun ty => ?_, by simpa [padW] using h, But.refl _ _⟩
    have := run_copy_none (P := Try.prog) w 22 22 ty 36 (some ⟨g, 0, none⟩) A K cap 0 c hu hsz (by simp)
    exact this
  · obtain ⟨b, o, rfl, hb, hc⟩ := hs.at_ h0
    rcases h.2 with ⟨h', _⟩ | ⟨g', cap', cur, h', hbg, hg, hKc, hcm, hcs, htk⟩
    · cases h'
    · injection h' with h1 h2 h3
      injection h1 with h1
      injection h1 with h1
      subst h1; subst h3
      have hN : (iv .u64 ts).length = Nat.min n K := by rw [iv_len, hl]; exact (Nat.min_eq_left hn).symm
      have hrun := fun ty => run_copy_row (P := Try.prog) w 22 22 ty 36 g 0 K cap ⟨b, o, none⟩ n c cur 36 (iv .u64 ts) hu hsz hg hN (fun j v hj => by rw [addr_add]; exact hc j v hj) (by have h9 : Nat.min n K ≤ K := Nat.min_le_right n K; rw [hN]; omega) iv_one
      refine ⟨w.setRow g (cur.toList.take 0 ++ iv .u64 ts ++ cur.toList.drop (0 + (iv .u64 ts).length)).toArray, fun ty => ?_, ?_, ?_⟩
      · rw [hrun ty, iv_len, hl]
        rfl
      · refine ⟨by rw [iv_len, padW_len (by omega)]; omega, .inr ⟨g, cap, _, rfl, hbg, setRow_heap w g cur _ 36 (0, 0) hg, hKc, hcm, ?_, ?_⟩⟩
        · simp [iv_len]
          omega
        · simp only [List.take_zero, List.nil_append, Nat.zero_add, List.toList_toArray]
          have e : cur.toList.take K = iv .u64 (List.replicate K 0) := by simpa using htk
          rw [Nat.mul_one, List.take_append, iv_len, hl, List.take_of_length_le (by rw [iv_len]; omega), ← List.drop_take]
          rw [e]
          unfold padW iv
          rw [List.map_append, List.map_replicate, List.drop_replicate, hl, List.map_replicate]
      · refine ⟨rfl, rfl, rfl, by simp, fun k hk hs => setRow_other w g k _ hs⟩
theorem ownBool_but {S : Nat → Prop} {w w' : World} {base n : Nat} {v : Value} {l : List Bool} (h : OwnBool w base v n l) (hx : But S w w') (hS : ∀ k, v.ownBlock = some k → ¬ S k) : OwnBool w' base v n l := own_but1Word h hx hS
theorem chooV_getD {ts : List Int} {ms : List Bool} {most : Int} {i : Nat} (h : i < allN ts ms) : (chooV ts ms most).getD i false = (cnt ts ms i && decide ((aheadL ts ms i : Int) < most)) := by
  rw [List.getD_eq_getElem?_getD, chooV_get h]; rfl
theorem Sl.but_ {S : Nat → Prop} {w w' : World} {B sz n c : Nat} {A : Option Addr} {xs : List Value} (h : SlB B w sz A n c xs) (hx : But S w w') (hs : ∀ k, S k → B ≤ k) : SlB B w' sz A n c xs := SlB.but h hx hs
theorem SlB.off {w : World} {B sz n c g i : Nat} {A : Option Addr} {xs : List Value} {u : Value} (h : SlB B w sz A n c xs) (hg : B ≤ g) : SlB B (w.setCell ⟨g, i, none⟩ u) sz A n c xs :=
  SlB.but h ((But.refl (fun k => k = g) w).setG u) (fun k hk => by subst hk; exact hg)
theorem OwnWord.off {w : World} {base n c g g2 i : Nat} {l : List Int} {u : Value} (h : OwnWord w base (.slice (some ⟨g, 0, none⟩) n c) n l) (hne : g ≠ g2) : OwnWord (w.setCell ⟨g2, i, none⟩ u) base (.slice (some ⟨g, 0, none⟩) n c) n l :=
  ownsRow_setCell_other h (fun e => by injection e with e; exact hne e) _
theorem OwnBool.off {w : World} {base n c g g2 i : Nat} {l : List Bool} {u : Value} (h : OwnBool w base (.slice (some ⟨g, 0, none⟩) n c) n l) (hne : g ≠ g2) : OwnBool (w.setCell ⟨g2, i, none⟩ u) base (.slice (some ⟨g, 0, none⟩) n c) n l :=
  ownsRow_setCell_other h (fun e => by injection e with e; exact hne e) _
theorem OwnWord.put {w : World} {base n c g i : Nat} {l : List Int} {v : Int} (h : OwnWord w base (.slice (some ⟨g, 0, none⟩) n c) n l) : OwnWord (w.setCell ⟨g, i, none⟩ (.int .u64 v)) base (.slice (some ⟨g, 0, none⟩) n c) n (l.set i v) := by
  have h1 := (World.ownsRow.stored h i (.int .u64 v)).1
  unfold OwnWord iv at *
  rwa [← List.map_set] at h1
theorem OwnBool.put {w : World} {base n c g i : Nat} {l : List Bool} {v : Bool} (h : OwnBool w base (.slice (some ⟨g, 0, none⟩) n c) n l) : OwnBool (w.setCell ⟨g, i, none⟩ (.bool v)) base (.slice (some ⟨g, 0, none⟩) n c) n (l.set i v) := by
  have h1 := (World.ownsRow.stored h i (.bool v)).1
  rw [bv_set] at h1
  exact h1
theorem word_step {ts : List Int} (hw : ∀ x ∈ ts, Word x) (K u : Nat) {v : Int} (hv : Word v) : ∀ x ∈ (padW ts K).set u v, Word x := by
  intro x hx
  rcases List.mem_or_eq_of_mem_set hx with h | rfl
  · unfold padW at h
    rcases List.mem_append.1 h with h | h
    · exact hw x h
    · rw [List.mem_replicate] at h
      rw [h.2]
      exact ⟨by decide, by decide⟩
  · exact hv
set_option maxRecDepth 100000 in
set_option maxHeartbeats 8000000 in
theorem ActiveStays_a (A B : Option Addr) (n c m d : Nat) (most up dn by_ : Int) (w : World) (hl : ¬ n ≤ 30) (hs : n ≤ 9223372036854775807) (hs2 : m ≤ 9223372036854775807) :
    Calls Try.prog 7 #[.slice A n c, .slice B m d, .int .i64 most, .int .i64 up, .int .i64 dn, .int .u64 by_] w fun r w' => r = .returned (.bool true) ∧ Ext w w' := by
  have hM1 : (30 : Int) < (n : Int) := by omega
  clear hl
  go_enter Try.func7, Try.ntmps7
  go_wp2_with fail
  (with_reducible refine (ActiveKnown_any _).mono ?_)
  rintro e w1 ⟨rfl, hx1⟩
  have z1 := hx1.size
  try simp at z1
  have X1 : Hid (Ext w w1) := Lib.hid (Ext.trans (by repeat (first | with_reducible exact Ext.refl w | with_reducible refine Ext.drew ?_ | with_reducible refine Ext.drewN ?_ _ | with_reducible refine Ext.alloc ?_ _ | with_reducible refine Ext.setCell ?_ (by first | omega | (simp; done) | (simp; omega)) _)) hx1)
  clear hx1 z1
  go_wp2_with fail
  go_ret
  exact ⟨rfl, (by repeat (first | with_reducible exact X1.out | with_reducible refine Ext.drew ?_ | with_reducible refine Ext.drewN ?_ _ | with_reducible refine Ext.alloc ?_ _ | with_reducible refine Ext.setCell ?_ (by first | omega | (simp; done) | (simp; omega)) _))⟩
set_option maxRecDepth 100000 in
set_option maxHeartbeats 8000000 in
theorem ActiveStays_b (A B : Option Addr) (n c m d : Nat) (most up dn by_ : Int) (w : World) (h1 : n ≤ 30) (h2 : ¬ m ≤ 30) (hs : n ≤ 9223372036854775807) (hs2 : m ≤ 9223372036854775807) :
    Calls Try.prog 7 #[.slice A n c, .slice B m d, .int .i64 most, .int .i64 up, .int .i64 dn, .int .u64 by_] w fun r w' => r = .returned (.bool true) ∧ Ext w w' := by
  have hM1 : ¬ (30 : Int) < (n : Int) := by omega
  have hM2 : (30 : Int) < (m : Int) := by omega
  clear h1 h2
  go_enter Try.func7, Try.ntmps7
  go_wp2_with fail
  (with_reducible refine (ActiveKnown_any _).mono ?_)
  rintro e w1 ⟨rfl, hx1⟩
  have z1 := hx1.size
  try simp at z1
  have X1 : Hid (Ext w w1) := Lib.hid (Ext.trans (by repeat (first | with_reducible exact Ext.refl w | with_reducible refine Ext.drew ?_ | with_reducible refine Ext.drewN ?_ _ | with_reducible refine Ext.alloc ?_ _ | with_reducible refine Ext.setCell ?_ (by first | omega | (simp; done) | (simp; omega)) _)) hx1)
  clear hx1 z1
  go_wp2_with fail
  go_ret
  exact ⟨rfl, (by repeat (first | with_reducible exact X1.out | with_reducible refine Ext.drew ?_ | with_reducible refine Ext.drewN ?_ _ | with_reducible refine Ext.alloc ?_ _ | with_reducible refine Ext.setCell ?_ (by first | omega | (simp; done) | (simp; omega)) _))⟩
set_option maxRecDepth 100000 in
set_option maxHeartbeats 8000000 in
theorem ActiveStays_c (A B : Option Addr) (n c m d : Nat) (most up dn by_ : Int) (w : World) (h1 : n ≤ 30) (h2 : m ≤ 30) (h3 : m < 2) (hs : n ≤ 9223372036854775807) (hs2 : m ≤ 9223372036854775807) :
    Calls Try.prog 7 #[.slice A n c, .slice B m d, .int .i64 most, .int .i64 up, .int .i64 dn, .int .u64 by_] w fun r w' => r = .returned (.bool true) ∧ Ext w w' := by
  have hM1 : ¬ (30 : Int) < (n : Int) := by omega
  have hM2 : ¬ (30 : Int) < (m : Int) := by omega
  have hM3 : (m : Int) < 2 := by omega
  clear h1 h2 h3
  go_enter Try.func7, Try.ntmps7
  go_wp2_with fail
  (with_reducible refine (ActiveKnown_any _).mono ?_)
  rintro e w1 ⟨rfl, hx1⟩
  have z1 := hx1.size
  try simp at z1
  have X1 : Hid (Ext w w1) := Lib.hid (Ext.trans (by repeat (first | with_reducible exact Ext.refl w | with_reducible refine Ext.drew ?_ | with_reducible refine Ext.drewN ?_ _ | with_reducible refine Ext.alloc ?_ _ | with_reducible refine Ext.setCell ?_ (by first | omega | (simp; done) | (simp; omega)) _)) hx1)
  clear hx1 z1
  go_wp2_with fail
  go_ret
  exact ⟨rfl, (by repeat (first | with_reducible exact X1.out | with_reducible refine Ext.drew ?_ | with_reducible refine Ext.drewN ?_ _ | with_reducible refine Ext.alloc ?_ _ | with_reducible refine Ext.setCell ?_ (by first | omega | (simp; done) | (simp; omega)) _))⟩
set_option maxRecDepth 100000 in
set_option maxHeartbeats 8000000 in
theorem ActiveStays_main (A B : Option Addr) (n c m d : Nat) (ts : List Int) (ms : List Bool) (most up dn by_ : Int) (w : World) (h : Sl w 1 A n c (iv .u64 ts)) (k : Sl w 1 B m d (bv ms)) (hn : n ≤ 30) (hm : m ≤ 30) (hm2 : ¬ m < 2) (hw : ∀ x ∈ ts, Word x) (hup : -9223372036854775808 ≤ up ∧ up ≤ 9223372036854775807) (hdn : -9223372036854775808 ≤ dn ∧ dn ≤ 9223372036854775807) (hby : Word by_) :
    Calls Try.prog 7 #[.slice A n c, .slice B m d, .int .i64 most, .int .i64 up, .int .i64 dn, .int .u64 by_] w fun r w' => r = .returned (.bool true) ∧ Ext w w' := by
  have hM1 : ¬ (30 : Int) < (n : Int) := by omega
  have hM2 : ¬ (30 : Int) < (m : Int) := by omega
  have hM3 : ¬ (m : Int) < 2 := by omega
  obtain ⟨Kn, hK⟩ : ∃ Kn, Kn = max n m := ⟨_, rfl⟩
  have hKa : allN ts ms = Kn := by unfold allN; rw [h.ilen, k.blen, hK]
  have hKs : Kn ≤ 30 := by omega
  have hmax := max_run n m Kn hK
  obtain ⟨V, hV⟩ : ∃ V, chooV ts ms most = V := ⟨_, rfl⟩
  have hVl : V.length = Kn := by rw [← hV, chooV_len, hKa]
  have hnK : n ≤ Kn := by omega
  have hmK : m ≤ Kn := by omega
  have F2 := Lib.hid hV
  have HW := Lib.hid hw
  have HS := Lib.hid h.low
  have HM := Lib.hid k.low
  have HTL := Lib.hid h.ilen
  have HML := Lib.hid k.blen
  have HKA := Lib.hid hKa
  have hKK : ((Kn : Int) != (Kn : Int)) = false := by simp
  have PU := Lib.hid (fun w => kPick_any up (m : Int) hup.1 hup.2 (by omega) (by omega) w)
  have PD := Lib.hid (fun w => kPick_any dn (m : Int) hdn.1 hdn.2 (by omega) (by omega) w)
  obtain ⟨u, hu⟩ : ∃ u : Nat, up % (m : Int) = u := ⟨(up % (m : Int)).toNat, by have := Int.emod_nonneg up (show (m : Int) ≠ 0 by omega); omega⟩
  obtain ⟨v, hv⟩ : ∃ v : Nat, dn % (m : Int) = v := ⟨(dn % (m : Int)).toNat, by have := Int.emod_nonneg dn (show (m : Int) ≠ 0 by omega); omega⟩
  have hum : u < m := by have := Int.emod_lt_of_pos up (show 0 < (m : Int) by omega); omega
  have hvm : v < m := by have := Int.emod_lt_of_pos dn (show 0 < (m : Int) by omega); omega
  rw [hu] at PU
  rw [hv] at PD
  clear h k hw hK hKa hV hu hv hup hdn
  go_enter Try.func7, Try.ntmps7
  go_wp2_with fail
  (with_reducible refine (ActiveKnown_any _).mono ?_)
  rintro e w1 ⟨rfl, hx1⟩
  have z1 := hx1.size
  try simp at z1
  replace HS := Lib.hid (HS.out.ext (Ext.trans (by repeat (first | with_reducible exact Ext.refl _ | with_reducible refine Ext.drew ?_ | with_reducible refine Ext.drewN ?_ _ | with_reducible refine Ext.alloc ?_ _ | with_reducible refine Ext.setCell ?_ (by first | omega | (simp; done) | (simp; omega)) _)) hx1))
  replace HM := Lib.hid (HM.out.ext (Ext.trans (by repeat (first | with_reducible exact Ext.refl _ | with_reducible refine Ext.drew ?_ | with_reducible refine Ext.drewN ?_ _ | with_reducible refine Ext.alloc ?_ _ | with_reducible refine Ext.setCell ?_ (by first | omega | (simp; done) | (simp; omega)) _)) hx1))
  have X1 : Hid (Ext w w1) := Lib.hid (Ext.trans (by repeat (first | with_reducible exact Ext.refl w | with_reducible refine Ext.drew ?_ | with_reducible refine Ext.drewN ?_ _ | with_reducible refine Ext.alloc ?_ _ | with_reducible refine Ext.setCell ?_ (by first | omega | (simp; done) | (simp; omega)) _)) hx1)
  clear hx1
  go_wp2_with fail
  (with_reducible refine (choose_ev A B n c m d ts ms most V Kn _ (HS.out.ext (by repeat (first | with_reducible exact Ext.refl _ | with_reducible refine Ext.drew ?_ | with_reducible refine Ext.drewN ?_ _ | with_reducible refine Ext.alloc ?_ _ | with_reducible refine Ext.setCell ?_ (by first | omega | (simp; done) | (simp; omega)) _))).sl (HM.out.ext (by repeat (first | with_reducible exact Ext.refl _ | with_reducible refine Ext.drew ?_ | with_reducible refine Ext.drewN ?_ _ | with_reducible refine Ext.alloc ?_ _ | with_reducible refine Ext.setCell ?_ (by first | omega | (simp; done) | (simp; omega)) _))).sl (by omega) (by omega) HW.out F2.out hVl).mono ?_)
  rintro e w2 ⟨A1, c1, rfl, hO1, hx2⟩
  have z2 := hx2.size
  try simp at z2
  replace HS := Lib.hid (HS.out.ext (Ext.trans (by repeat (first | with_reducible exact Ext.refl _ | with_reducible refine Ext.drew ?_ | with_reducible refine Ext.drewN ?_ _ | with_reducible refine Ext.alloc ?_ _ | with_reducible refine Ext.setCell ?_ (by first | omega | (simp; done) | (simp; omega)) _)) hx2))
  replace HM := Lib.hid (HM.out.ext (Ext.trans (by repeat (first | with_reducible exact Ext.refl _ | with_reducible refine Ext.drew ?_ | with_reducible refine Ext.drewN ?_ _ | with_reducible refine Ext.alloc ?_ _ | with_reducible refine Ext.setCell ?_ (by first | omega | (simp; done) | (simp; omega)) _)) hx2))
  have X2 : Hid (Ext w w2) := Lib.hid (Ext.trans (by repeat (first | with_reducible exact X1.out | with_reducible refine Ext.drew ?_ | with_reducible refine Ext.drewN ?_ _ | with_reducible refine Ext.alloc ?_ _ | with_reducible refine Ext.setCell ?_ (by first | omega | (simp; done) | (simp; omega)) _)) hx2)
  have HV := Lib.hid (OwnBool.sl hO1).low
  clear X1 hx2
  clear hO1
  go_wp2_with fail
  (with_reducible refine (PU.out _).mono ?_)
  rintro e w_1 ⟨rfl, rfl⟩
  go_wp2_with fail
  (with_reducible refine (PD.out _).mono ?_)
  rintro e w_2 ⟨rfl, rfl⟩
  by_cases huv : u = v
  · have huv2 : ((u : Int) == (v : Int)) = true := by simp [huv]
    clear huv
    go_wp2_with fail
    go_ret
    exact ⟨rfl, (by repeat (first | with_reducible exact X2.out | with_reducible refine Ext.drew ?_ | with_reducible refine Ext.drewN ?_ _ | with_reducible refine Ext.alloc ?_ _ | with_reducible refine Ext.setCell ?_ (by first | omega | (simp; done) | (simp; omega)) _))⟩
  · have huv2 : ((u : Int) == (v : Int)) = false := by simp; omega
    obtain ⟨i0, hi0, hz0, hz1, hz2⟩ := info_parts infoWord
    go_wp2_with fail
    refine wp_region_held_drew (S := fun _ => True) (by kernel_rfl) trivial (fun hHeld => ?_)
    (refine' take_in 0 rfl (by kernel_rfl) (by kernel_rfl) (by kernel_rfl) (fun _ _ _ h => h) (by rfl) (by assumption) ?_ ?_; rotate_left; focus (intro w hSw; (try dsimp only at hSw); go_simp; try with_reducible rfl)); try simp only [Act.put, List.setIfInBounds_toArray, List.set_cons_zero, List.set_cons_succ]
    (refine' take_in 1 rfl (by kernel_rfl) (by kernel_rfl) (by kernel_rfl) (fun _ _ _ h => h) (by rfl) (by assumption) ?_ ?_; rotate_left; focus (intro w hSw; (try dsimp only at hSw); go_simp; try with_reducible rfl)); try simp only [Act.put, List.setIfInBounds_toArray, List.set_cons_zero, List.set_cons_succ]
    (refine' take_in 2 rfl (by kernel_rfl) (by kernel_rfl) (by kernel_rfl) (fun _ _ _ h => h) (by rfl) (by assumption) ?_ ?_; rotate_left; focus (intro w hSw; (try dsimp only at hSw); go_simp; try with_reducible rfl)); try simp only [Act.put, List.setIfInBounds_toArray, List.set_cons_zero, List.set_cons_succ]
    (refine' take_in 3 rfl (by kernel_rfl) (by kernel_rfl) (by kernel_rfl) (fun _ _ _ h => h) (by rfl) (by assumption) ?_ ?_; rotate_left; focus (intro w hSw; (try dsimp only at hSw); go_simp; try with_reducible rfl)); try simp only [Act.put, List.setIfInBounds_toArray, List.set_cons_zero, List.set_cons_succ]
    (refine' take_in 4 rfl (by kernel_rfl) (by kernel_rfl) (by kernel_rfl) (fun _ _ _ h => h) (by rfl) (by assumption) ?_ ?_; rotate_left; focus (intro w hSw; (try dsimp only at hSw); go_simp; try with_reducible rfl)); try simp only [Act.put, List.setIfInBounds_toArray, List.set_cons_zero, List.set_cons_succ]
    (refine' take_in 6 rfl (by kernel_rfl) (by kernel_rfl) (by kernel_rfl) (fun _ _ _ h => h) (by rfl) (by assumption) ?_ ?_; rotate_left; focus (intro w hSw; (try dsimp only at hSw); go_simp; try with_reducible rfl)); try simp only [Act.put, List.setIfInBounds_toArray, List.set_cons_zero, List.set_cons_succ]
    refine' next2_in 5 7 rfl rfl (by kernel_rfl) (by rfl) (by rfl) (fun K hK => ?_) (fun K hK => ?_)
    · obtain ⟨w4, hw4⟩ : ∃ w4, w4 = w2.drew := ⟨_, rfl⟩
      rw [← hw4]
      have HS4 := Lib.hid (show SlB w4.heap.size w4 1 A n c (iv .u64 ts) from by rw [hw4]; exact (HS.out.sl.ext ((Ext.refl _).drew)).low)
      have HM4 := Lib.hid (show SlB w4.heap.size w4 1 B m d (bv ms) from by rw [hw4]; exact (HM.out.sl.ext ((Ext.refl _).drew)).low)
      have HV4 := Lib.hid (show SlB w4.heap.size w4 1 A1 Kn c1 (bv V) from by rw [hw4]; exact (HV.out.sl.ext ((Ext.refl _).drew)).low)
      have HX4 := Lib.hid (show Ext w w4 from by rw [hw4]; exact (X2.out).drew)
      have hww4 := Ext.size HX4.out
      clear X2 hw4 HS HM HV z1 z2
      obtain ⟨w5, hmk, hO5, hX5⟩ := make_words hi0 hz0 hz1 hz2 Kn (by omega) w4
      have HO5 := Lib.hid hO5
      have HX5 := Lib.hid hX5
      clear hO5 hX5
      go_simp
      refine hK.out _ _ (trivial) (fun hHeld => ?_); clear hK K; try simp only [Act.put, List.setIfInBounds_toArray, List.set_cons_zero, List.set_cons_succ]
      clear hmk
      refine' next_in 7 rfl (by kernel_rfl) (by rfl) (fun K hK => ?_)
      go_simp
      (with_reducible refine (copyB_ev B m d ms w5 (HM4.out.sl.ext HX5.out) (by omega)).mono ?_)
      rintro e w6 ⟨B2, d2, rfl, hO6, hX6⟩
      obtain ⟨g2, rfl, hg2a, hg2b, _, _⟩ := hO6.in_pos (show 0 < m from by omega)
      have HMo := Lib.hid (OwnWord.ext HO5.out hX6)
      have HFe := Lib.hid (OwnBool.lower hO6 (Ext.size HX5.out))
      have hne : w4.heap.size ≠ g2 := by have := (World.ownsRow.lt HO5.out w4.heap.size rfl).2; omega
      have hg2w : w4.heap.size ≤ g2 := by have := Ext.size HX5.out; omega
      have HX6 := Lib.hid (HX5.out.trans hX6)
      clear hO6 hX6 HO5 HX5
      refine hK.out _ _ (trivial) (fun hHeld => ?_); clear hK K; try simp only [Act.put, List.setIfInBounds_toArray, List.set_cons_zero, List.set_cons_succ]
      obtain ⟨g1, hg1⟩ : ∃ g1, g1 = w4.heap.size := ⟨_, rfl⟩
      have hg1w : w4.heap.size ≤ g1 := by omega
      rw [← hg1] at hne
      have HMo2 : Hid (OwnWord w6 w4.heap.size (.slice (some ⟨g1, 0, none⟩) Kn Kn) Kn (List.replicate Kn 0)) := Lib.hid (by rw [hg1]; exact HMo.out)
      clear HMo
      rw [← hg1]
      clear hg1
      (refine' take_in 8 rfl (by kernel_rfl) (by kernel_rfl) (by kernel_rfl) (fun _ _ _ h => h) (by rfl) (by assumption) ?_ ?_; rotate_left; focus (intro w hSw; (try dsimp only at hSw); go_simp; try with_reducible rfl)); try simp only [Act.put, List.setIfInBounds_toArray, List.set_cons_zero, List.set_cons_succ]
      (refine' take_in 9 rfl (by kernel_rfl) (by kernel_rfl) (by kernel_rfl) (fun _ _ _ h => h) (by rfl) (by assumption) ?_ ?_; rotate_left; focus (intro w hSw; (try dsimp only at hSw); go_simp; try with_reducible rfl)); try simp only [Act.put, List.setIfInBounds_toArray, List.set_cons_zero, List.set_cons_succ]
      refine wpAnyH_done (by kernel_rfl) ?_ _
      have HS6 := Lib.hid (HS4.out.ext HX6.out)
      have HV6 := Lib.hid (HV4.out.ext HX6.out)
      obtain ⟨w7, hcp, hO7, hB7⟩ := copy_run HMo2.out HS6.out.sl hnK
      have HO7 := Lib.hid hO7
      have HFe7 := Lib.hid (ownBool_but HFe.out hB7 (fun k hk hs => by injection hk with hk; have hs2 : k = g1 := hs; have hk2 : g2 = k := hk; omega))
      have HV7 := Lib.hid (SlB.but HV6.out hB7 (fun k hk => by subst hk; exact hg1w))
      have HX7 := Lib.hid (show Ext w w7 from (HX4.out.trans HX6.out).trans2 hB7 (fun k hk hs => by have h2 : k = g1 := hs; have := Ext.size HX4.out; omega))
      clear hO7 hB7 HMo2 HFe HS6 HV6 HX6 HX4 HS4 HM4 HV4
      obtain ⟨x, hx⟩ : ∃ x, x = tk ts u := ⟨_, rfl⟩
      have hwx : Word x := by rw [hx]; exact word_tk HW.out u
      have x_0 : w7.cell? ⟨g1, u, none⟩ = some (.int .u64 x) := by
        have h1 := (World.ownsRow.cellAt HO7.out u (by omega)).trans (iv_get .u64 (padW ts Kn) u (by rw [padW_len (by have := HTL.out; omega)]; omega))
        rw [h1, hx, ← tk_pad ts Kn u]
        rfl
      have x_0f := World.ownsRow.frozenAt HO7.out u
      obtain ⟨g2', e2, _, _, y_0, y_0f⟩ := HFe7.out.in_pos hvm
      injection e2 with e2
      injection e2 with e2
      subst e2
      obtain ⟨yb, hyb⟩ : ∃ b, b = ms.getD v false := ⟨_, rfl⟩
      rw [← hyb] at y_0
      have hne' : ¬ g1 = g2 := hne
      have hne2 : ¬ g2 = g1 := fun e => hne e.symm
      have huK : (u : Int) < (Kn : Int) := by omega
      have hvmI : (v : Int) < (m : Int) := by omega
      obtain ⟨x0, x1⟩ := hwx
      obtain ⟨by0, by1⟩ := hby
      have hb2 : 18446744073709551615 - by_ < 18446744073709551616 := by omega
      have hb3 : 0 ≤ 18446744073709551615 - by_ := by omega
      have HXE := Lib.hid hx
      have HMS := Lib.hid hyb
      clear hx hyb
      by_cases hbig : 18446744073709551615 - by_ < x
      · obtain ⟨y, hy⟩ : ∃ y, y = x := ⟨_, rfl⟩
        have HYX := Lib.hid hy
        have hy0 : x ≤ y ∧ Word y := ⟨by omega, by omega, by omega⟩
        have HY := Lib.hid hy0
        clear hy hy0
        obtain ⟨V1, hV1⟩ : ∃ V1, V1 = chooV ((padW ts Kn).set u y) (ms.set v false) most := ⟨_, rfl⟩
        obtain ⟨w8, hw8⟩ : ∃ w8, w8 = (w7.setCell ⟨g1, u, none⟩ (.int .u64 y)).setCell ⟨g2, v, none⟩ (.bool false) := ⟨_, rfl⟩
        have HO8 := Lib.hid (show OwnWord w8 w4.heap.size (.slice (some ⟨g1, 0, none⟩) Kn Kn) Kn ((padW ts Kn).set u y) from by rw [hw8]; exact (HO7.out.put).off hne)
        have HF8 := Lib.hid (show OwnBool w8 w4.heap.size (.slice (some ⟨g2, 0, none⟩) m d2) m (ms.set v false) from by rw [hw8]; exact (HFe7.out.off (fun e => hne e.symm)).put)
        have HV8 := Lib.hid (show SlB w4.heap.size w8 1 A1 Kn c1 (bv V) from by rw [hw8]; exact (HV7.out.off hg1w).off hg2w)
        have HX8 := Lib.hid (show Ext w w8 from by rw [hw8]; exact (HX7.out.setCell (p := ⟨g1, u, none⟩) (by show _ ≤ g1; omega) _).setCell (p := ⟨g2, v, none⟩) (by show _ ≤ g2; omega) _)
        have hV1l : V1.length = Kn := by rw [hV1, chooV_len, allN_next HKA.out]
        have HC := Lib.hid (choose_ev (some ⟨g1, 0, none⟩) (some ⟨g2, 0, none⟩) Kn Kn m d2 ((padW ts Kn).set u y) (ms.set v false) most V1 Kn w8 (OwnWord.sl HO8.out) (OwnBool.sl HF8.out) (by omega) (by omega) (word_step HW.out Kn u HY.out.2) hV1.symm hV1l)
        obtain ⟨p, hp⟩ : ∃ p, p = V.getD u false := ⟨_, rfl⟩
        obtain ⟨q, hq⟩ : ∃ q, q = V1.getD u false := ⟨_, rfl⟩
        have hpq : p = true → q = true := by
          intro hpt
          rw [hp, ← F2.out, chooV_getD (by rw [HKA.out]; omega)] at hpt
          rw [hq, hV1, chooV_getD (by rw [allN_next HKA.out]; omega)]
          exact stays_in HKA.out (by omega) huv (by rw [← HXE.out]; exact HY.out.1) hpt
        have hvd : V1.getD v false = false := by
          rw [hV1, chooV_getD (by rw [allN_next HKA.out]; omega), goes_out, Bool.false_and]
        have HPQ := Lib.hid (And.intro hp (And.intro hq (And.intro hpq (And.intro hvd hV1))))
        clear hp hq hpq hvd hV1 HO7 HFe7 HV7 HX7 HY
        go_wp2_with fail
        rw [← HYX.out]
        rw [← hw8]
        clear hw8 HYX hcp
        (with_reducible refine HC.out.mono ?_)
        rintro e w9 ⟨A9, c9, rfl, hO9, hX9⟩
        obtain ⟨g9, rfl, hg9a, hg9b, q_0, _⟩ := hO9.in_pos (show u < Kn from by omega)
        obtain ⟨g9', e9, _, _, r_0, _⟩ := hO9.in_pos (show v < Kn from by omega)
        injection e9 with e9
        injection e9 with e9
        subst e9
        rw [HPQ.out.2.2.2.1] at r_0
        rw [← HPQ.out.2.1] at q_0
        have HN9 := Lib.hid (OwnBool.sl hO9)
        have HV9 := Lib.hid (SlB.ext HV8.out hX9)
        have HX9 := Lib.hid (HX8.out.trans hX9)
        obtain ⟨b1, o1, rfl, hb1, p_0⟩ := HV9.out.sl.bcell (show u < Kn from by omega)
        rw [← HPQ.out.1] at p_0
        clear hO9 hX9 HO8 HF8 HV8 HX8 HC x_0 x_0f y_0 y_0f
        have huK2 : (u : Int) < (Kn : Int) := by omega
        have hvK2 : (v : Int) < (Kn : Int) := by omega
        have HV9b := Lib.hid HV9.out.sl.low
        obtain ⟨I, hI⟩ : ∃ I, difI V V1 (max V.length V1.length) = I := ⟨_, rfl⟩
        obtain ⟨O, hO⟩ : ∃ O, difO V V1 (max V.length V1.length) = O := ⟨_, rfl⟩
        have hIK : I = difI V V1 Kn := by rw [← hI, hVl, hV1l, Nat.max_self]
        have hOK : O = difO V V1 Kn := by rw [← hO, hVl, hV1l, Nat.max_self]
        have HDI := Lib.hid (diff_ev (some ⟨b1, o1, none⟩) (some ⟨g9, 0, none⟩) Kn c1 Kn c9 V V1 I O I.length O.length w9 HV9.out.sl HN9.out (by omega) (by omega) hI hO rfl rfl)
        have HIO := Lib.hid (And.intro hIK hOK)
        have hIl : I.length ≤ 30 := by rw [hIK]; exact Nat.le_trans (difI_len _ _ _) hKs
        have hOl : O.length ≤ 30 := by rw [hOK]; exact Nat.le_trans (difO_len _ _ _) hKs
        clear hI hO hIK hOK
        have hpq := HPQ.out.2.2.1
        cases p
        all_goals
          first
          | (obtain rfl : q = true := hpq rfl)
          | skip
          clear hpq
          go_wp2_with fail
          (with_reducible refine HDI.out.mono ?_)
          rintro e w10 ⟨A10, c10, B10, d10, rfl, hI10, hO10, hX10⟩
          have HI10 := Lib.hid (OwnInt.sl hI10)
          have HO10 := Lib.hid (OwnInt.sl hO10)
          have HX10 := Lib.hid (HX9.out.trans hX10)
          have HV10 := Lib.hid (HV9.out.ext hX10)
          have HN10 := Lib.hid (HN9.out.ext hX10)
          clear hI10 hO10 hX10 HDI q_0 r_0 p_0 HV9 HN9 HX9 HV9b
          go_wp2_with fail
          (with_reducible refine (copyB_ev (some ⟨b1, o1, none⟩) Kn c1 V w10 HV10.out.sl (by omega)).mono ?_)
          rintro e w11 ⟨A11, c11, rfl, hO11, hX11⟩
          obtain ⟨g3, rfl, hg3a, hg3b, _, _⟩ := hO11.in_pos (show u < Kn from by omega)
          have HI11 := Lib.hid (show SlB g3 w11 1 A10 I.length c10 (iv .i64 I) from ⟨HI10.out.ext hX11, fun hp b o s e => by have h := HI10.out.low.2 hp b o s e; omega⟩)
          have HO11 := Lib.hid (show SlB g3 w11 1 B10 O.length d10 (iv .i64 O) from ⟨HO10.out.ext hX11, fun hp b o s e => by have h := HO10.out.low.2 hp b o s e; omega⟩)
          have HN11 := Lib.hid (show SlB g3 w11 1 (some ⟨g9, 0, none⟩) Kn c9 (bv V1) from ⟨HN10.out.ext hX11, fun hp b o s e => by have h := HN10.out.low.2 hp b o s e; omega⟩)
          have HB11 := Lib.hid (show OwnBool w11 w10.heap.size (.slice (some ⟨g3, 0, none⟩) Kn c11) Kn (bk1 V I Kn 0) from by rw [bk1_start hVl]; exact hO11)
          have HX11 := Lib.hid (HX10.out.trans hX11)
          have hg3w : w.heap.size ≤ g3 := by have := Ext.size HX10.out; omega
          clear hO11 hX11 HI10 HO10 HN10 HX10 HV10
          go_wp2_with fail
          go_loopg [23] I.length (fun gh i wx => gh ≤ I.length ∧ i = .int .i64 ((I.length - gh : Nat) : Int) ∧ Hid (SlB g3 wx 1 A10 I.length c10 (iv .i64 I)) ∧ Hid (SlB g3 wx 1 B10 O.length d10 (iv .i64 O)) ∧ Hid (SlB g3 wx 1 (some ⟨g9, 0, none⟩) Kn c9 (bv V1)) ∧ Hid (OwnBool wx w10.heap.size (.slice (some ⟨g3, 0, none⟩) Kn c11) Kn (bk1 V I Kn (I.length - gh))) ∧ Hid (Ext w wx))
          case atStart => exact ⟨Nat.le_refl _, by simp, HI11, HO11, HN11, by rw [Nat.sub_self]; exact HB11, HX11⟩
          case round =>
            clear HI11 HO11 HN11 HB11 HX11
            obtain ⟨hg, hi, HI, HO, HN, HB, hx⟩ := hrel
            obtain ⟨j, hj⟩ : ∃ j, j = I.length - gk := ⟨_, rfl⟩
            rw [← hj] at hi HB
            subst hi
            by_cases hz : gk = 0
            · have hjn : ¬ (j : Int) < (I.length : Int) := by omega
              have HB2 : Hid (OwnBool wr w10.heap.size (.slice (some ⟨g3, 0, none⟩) Kn c11) Kn (bk2 V V1 O Kn 0)) := Lib.hid (by
                have h := HB.out
                rw [show j = I.length by omega, HIO.out.1, bk_mid, ← HIO.out.2] at h
                exact h)
              clear hj hg hz HB
              go_wp2_with fail
              go_loopg [24] O.length (fun gh i wx => gh ≤ O.length ∧ i = .int .i64 ((O.length - gh : Nat) : Int) ∧ Hid (SlB g3 wx 1 B10 O.length d10 (iv .i64 O)) ∧ Hid (SlB g3 wx 1 (some ⟨g9, 0, none⟩) Kn c9 (bv V1)) ∧ Hid (OwnBool wx w10.heap.size (.slice (some ⟨g3, 0, none⟩) Kn c11) Kn (bk2 V V1 O Kn (O.length - gh))) ∧ Hid (Ext w wx))
              case atStart => exact ⟨Nat.le_refl _, by simp, HO, HN, by rw [Nat.sub_self]; exact HB2, hx⟩
              case round =>
                clear HO HN HB2 hx HI
                obtain ⟨hg, hi, HO, HN, HB, hx⟩ := hrel
                obtain ⟨j, hj⟩ : ∃ j, j = O.length - gk := ⟨_, rfl⟩
                rw [← hj] at hi HB
                subst hi
                by_cases hz : gk = 0
                · have hjn : ¬ (j : Int) < (O.length : Int) := by omega
                  have E := Lib.hid (sameBools17_eq (some ⟨g3, 0, none⟩) (some ⟨g9, 0, none⟩) Kn c11 Kn c9 V1 wr (by
                    have h := OwnBool.sl HB.out
                    rw [show j = O.length by omega, HIO.out.2, bk2_end hV1l] at h
                    exact h) HN.out.sl)
                  clear hj hg hz HB HO HN
                  go_wp2_with fail
                  (with_reducible refine E.out.mono ?_)
                  rintro e w12 ⟨rfl, hX12⟩
                  have HX12 := Lib.hid (hx.out.trans hX12)
                  clear hX12
                  go_wp2_with fail
                  go_ret
                  exact ⟨rfl, HX12.out⟩
                · have hjn : (j : Int) < (O.length : Int) := by omega
                  obtain ⟨y0, hyj⟩ : ∃ x, O[j]? = some x := ⟨_, List.getElem?_eq_getElem (by omega)⟩
                  obtain ⟨i, rfl, hi1, hi2, hi3⟩ := bk2_step (V0 := V) (V1 := V1) (K := Kn) (by rw [← HIO.out.2]; exact hyj)
                  rw [← HIO.out.2] at hi2 hi3
                  obtain ⟨b5, o5, rfl, hb5, hc5⟩ := HO.out.sl.cell (show j < O.length from by omega)
                  have hb5g := HO.out.2 (by omega) b5 o5 none rfl
                  have s_0 := hc5 j (by omega)
                  rw [show O.getD j 0 = (i : Int) from by rw [List.getD_eq_getElem?_getD, hyj]; rfl] at s_0
                  obtain ⟨g3', e3, _, _, t_0, t_0f⟩ := HB.out.in_pos hi1
                  injection e3 with e3
                  injection e3 with e3
                  subst e3
                  rw [hi2] at t_0
                  have hi0 : ¬ (i : Int) < 0 := by omega
                  have hiK : (i : Int) < (Kn : Int) := by omega
                  have hiK2 : ¬ (Kn : Int) ≤ (i : Int) := by omega
                  have HJ := Lib.hid (And.intro hj (And.intro hg (And.intro hz hi3)))
                  clear hj hg hz hyj hi1 hi2 hi3 hc5
                  go_wp2
                  go_roundg (gk - 1)
                  case measure => have := HJ.out; omega
                  case rel =>
                    refine ⟨by have := HJ.out; omega, num_eq (by have := HJ.out; omega), Lib.hid (HO.out.off (Nat.le_refl _)), Lib.hid (HN.out.off (Nat.le_refl _)), Lib.hid ?_, Lib.hid (hx.out.setCell (p := ⟨g3, i, none⟩) hg3w _)⟩
                    have h := (HB.out.put (i := i) (v := false))
                    rw [HJ.out.2.2.2, show j + 1 = O.length - (gk - 1) from by have := HJ.out; omega] at h
                    exact h
            · have hjn : (j : Int) < (I.length : Int) := by omega
              obtain ⟨y0, hyj⟩ : ∃ x, I[j]? = some x := ⟨_, List.getElem?_eq_getElem (by omega)⟩
              obtain ⟨i, rfl, hi1, hi2, hi3⟩ := bk1_step (V0 := V) (V1 := V1) (K := Kn) (by rw [← HIO.out.1]; exact hyj)
              rw [← HIO.out.1] at hi2 hi3
              obtain ⟨b5, o5, rfl, hb5, hc5⟩ := HI.out.sl.cell (show j < I.length from by omega)
              have hb5g := HI.out.2 (by omega) b5 o5 none rfl
              have s_0 := hc5 j (by omega)
              rw [show I.getD j 0 = (i : Int) from by rw [List.getD_eq_getElem?_getD, hyj]; rfl] at s_0
              obtain ⟨g3', e3, _, _, t_0, t_0f⟩ := HB.out.in_pos hi1
              injection e3 with e3
              injection e3 with e3
              subst e3
              rw [hi2] at t_0
              have hi0 : ¬ (i : Int) < 0 := by omega
              have hiK : (i : Int) < (Kn : Int) := by omega
              have hiK2 : ¬ (Kn : Int) ≤ (i : Int) := by omega
              have HJ := Lib.hid (And.intro hj (And.intro hg (And.intro hz hi3)))
              clear hj hg hz hyj hi1 hi2 hi3 hc5
              go_wp2
              go_roundg (gk - 1)
              case measure => have := HJ.out; omega
              case rel =>
                refine ⟨by have := HJ.out; omega, num_eq (by have := HJ.out; omega), Lib.hid (HI.out.off (Nat.le_refl _)), Lib.hid (HO.out.off (Nat.le_refl _)), Lib.hid (HN.out.off (Nat.le_refl _)), Lib.hid ?_, Lib.hid (hx.out.setCell (p := ⟨g3, i, none⟩) hg3w _)⟩
                have h := (HB.out.put (i := i) (v := true))
                rw [HJ.out.2.2.2, show j + 1 = I.length - (gk - 1) from by have := HJ.out; omega] at h
                exact h
      · obtain ⟨y, hy⟩ : ∃ y, y = x + by_ := ⟨_, rfl⟩
        have hxy : x + by_ = y := hy.symm
        have hy0 : x ≤ y ∧ Word y := ⟨by omega, by omega, by omega⟩
        have HY := Lib.hid hy0
        clear hy hy0
        obtain ⟨V1, hV1⟩ : ∃ V1, V1 = chooV ((padW ts Kn).set u y) (ms.set v false) most := ⟨_, rfl⟩
        obtain ⟨w8, hw8⟩ : ∃ w8, w8 = (w7.setCell ⟨g1, u, none⟩ (.int .u64 y)).setCell ⟨g2, v, none⟩ (.bool false) := ⟨_, rfl⟩
        have HO8 := Lib.hid (show OwnWord w8 w4.heap.size (.slice (some ⟨g1, 0, none⟩) Kn Kn) Kn ((padW ts Kn).set u y) from by rw [hw8]; exact (HO7.out.put).off hne)
        have HF8 := Lib.hid (show OwnBool w8 w4.heap.size (.slice (some ⟨g2, 0, none⟩) m d2) m (ms.set v false) from by rw [hw8]; exact (HFe7.out.off (fun e => hne e.symm)).put)
        have HV8 := Lib.hid (show SlB w4.heap.size w8 1 A1 Kn c1 (bv V) from by rw [hw8]; exact (HV7.out.off hg1w).off hg2w)
        have HX8 := Lib.hid (show Ext w w8 from by rw [hw8]; exact (HX7.out.setCell (p := ⟨g1, u, none⟩) (by show _ ≤ g1; omega) _).setCell (p := ⟨g2, v, none⟩) (by show _ ≤ g2; omega) _)
        have hV1l : V1.length = Kn := by rw [hV1, chooV_len, allN_next HKA.out]
        have HC := Lib.hid (choose_ev (some ⟨g1, 0, none⟩) (some ⟨g2, 0, none⟩) Kn Kn m d2 ((padW ts Kn).set u y) (ms.set v false) most V1 Kn w8 (OwnWord.sl HO8.out) (OwnBool.sl HF8.out) (by omega) (by omega) (word_step HW.out Kn u HY.out.2) hV1.symm hV1l)
        obtain ⟨p, hp⟩ : ∃ p, p = V.getD u false := ⟨_, rfl⟩
        obtain ⟨q, hq⟩ : ∃ q, q = V1.getD u false := ⟨_, rfl⟩
        have hpq : p = true → q = true := by
          intro hpt
          rw [hp, ← F2.out, chooV_getD (by rw [HKA.out]; omega)] at hpt
          rw [hq, hV1, chooV_getD (by rw [allN_next HKA.out]; omega)]
          exact stays_in HKA.out (by omega) huv (by rw [← HXE.out]; exact HY.out.1) hpt
        have hvd : V1.getD v false = false := by
          rw [hV1, chooV_getD (by rw [allN_next HKA.out]; omega), goes_out, Bool.false_and]
        have HPQ := Lib.hid (And.intro hp (And.intro hq (And.intro hpq (And.intro hvd hV1))))
        clear hp hq hpq hvd hV1 HO7 HFe7 HV7 HX7 HY
        go_wp2_with fail
        try simp only [hxy]
        rw [← hw8]
        clear hw8 hxy hcp
        (with_reducible refine HC.out.mono ?_)
        rintro e w9 ⟨A9, c9, rfl, hO9, hX9⟩
        obtain ⟨g9, rfl, hg9a, hg9b, q_0, _⟩ := hO9.in_pos (show u < Kn from by omega)
        obtain ⟨g9', e9, _, _, r_0, _⟩ := hO9.in_pos (show v < Kn from by omega)
        injection e9 with e9
        injection e9 with e9
        subst e9
        rw [HPQ.out.2.2.2.1] at r_0
        rw [← HPQ.out.2.1] at q_0
        have HN9 := Lib.hid (OwnBool.sl hO9)
        have HV9 := Lib.hid (SlB.ext HV8.out hX9)
        have HX9 := Lib.hid (HX8.out.trans hX9)
        obtain ⟨b1, o1, rfl, hb1, p_0⟩ := HV9.out.sl.bcell (show u < Kn from by omega)
        rw [← HPQ.out.1] at p_0
        clear hO9 hX9 HO8 HF8 HV8 HX8 HC x_0 x_0f y_0 y_0f
        have huK2 : (u : Int) < (Kn : Int) := by omega
        have hvK2 : (v : Int) < (Kn : Int) := by omega
        have HV9b := Lib.hid HV9.out.sl.low
        obtain ⟨I, hI⟩ : ∃ I, difI V V1 (max V.length V1.length) = I := ⟨_, rfl⟩
        obtain ⟨O, hO⟩ : ∃ O, difO V V1 (max V.length V1.length) = O := ⟨_, rfl⟩
        have hIK : I = difI V V1 Kn := by rw [← hI, hVl, hV1l, Nat.max_self]
        have hOK : O = difO V V1 Kn := by rw [← hO, hVl, hV1l, Nat.max_self]
        have HDI := Lib.hid (diff_ev (some ⟨b1, o1, none⟩) (some ⟨g9, 0, none⟩) Kn c1 Kn c9 V V1 I O I.length O.length w9 HV9.out.sl HN9.out (by omega) (by omega) hI hO rfl rfl)
        have HIO := Lib.hid (And.intro hIK hOK)
        have hIl : I.length ≤ 30 := by rw [hIK]; exact Nat.le_trans (difI_len _ _ _) hKs
        have hOl : O.length ≤ 30 := by rw [hOK]; exact Nat.le_trans (difO_len _ _ _) hKs
        clear hI hO hIK hOK
        have hpq := HPQ.out.2.2.1
        cases p
        all_goals
          first
          | (obtain rfl : q = true := hpq rfl)
          | skip
          clear hpq
          go_wp2_with fail
          (with_reducible refine HDI.out.mono ?_)
          rintro e w10 ⟨A10, c10, B10, d10, rfl, hI10, hO10, hX10⟩
          have HI10 := Lib.hid (OwnInt.sl hI10)
          have HO10 := Lib.hid (OwnInt.sl hO10)
          have HX10 := Lib.hid (HX9.out.trans hX10)
          have HV10 := Lib.hid (HV9.out.ext hX10)
          have HN10 := Lib.hid (HN9.out.ext hX10)
          clear hI10 hO10 hX10 HDI q_0 r_0 p_0 HV9 HN9 HX9 HV9b
          go_wp2_with fail
          (with_reducible refine (copyB_ev (some ⟨b1, o1, none⟩) Kn c1 V w10 HV10.out.sl (by omega)).mono ?_)
          rintro e w11 ⟨A11, c11, rfl, hO11, hX11⟩
          obtain ⟨g3, rfl, hg3a, hg3b, _, _⟩ := hO11.in_pos (show u < Kn from by omega)
          have HI11 := Lib.hid (show SlB g3 w11 1 A10 I.length c10 (iv .i64 I) from ⟨HI10.out.ext hX11, fun hp b o s e => by have h := HI10.out.low.2 hp b o s e; omega⟩)
          have HO11 := Lib.hid (show SlB g3 w11 1 B10 O.length d10 (iv .i64 O) from ⟨HO10.out.ext hX11, fun hp b o s e => by have h := HO10.out.low.2 hp b o s e; omega⟩)
          have HN11 := Lib.hid (show SlB g3 w11 1 (some ⟨g9, 0, none⟩) Kn c9 (bv V1) from ⟨HN10.out.ext hX11, fun hp b o s e => by have h := HN10.out.low.2 hp b o s e; omega⟩)
          have HB11 := Lib.hid (show OwnBool w11 w10.heap.size (.slice (some ⟨g3, 0, none⟩) Kn c11) Kn (bk1 V I Kn 0) from by rw [bk1_start hVl]; exact hO11)
          have HX11 := Lib.hid (HX10.out.trans hX11)
          have hg3w : w.heap.size ≤ g3 := by have := Ext.size HX10.out; omega
          clear hO11 hX11 HI10 HO10 HN10 HX10 HV10
          go_wp2_with fail
          go_loopg [23] I.length (fun gh i wx => gh ≤ I.length ∧ i = .int .i64 ((I.length - gh : Nat) : Int) ∧ Hid (SlB g3 wx 1 A10 I.length c10 (iv .i64 I)) ∧ Hid (SlB g3 wx 1 B10 O.length d10 (iv .i64 O)) ∧ Hid (SlB g3 wx 1 (some ⟨g9, 0, none⟩) Kn c9 (bv V1)) ∧ Hid (OwnBool wx w10.heap.size (.slice (some ⟨g3, 0, none⟩) Kn c11) Kn (bk1 V I Kn (I.length - gh))) ∧ Hid (Ext w wx))
          case atStart => exact ⟨Nat.le_refl _, by simp, HI11, HO11, HN11, by rw [Nat.sub_self]; exact HB11, HX11⟩
          case round =>
            clear HI11 HO11 HN11 HB11 HX11
            obtain ⟨hg, hi, HI, HO, HN, HB, hx⟩ := hrel
            obtain ⟨j, hj⟩ : ∃ j, j = I.length - gk := ⟨_, rfl⟩
            rw [← hj] at hi HB
            subst hi
            by_cases hz : gk = 0
            · have hjn : ¬ (j : Int) < (I.length : Int) := by omega
              have HB2 : Hid (OwnBool wr w10.heap.size (.slice (some ⟨g3, 0, none⟩) Kn c11) Kn (bk2 V V1 O Kn 0)) := Lib.hid (by
                have h := HB.out
                rw [show j = I.length by omega, HIO.out.1, bk_mid, ← HIO.out.2] at h
                exact h)
              clear hj hg hz HB
              go_wp2_with fail
              go_loopg [24] O.length (fun gh i wx => gh ≤ O.length ∧ i = .int .i64 ((O.length - gh : Nat) : Int) ∧ Hid (SlB g3 wx 1 B10 O.length d10 (iv .i64 O)) ∧ Hid (SlB g3 wx 1 (some ⟨g9, 0, none⟩) Kn c9 (bv V1)) ∧ Hid (OwnBool wx w10.heap.size (.slice (some ⟨g3, 0, none⟩) Kn c11) Kn (bk2 V V1 O Kn (O.length - gh))) ∧ Hid (Ext w wx))
              case atStart => exact ⟨Nat.le_refl _, by simp, HO, HN, by rw [Nat.sub_self]; exact HB2, hx⟩
              case round =>
                clear HO HN HB2 hx HI
                obtain ⟨hg, hi, HO, HN, HB, hx⟩ := hrel
                obtain ⟨j, hj⟩ : ∃ j, j = O.length - gk := ⟨_, rfl⟩
                rw [← hj] at hi HB
                subst hi
                by_cases hz : gk = 0
                · have hjn : ¬ (j : Int) < (O.length : Int) := by omega
                  have E := Lib.hid (sameBools17_eq (some ⟨g3, 0, none⟩) (some ⟨g9, 0, none⟩) Kn c11 Kn c9 V1 wr (by
                    have h := OwnBool.sl HB.out
                    rw [show j = O.length by omega, HIO.out.2, bk2_end hV1l] at h
                    exact h) HN.out.sl)
                  clear hj hg hz HB HO HN
                  go_wp2_with fail
                  (with_reducible refine E.out.mono ?_)
                  rintro e w12 ⟨rfl, hX12⟩
                  have HX12 := Lib.hid (hx.out.trans hX12)
                  clear hX12
                  go_wp2_with fail
                  go_ret
                  exact ⟨rfl, HX12.out⟩
                · have hjn : (j : Int) < (O.length : Int) := by omega
                  obtain ⟨y0, hyj⟩ : ∃ x, O[j]? = some x := ⟨_, List.getElem?_eq_getElem (by omega)⟩
                  obtain ⟨i, rfl, hi1, hi2, hi3⟩ := bk2_step (V0 := V) (V1 := V1) (K := Kn) (by rw [← HIO.out.2]; exact hyj)
                  rw [← HIO.out.2] at hi2 hi3
                  obtain ⟨b5, o5, rfl, hb5, hc5⟩ := HO.out.sl.cell (show j < O.length from by omega)
                  have hb5g := HO.out.2 (by omega) b5 o5 none rfl
                  have s_0 := hc5 j (by omega)
                  rw [show O.getD j 0 = (i : Int) from by rw [List.getD_eq_getElem?_getD, hyj]; rfl] at s_0
                  obtain ⟨g3', e3, _, _, t_0, t_0f⟩ := HB.out.in_pos hi1
                  injection e3 with e3
                  injection e3 with e3
                  subst e3
                  rw [hi2] at t_0
                  have hi0 : ¬ (i : Int) < 0 := by omega
                  have hiK : (i : Int) < (Kn : Int) := by omega
                  have hiK2 : ¬ (Kn : Int) ≤ (i : Int) := by omega
                  have HJ := Lib.hid (And.intro hj (And.intro hg (And.intro hz hi3)))
                  clear hj hg hz hyj hi1 hi2 hi3 hc5
                  go_wp2
                  go_roundg (gk - 1)
                  case measure => have := HJ.out; omega
                  case rel =>
                    refine ⟨by have := HJ.out; omega, num_eq (by have := HJ.out; omega), Lib.hid (HO.out.off (Nat.le_refl _)), Lib.hid (HN.out.off (Nat.le_refl _)), Lib.hid ?_, Lib.hid (hx.out.setCell (p := ⟨g3, i, none⟩) hg3w _)⟩
                    have h := (HB.out.put (i := i) (v := false))
                    rw [HJ.out.2.2.2, show j + 1 = O.length - (gk - 1) from by have := HJ.out; omega] at h
                    exact h
            · have hjn : (j : Int) < (I.length : Int) := by omega
              obtain ⟨y0, hyj⟩ : ∃ x, I[j]? = some x := ⟨_, List.getElem?_eq_getElem (by omega)⟩
              obtain ⟨i, rfl, hi1, hi2, hi3⟩ := bk1_step (V0 := V) (V1 := V1) (K := Kn) (by rw [← HIO.out.1]; exact hyj)
              rw [← HIO.out.1] at hi2 hi3
              obtain ⟨b5, o5, rfl, hb5, hc5⟩ := HI.out.sl.cell (show j < I.length from by omega)
              have hb5g := HI.out.2 (by omega) b5 o5 none rfl
              have s_0 := hc5 j (by omega)
              rw [show I.getD j 0 = (i : Int) from by rw [List.getD_eq_getElem?_getD, hyj]; rfl] at s_0
              obtain ⟨g3', e3, _, _, t_0, t_0f⟩ := HB.out.in_pos hi1
              injection e3 with e3
              injection e3 with e3
              subst e3
              rw [hi2] at t_0
              have hi0 : ¬ (i : Int) < 0 := by omega
              have hiK : (i : Int) < (Kn : Int) := by omega
              have hiK2 : ¬ (Kn : Int) ≤ (i : Int) := by omega
              have HJ := Lib.hid (And.intro hj (And.intro hg (And.intro hz hi3)))
              clear hj hg hz hyj hi1 hi2 hi3 hc5
              go_wp2
              go_roundg (gk - 1)
              case measure => have := HJ.out; omega
              case rel =>
                refine ⟨by have := HJ.out; omega, num_eq (by have := HJ.out; omega), Lib.hid (HI.out.off (Nat.le_refl _)), Lib.hid (HO.out.off (Nat.le_refl _)), Lib.hid (HN.out.off (Nat.le_refl _)), Lib.hid ?_, Lib.hid (hx.out.setCell (p := ⟨g3, i, none⟩) hg3w _)⟩
                have h := (HB.out.put (i := i) (v := true))
                rw [HJ.out.2.2.2, show j + 1 = I.length - (gk - 1) from by have := HJ.out; omega] at h
                exact h
    · obtain ⟨w4, hw4⟩ : ∃ w4, w4 = w2.drew := ⟨_, rfl⟩
      rw [← hw4]
      have HS4 := Lib.hid (show SlB w4.heap.size w4 1 A n c (iv .u64 ts) from by rw [hw4]; exact (HS.out.sl.ext ((Ext.refl _).drew)).low)
      have HM4 := Lib.hid (show SlB w4.heap.size w4 1 B m d (bv ms) from by rw [hw4]; exact (HM.out.sl.ext ((Ext.refl _).drew)).low)
      have HV4 := Lib.hid (show SlB w4.heap.size w4 1 A1 Kn c1 (bv V) from by rw [hw4]; exact (HV.out.sl.ext ((Ext.refl _).drew)).low)
      have HX4 := Lib.hid (show Ext w w4 from by rw [hw4]; exact (X2.out).drew)
      have hww4 := Ext.size HX4.out
      clear X2 hw4 HS HM HV z1 z2
      go_simp
      (with_reducible refine (copyB_ev B m d ms w4 HM4.out.sl (by omega)).mono ?_)
      rintro e w5 ⟨B2, d2, rfl, hO6, hX5⟩
      obtain ⟨g2, rfl, hg2a, hg2b, _, _⟩ := hO6.in_pos (show 0 < m from by omega)
      refine hK.out _ _ (trivial) (fun hHeld => ?_); clear hK K; try simp only [Act.put, List.setIfInBounds_toArray, List.set_cons_zero, List.set_cons_succ]
      obtain ⟨w6, hmk, hO5, hX6⟩ := make_words hi0 hz0 hz1 hz2 Kn (by omega) w5
      have HMo := Lib.hid (OwnWord.lower hO5 (Ext.size hX5))
      have HFe := Lib.hid (OwnBool.ext hO6 hX6)
      have hne : w5.heap.size ≠ g2 := by omega
      have HX6 := Lib.hid (hX5.trans hX6)
      have hg1w : w4.heap.size ≤ w5.heap.size := Ext.size hX5
      have hg2w : w4.heap.size ≤ g2 := hg2a
      clear hO5 hO6 hX6
      refine' next_in 5 rfl (by kernel_rfl) (by rfl) (fun K hK => ?_)
      go_simp
      refine hK.out _ _ (trivial) (fun hHeld => ?_); clear hK K; try simp only [Act.put, List.setIfInBounds_toArray, List.set_cons_zero, List.set_cons_succ]
      clear hmk hX5
      obtain ⟨g1, hg1⟩ : ∃ g1, g1 = w5.heap.size := ⟨_, rfl⟩
      have HMo2 : Hid (OwnWord w6 w4.heap.size (.slice (some ⟨g1, 0, none⟩) Kn Kn) Kn (List.replicate Kn 0)) := Lib.hid (by rw [hg1]; exact HMo.out)
      clear HMo
      rw [← hg1] at hg1w hne ⊢
      clear hg1
      (refine' take_in 8 rfl (by kernel_rfl) (by kernel_rfl) (by kernel_rfl) (fun _ _ _ h => h) (by rfl) (by assumption) ?_ ?_; rotate_left; focus (intro w hSw; (try dsimp only at hSw); go_simp; try with_reducible rfl)); try simp only [Act.put, List.setIfInBounds_toArray, List.set_cons_zero, List.set_cons_succ]
      (refine' take_in 9 rfl (by kernel_rfl) (by kernel_rfl) (by kernel_rfl) (fun _ _ _ h => h) (by rfl) (by assumption) ?_ ?_; rotate_left; focus (intro w hSw; (try dsimp only at hSw); go_simp; try with_reducible rfl)); try simp only [Act.put, List.setIfInBounds_toArray, List.set_cons_zero, List.set_cons_succ]
      refine wpAnyH_done (by kernel_rfl) ?_ _
      have HS6 := Lib.hid (HS4.out.ext HX6.out)
      have HV6 := Lib.hid (HV4.out.ext HX6.out)
      obtain ⟨w7, hcp, hO7, hB7⟩ := copy_run HMo2.out HS6.out.sl hnK
      have HO7 := Lib.hid hO7
      have HFe7 := Lib.hid (ownBool_but HFe.out hB7 (fun k hk hs => by injection hk with hk; have hs2 : k = g1 := hs; have hk2 : g2 = k := hk; omega))
      have HV7 := Lib.hid (SlB.but HV6.out hB7 (fun k hk => by subst hk; exact hg1w))
      have HX7 := Lib.hid (show Ext w w7 from (HX4.out.trans HX6.out).trans2 hB7 (fun k hk hs => by have h2 : k = g1 := hs; have := Ext.size HX4.out; omega))
      clear hO7 hB7 HMo2 HFe HS6 HV6 HX6 HX4 HS4 HM4 HV4
      obtain ⟨x, hx⟩ : ∃ x, x = tk ts u := ⟨_, rfl⟩
      have hwx : Word x := by rw [hx]; exact word_tk HW.out u
      have x_0 : w7.cell? ⟨g1, u, none⟩ = some (.int .u64 x) := by
        have h1 := (World.ownsRow.cellAt HO7.out u (by omega)).trans (iv_get .u64 (padW ts Kn) u (by rw [padW_len (by have := HTL.out; omega)]; omega))
        rw [h1, hx, ← tk_pad ts Kn u]
        rfl
      have x_0f := World.ownsRow.frozenAt HO7.out u
      obtain ⟨g2', e2, _, _, y_0, y_0f⟩ := HFe7.out.in_pos hvm
      injection e2 with e2
      injection e2 with e2
      subst e2
      obtain ⟨yb, hyb⟩ : ∃ b, b = ms.getD v false := ⟨_, rfl⟩
      rw [← hyb] at y_0
      have hne' : ¬ g1 = g2 := hne
      have hne2 : ¬ g2 = g1 := fun e => hne e.symm
      have huK : (u : Int) < (Kn : Int) := by omega
      have hvmI : (v : Int) < (m : Int) := by omega
      obtain ⟨x0, x1⟩ := hwx
      obtain ⟨by0, by1⟩ := hby
      have hb2 : 18446744073709551615 - by_ < 18446744073709551616 := by omega
      have hb3 : 0 ≤ 18446744073709551615 - by_ := by omega
      have HXE := Lib.hid hx
      have HMS := Lib.hid hyb
      clear hx hyb
      by_cases hbig : 18446744073709551615 - by_ < x
      · obtain ⟨y, hy⟩ : ∃ y, y = x := ⟨_, rfl⟩
        have HYX := Lib.hid hy
        have hy0 : x ≤ y ∧ Word y := ⟨by omega, by omega, by omega⟩
        have HY := Lib.hid hy0
        clear hy hy0
        obtain ⟨V1, hV1⟩ : ∃ V1, V1 = chooV ((padW ts Kn).set u y) (ms.set v false) most := ⟨_, rfl⟩
        obtain ⟨w8, hw8⟩ : ∃ w8, w8 = (w7.setCell ⟨g1, u, none⟩ (.int .u64 y)).setCell ⟨g2, v, none⟩ (.bool false) := ⟨_, rfl⟩
        have HO8 := Lib.hid (show OwnWord w8 w4.heap.size (.slice (some ⟨g1, 0, none⟩) Kn Kn) Kn ((padW ts Kn).set u y) from by rw [hw8]; exact (HO7.out.put).off hne)
        have HF8 := Lib.hid (show OwnBool w8 w4.heap.size (.slice (some ⟨g2, 0, none⟩) m d2) m (ms.set v false) from by rw [hw8]; exact (HFe7.out.off (fun e => hne e.symm)).put)
        have HV8 := Lib.hid (show SlB w4.heap.size w8 1 A1 Kn c1 (bv V) from by rw [hw8]; exact (HV7.out.off hg1w).off hg2w)
        have HX8 := Lib.hid (show Ext w w8 from by rw [hw8]; exact (HX7.out.setCell (p := ⟨g1, u, none⟩) (by show _ ≤ g1; omega) _).setCell (p := ⟨g2, v, none⟩) (by show _ ≤ g2; omega) _)
        have hV1l : V1.length = Kn := by rw [hV1, chooV_len, allN_next HKA.out]
        have HC := Lib.hid (choose_ev (some ⟨g1, 0, none⟩) (some ⟨g2, 0, none⟩) Kn Kn m d2 ((padW ts Kn).set u y) (ms.set v false) most V1 Kn w8 (OwnWord.sl HO8.out) (OwnBool.sl HF8.out) (by omega) (by omega) (word_step HW.out Kn u HY.out.2) hV1.symm hV1l)
        obtain ⟨p, hp⟩ : ∃ p, p = V.getD u false := ⟨_, rfl⟩
        obtain ⟨q, hq⟩ : ∃ q, q = V1.getD u false := ⟨_, rfl⟩
        have hpq : p = true → q = true := by
          intro hpt
          rw [hp, ← F2.out, chooV_getD (by rw [HKA.out]; omega)] at hpt
          rw [hq, hV1, chooV_getD (by rw [allN_next HKA.out]; omega)]
          exact stays_in HKA.out (by omega) huv (by rw [← HXE.out]; exact HY.out.1) hpt
        have hvd : V1.getD v false = false := by
          rw [hV1, chooV_getD (by rw [allN_next HKA.out]; omega), goes_out, Bool.false_and]
        have HPQ := Lib.hid (And.intro hp (And.intro hq (And.intro hpq (And.intro hvd hV1))))
        clear hp hq hpq hvd hV1 HO7 HFe7 HV7 HX7 HY
        go_wp2_with fail
        rw [← HYX.out]
        rw [← hw8]
        clear hw8 HYX hcp
        (with_reducible refine HC.out.mono ?_)
        rintro e w9 ⟨A9, c9, rfl, hO9, hX9⟩
        obtain ⟨g9, rfl, hg9a, hg9b, q_0, _⟩ := hO9.in_pos (show u < Kn from by omega)
        obtain ⟨g9', e9, _, _, r_0, _⟩ := hO9.in_pos (show v < Kn from by omega)
        injection e9 with e9
        injection e9 with e9
        subst e9
        rw [HPQ.out.2.2.2.1] at r_0
        rw [← HPQ.out.2.1] at q_0
        have HN9 := Lib.hid (OwnBool.sl hO9)
        have HV9 := Lib.hid (SlB.ext HV8.out hX9)
        have HX9 := Lib.hid (HX8.out.trans hX9)
        obtain ⟨b1, o1, rfl, hb1, p_0⟩ := HV9.out.sl.bcell (show u < Kn from by omega)
        rw [← HPQ.out.1] at p_0
        clear hO9 hX9 HO8 HF8 HV8 HX8 HC x_0 x_0f y_0 y_0f
        have huK2 : (u : Int) < (Kn : Int) := by omega
        have hvK2 : (v : Int) < (Kn : Int) := by omega
        have HV9b := Lib.hid HV9.out.sl.low
        obtain ⟨I, hI⟩ : ∃ I, difI V V1 (max V.length V1.length) = I := ⟨_, rfl⟩
        obtain ⟨O, hO⟩ : ∃ O, difO V V1 (max V.length V1.length) = O := ⟨_, rfl⟩
        have hIK : I = difI V V1 Kn := by rw [← hI, hVl, hV1l, Nat.max_self]
        have hOK : O = difO V V1 Kn := by rw [← hO, hVl, hV1l, Nat.max_self]
        have HDI := Lib.hid (diff_ev (some ⟨b1, o1, none⟩) (some ⟨g9, 0, none⟩) Kn c1 Kn c9 V V1 I O I.length O.length w9 HV9.out.sl HN9.out (by omega) (by omega) hI hO rfl rfl)
        have HIO := Lib.hid (And.intro hIK hOK)
        have hIl : I.length ≤ 30 := by rw [hIK]; exact Nat.le_trans (difI_len _ _ _) hKs
        have hOl : O.length ≤ 30 := by rw [hOK]; exact Nat.le_trans (difO_len _ _ _) hKs
        clear hI hO hIK hOK
        have hpq := HPQ.out.2.2.1
        cases p
        all_goals
          first
          | (obtain rfl : q = true := hpq rfl)
          | skip
          clear hpq
          go_wp2_with fail
          (with_reducible refine HDI.out.mono ?_)
          rintro e w10 ⟨A10, c10, B10, d10, rfl, hI10, hO10, hX10⟩
          have HI10 := Lib.hid (OwnInt.sl hI10)
          have HO10 := Lib.hid (OwnInt.sl hO10)
          have HX10 := Lib.hid (HX9.out.trans hX10)
          have HV10 := Lib.hid (HV9.out.ext hX10)
          have HN10 := Lib.hid (HN9.out.ext hX10)
          clear hI10 hO10 hX10 HDI q_0 r_0 p_0 HV9 HN9 HX9 HV9b
          go_wp2_with fail
          (with_reducible refine (copyB_ev (some ⟨b1, o1, none⟩) Kn c1 V w10 HV10.out.sl (by omega)).mono ?_)
          rintro e w11 ⟨A11, c11, rfl, hO11, hX11⟩
          obtain ⟨g3, rfl, hg3a, hg3b, _, _⟩ := hO11.in_pos (show u < Kn from by omega)
          have HI11 := Lib.hid (show SlB g3 w11 1 A10 I.length c10 (iv .i64 I) from ⟨HI10.out.ext hX11, fun hp b o s e => by have h := HI10.out.low.2 hp b o s e; omega⟩)
          have HO11 := Lib.hid (show SlB g3 w11 1 B10 O.length d10 (iv .i64 O) from ⟨HO10.out.ext hX11, fun hp b o s e => by have h := HO10.out.low.2 hp b o s e; omega⟩)
          have HN11 := Lib.hid (show SlB g3 w11 1 (some ⟨g9, 0, none⟩) Kn c9 (bv V1) from ⟨HN10.out.ext hX11, fun hp b o s e => by have h := HN10.out.low.2 hp b o s e; omega⟩)
          have HB11 := Lib.hid (show OwnBool w11 w10.heap.size (.slice (some ⟨g3, 0, none⟩) Kn c11) Kn (bk1 V I Kn 0) from by rw [bk1_start hVl]; exact hO11)
          have HX11 := Lib.hid (HX10.out.trans hX11)
          have hg3w : w.heap.size ≤ g3 := by have := Ext.size HX10.out; omega
          clear hO11 hX11 HI10 HO10 HN10 HX10 HV10
          go_wp2_with fail
          go_loopg [23] I.length (fun gh i wx => gh ≤ I.length ∧ i = .int .i64 ((I.length - gh : Nat) : Int) ∧ Hid (SlB g3 wx 1 A10 I.length c10 (iv .i64 I)) ∧ Hid (SlB g3 wx 1 B10 O.length d10 (iv .i64 O)) ∧ Hid (SlB g3 wx 1 (some ⟨g9, 0, none⟩) Kn c9 (bv V1)) ∧ Hid (OwnBool wx w10.heap.size (.slice (some ⟨g3, 0, none⟩) Kn c11) Kn (bk1 V I Kn (I.length - gh))) ∧ Hid (Ext w wx))
          case atStart => exact ⟨Nat.le_refl _, by simp, HI11, HO11, HN11, by rw [Nat.sub_self]; exact HB11, HX11⟩
          case round =>
            clear HI11 HO11 HN11 HB11 HX11
            obtain ⟨hg, hi, HI, HO, HN, HB, hx⟩ := hrel
            obtain ⟨j, hj⟩ : ∃ j, j = I.length - gk := ⟨_, rfl⟩
            rw [← hj] at hi HB
            subst hi
            by_cases hz : gk = 0
            · have hjn : ¬ (j : Int) < (I.length : Int) := by omega
              have HB2 : Hid (OwnBool wr w10.heap.size (.slice (some ⟨g3, 0, none⟩) Kn c11) Kn (bk2 V V1 O Kn 0)) := Lib.hid (by
                have h := HB.out
                rw [show j = I.length by omega, HIO.out.1, bk_mid, ← HIO.out.2] at h
                exact h)
              clear hj hg hz HB
              go_wp2_with fail
              go_loopg [24] O.length (fun gh i wx => gh ≤ O.length ∧ i = .int .i64 ((O.length - gh : Nat) : Int) ∧ Hid (SlB g3 wx 1 B10 O.length d10 (iv .i64 O)) ∧ Hid (SlB g3 wx 1 (some ⟨g9, 0, none⟩) Kn c9 (bv V1)) ∧ Hid (OwnBool wx w10.heap.size (.slice (some ⟨g3, 0, none⟩) Kn c11) Kn (bk2 V V1 O Kn (O.length - gh))) ∧ Hid (Ext w wx))
              case atStart => exact ⟨Nat.le_refl _, by simp, HO, HN, by rw [Nat.sub_self]; exact HB2, hx⟩
              case round =>
                clear HO HN HB2 hx HI
                obtain ⟨hg, hi, HO, HN, HB, hx⟩ := hrel
                obtain ⟨j, hj⟩ : ∃ j, j = O.length - gk := ⟨_, rfl⟩
                rw [← hj] at hi HB
                subst hi
                by_cases hz : gk = 0
                · have hjn : ¬ (j : Int) < (O.length : Int) := by omega
                  have E := Lib.hid (sameBools17_eq (some ⟨g3, 0, none⟩) (some ⟨g9, 0, none⟩) Kn c11 Kn c9 V1 wr (by
                    have h := OwnBool.sl HB.out
                    rw [show j = O.length by omega, HIO.out.2, bk2_end hV1l] at h
                    exact h) HN.out.sl)
                  clear hj hg hz HB HO HN
                  go_wp2_with fail
                  (with_reducible refine E.out.mono ?_)
                  rintro e w12 ⟨rfl, hX12⟩
                  have HX12 := Lib.hid (hx.out.trans hX12)
                  clear hX12
                  go_wp2_with fail
                  go_ret
                  exact ⟨rfl, HX12.out⟩
                · have hjn : (j : Int) < (O.length : Int) := by omega
                  obtain ⟨y0, hyj⟩ : ∃ x, O[j]? = some x := ⟨_, List.getElem?_eq_getElem (by omega)⟩
                  obtain ⟨i, rfl, hi1, hi2, hi3⟩ := bk2_step (V0 := V) (V1 := V1) (K := Kn) (by rw [← HIO.out.2]; exact hyj)
                  rw [← HIO.out.2] at hi2 hi3
                  obtain ⟨b5, o5, rfl, hb5, hc5⟩ := HO.out.sl.cell (show j < O.length from by omega)
                  have hb5g := HO.out.2 (by omega) b5 o5 none rfl
                  have s_0 := hc5 j (by omega)
                  rw [show O.getD j 0 = (i : Int) from by rw [List.getD_eq_getElem?_getD, hyj]; rfl] at s_0
                  obtain ⟨g3', e3, _, _, t_0, t_0f⟩ := HB.out.in_pos hi1
                  injection e3 with e3
                  injection e3 with e3
                  subst e3
                  rw [hi2] at t_0
                  have hi0 : ¬ (i : Int) < 0 := by omega
                  have hiK : (i : Int) < (Kn : Int) := by omega
                  have hiK2 : ¬ (Kn : Int) ≤ (i : Int) := by omega
                  have HJ := Lib.hid (And.intro hj (And.intro hg (And.intro hz hi3)))
                  clear hj hg hz hyj hi1 hi2 hi3 hc5
                  go_wp2
                  go_roundg (gk - 1)
                  case measure => have := HJ.out; omega
                  case rel =>
                    refine ⟨by have := HJ.out; omega, num_eq (by have := HJ.out; omega), Lib.hid (HO.out.off (Nat.le_refl _)), Lib.hid (HN.out.off (Nat.le_refl _)), Lib.hid ?_, Lib.hid (hx.out.setCell (p := ⟨g3, i, none⟩) hg3w _)⟩
                    have h := (HB.out.put (i := i) (v := false))
                    rw [HJ.out.2.2.2, show j + 1 = O.length - (gk - 1) from by have := HJ.out; omega] at h
                    exact h
            · have hjn : (j : Int) < (I.length : Int) := by omega
              obtain ⟨y0, hyj⟩ : ∃ x, I[j]? = some x := ⟨_, List.getElem?_eq_getElem (by omega)⟩
              obtain ⟨i, rfl, hi1, hi2, hi3⟩ := bk1_step (V0 := V) (V1 := V1) (K := Kn) (by rw [← HIO.out.1]; exact hyj)
              rw [← HIO.out.1] at hi2 hi3
              obtain ⟨b5, o5, rfl, hb5, hc5⟩ := HI.out.sl.cell (show j < I.length from by omega)
              have hb5g := HI.out.2 (by omega) b5 o5 none rfl
              have s_0 := hc5 j (by omega)
              rw [show I.getD j 0 = (i : Int) from by rw [List.getD_eq_getElem?_getD, hyj]; rfl] at s_0
              obtain ⟨g3', e3, _, _, t_0, t_0f⟩ := HB.out.in_pos hi1
              injection e3 with e3
              injection e3 with e3
              subst e3
              rw [hi2] at t_0
              have hi0 : ¬ (i : Int) < 0 := by omega
              have hiK : (i : Int) < (Kn : Int) := by omega
              have hiK2 : ¬ (Kn : Int) ≤ (i : Int) := by omega
              have HJ := Lib.hid (And.intro hj (And.intro hg (And.intro hz hi3)))
              clear hj hg hz hyj hi1 hi2 hi3 hc5
              go_wp2
              go_roundg (gk - 1)
              case measure => have := HJ.out; omega
              case rel =>
                refine ⟨by have := HJ.out; omega, num_eq (by have := HJ.out; omega), Lib.hid (HI.out.off (Nat.le_refl _)), Lib.hid (HO.out.off (Nat.le_refl _)), Lib.hid (HN.out.off (Nat.le_refl _)), Lib.hid ?_, Lib.hid (hx.out.setCell (p := ⟨g3, i, none⟩) hg3w _)⟩
                have h := (HB.out.put (i := i) (v := true))
                rw [HJ.out.2.2.2, show j + 1 = I.length - (gk - 1) from by have := HJ.out; omega] at h
                exact h
      · obtain ⟨y, hy⟩ : ∃ y, y = x + by_ := ⟨_, rfl⟩
        have hxy : x + by_ = y := hy.symm
        have hy0 : x ≤ y ∧ Word y := ⟨by omega, by omega, by omega⟩
        have HY := Lib.hid hy0
        clear hy hy0
        obtain ⟨V1, hV1⟩ : ∃ V1, V1 = chooV ((padW ts Kn).set u y) (ms.set v false) most := ⟨_, rfl⟩
        obtain ⟨w8, hw8⟩ : ∃ w8, w8 = (w7.setCell ⟨g1, u, none⟩ (.int .u64 y)).setCell ⟨g2, v, none⟩ (.bool false) := ⟨_, rfl⟩
        have HO8 := Lib.hid (show OwnWord w8 w4.heap.size (.slice (some ⟨g1, 0, none⟩) Kn Kn) Kn ((padW ts Kn).set u y) from by rw [hw8]; exact (HO7.out.put).off hne)
        have HF8 := Lib.hid (show OwnBool w8 w4.heap.size (.slice (some ⟨g2, 0, none⟩) m d2) m (ms.set v false) from by rw [hw8]; exact (HFe7.out.off (fun e => hne e.symm)).put)
        have HV8 := Lib.hid (show SlB w4.heap.size w8 1 A1 Kn c1 (bv V) from by rw [hw8]; exact (HV7.out.off hg1w).off hg2w)
        have HX8 := Lib.hid (show Ext w w8 from by rw [hw8]; exact (HX7.out.setCell (p := ⟨g1, u, none⟩) (by show _ ≤ g1; omega) _).setCell (p := ⟨g2, v, none⟩) (by show _ ≤ g2; omega) _)
        have hV1l : V1.length = Kn := by rw [hV1, chooV_len, allN_next HKA.out]
        have HC := Lib.hid (choose_ev (some ⟨g1, 0, none⟩) (some ⟨g2, 0, none⟩) Kn Kn m d2 ((padW ts Kn).set u y) (ms.set v false) most V1 Kn w8 (OwnWord.sl HO8.out) (OwnBool.sl HF8.out) (by omega) (by omega) (word_step HW.out Kn u HY.out.2) hV1.symm hV1l)
        obtain ⟨p, hp⟩ : ∃ p, p = V.getD u false := ⟨_, rfl⟩
        obtain ⟨q, hq⟩ : ∃ q, q = V1.getD u false := ⟨_, rfl⟩
        have hpq : p = true → q = true := by
          intro hpt
          rw [hp, ← F2.out, chooV_getD (by rw [HKA.out]; omega)] at hpt
          rw [hq, hV1, chooV_getD (by rw [allN_next HKA.out]; omega)]
          exact stays_in HKA.out (by omega) huv (by rw [← HXE.out]; exact HY.out.1) hpt
        have hvd : V1.getD v false = false := by
          rw [hV1, chooV_getD (by rw [allN_next HKA.out]; omega), goes_out, Bool.false_and]
        have HPQ := Lib.hid (And.intro hp (And.intro hq (And.intro hpq (And.intro hvd hV1))))
        clear hp hq hpq hvd hV1 HO7 HFe7 HV7 HX7 HY
        go_wp2_with fail
        try simp only [hxy]
        rw [← hw8]
        clear hw8 hxy hcp
        (with_reducible refine HC.out.mono ?_)
        rintro e w9 ⟨A9, c9, rfl, hO9, hX9⟩
        obtain ⟨g9, rfl, hg9a, hg9b, q_0, _⟩ := hO9.in_pos (show u < Kn from by omega)
        obtain ⟨g9', e9, _, _, r_0, _⟩ := hO9.in_pos (show v < Kn from by omega)
        injection e9 with e9
        injection e9 with e9
        subst e9
        rw [HPQ.out.2.2.2.1] at r_0
        rw [← HPQ.out.2.1] at q_0
        have HN9 := Lib.hid (OwnBool.sl hO9)
        have HV9 := Lib.hid (SlB.ext HV8.out hX9)
        have HX9 := Lib.hid (HX8.out.trans hX9)
        obtain ⟨b1, o1, rfl, hb1, p_0⟩ := HV9.out.sl.bcell (show u < Kn from by omega)
        rw [← HPQ.out.1] at p_0
        clear hO9 hX9 HO8 HF8 HV8 HX8 HC x_0 x_0f y_0 y_0f
        have huK2 : (u : Int) < (Kn : Int) := by omega
        have hvK2 : (v : Int) < (Kn : Int) := by omega
        have HV9b := Lib.hid HV9.out.sl.low
        obtain ⟨I, hI⟩ : ∃ I, difI V V1 (max V.length V1.length) = I := ⟨_, rfl⟩
        obtain ⟨O, hO⟩ : ∃ O, difO V V1 (max V.length V1.length) = O := ⟨_, rfl⟩
        have hIK : I = difI V V1 Kn := by rw [← hI, hVl, hV1l, Nat.max_self]
        have hOK : O = difO V V1 Kn := by rw [← hO, hVl, hV1l, Nat.max_self]
        have HDI := Lib.hid (diff_ev (some ⟨b1, o1, none⟩) (some ⟨g9, 0, none⟩) Kn c1 Kn c9 V V1 I O I.length O.length w9 HV9.out.sl HN9.out (by omega) (by omega) hI hO rfl rfl)
        have HIO := Lib.hid (And.intro hIK hOK)
        have hIl : I.length ≤ 30 := by rw [hIK]; exact Nat.le_trans (difI_len _ _ _) hKs
        have hOl : O.length ≤ 30 := by rw [hOK]; exact Nat.le_trans (difO_len _ _ _) hKs
        clear hI hO hIK hOK
        have hpq := HPQ.out.2.2.1
        cases p
        all_goals
          first
          | (obtain rfl : q = true := hpq rfl)
          | skip
          clear hpq
          go_wp2_with fail
          (with_reducible refine HDI.out.mono ?_)
          rintro e w10 ⟨A10, c10, B10, d10, rfl, hI10, hO10, hX10⟩
          have HI10 := Lib.hid (OwnInt.sl hI10)
          have HO10 := Lib.hid (OwnInt.sl hO10)
          have HX10 := Lib.hid (HX9.out.trans hX10)
          have HV10 := Lib.hid (HV9.out.ext hX10)
          have HN10 := Lib.hid (HN9.out.ext hX10)
          clear hI10 hO10 hX10 HDI q_0 r_0 p_0 HV9 HN9 HX9 HV9b
          go_wp2_with fail
          (with_reducible refine (copyB_ev (some ⟨b1, o1, none⟩) Kn c1 V w10 HV10.out.sl (by omega)).mono ?_)
          rintro e w11 ⟨A11, c11, rfl, hO11, hX11⟩
          obtain ⟨g3, rfl, hg3a, hg3b, _, _⟩ := hO11.in_pos (show u < Kn from by omega)
          have HI11 := Lib.hid (show SlB g3 w11 1 A10 I.length c10 (iv .i64 I) from ⟨HI10.out.ext hX11, fun hp b o s e => by have h := HI10.out.low.2 hp b o s e; omega⟩)
          have HO11 := Lib.hid (show SlB g3 w11 1 B10 O.length d10 (iv .i64 O) from ⟨HO10.out.ext hX11, fun hp b o s e => by have h := HO10.out.low.2 hp b o s e; omega⟩)
          have HN11 := Lib.hid (show SlB g3 w11 1 (some ⟨g9, 0, none⟩) Kn c9 (bv V1) from ⟨HN10.out.ext hX11, fun hp b o s e => by have h := HN10.out.low.2 hp b o s e; omega⟩)
          have HB11 := Lib.hid (show OwnBool w11 w10.heap.size (.slice (some ⟨g3, 0, none⟩) Kn c11) Kn (bk1 V I Kn 0) from by rw [bk1_start hVl]; exact hO11)
          have HX11 := Lib.hid (HX10.out.trans hX11)
          have hg3w : w.heap.size ≤ g3 := by have := Ext.size HX10.out; omega
          clear hO11 hX11 HI10 HO10 HN10 HX10 HV10
          go_wp2_with fail
          go_loopg [23] I.length (fun gh i wx => gh ≤ I.length ∧ i = .int .i64 ((I.length - gh : Nat) : Int) ∧ Hid (SlB g3 wx 1 A10 I.length c10 (iv .i64 I)) ∧ Hid (SlB g3 wx 1 B10 O.length d10 (iv .i64 O)) ∧ Hid (SlB g3 wx 1 (some ⟨g9, 0, none⟩) Kn c9 (bv V1)) ∧ Hid (OwnBool wx w10.heap.size (.slice (some ⟨g3, 0, none⟩) Kn c11) Kn (bk1 V I Kn (I.length - gh))) ∧ Hid (Ext w wx))
          case atStart => exact ⟨Nat.le_refl _, by simp, HI11, HO11, HN11, by rw [Nat.sub_self]; exact HB11, HX11⟩
          case round =>
            clear HI11 HO11 HN11 HB11 HX11
            obtain ⟨hg, hi, HI, HO, HN, HB, hx⟩ := hrel
            obtain ⟨j, hj⟩ : ∃ j, j = I.length - gk := ⟨_, rfl⟩
            rw [← hj] at hi HB
            subst hi
            by_cases hz : gk = 0
            · have hjn : ¬ (j : Int) < (I.length : Int) := by omega
              have HB2 : Hid (OwnBool wr w10.heap.size (.slice (some ⟨g3, 0, none⟩) Kn c11) Kn (bk2 V V1 O Kn 0)) := Lib.hid (by
                have h := HB.out
                rw [show j = I.length by omega, HIO.out.1, bk_mid, ← HIO.out.2] at h
                exact h)
              clear hj hg hz HB
              go_wp2_with fail
              go_loopg [24] O.length (fun gh i wx => gh ≤ O.length ∧ i = .int .i64 ((O.length - gh : Nat) : Int) ∧ Hid (SlB g3 wx 1 B10 O.length d10 (iv .i64 O)) ∧ Hid (SlB g3 wx 1 (some ⟨g9, 0, none⟩) Kn c9 (bv V1)) ∧ Hid (OwnBool wx w10.heap.size (.slice (some ⟨g3, 0, none⟩) Kn c11) Kn (bk2 V V1 O Kn (O.length - gh))) ∧ Hid (Ext w wx))
              case atStart => exact ⟨Nat.le_refl _, by simp, HO, HN, by rw [Nat.sub_self]; exact HB2, hx⟩
              case round =>
                clear HO HN HB2 hx HI
                obtain ⟨hg, hi, HO, HN, HB, hx⟩ := hrel
                obtain ⟨j, hj⟩ : ∃ j, j = O.length - gk := ⟨_, rfl⟩
                rw [← hj] at hi HB
                subst hi
                by_cases hz : gk = 0
                · have hjn : ¬ (j : Int) < (O.length : Int) := by omega
                  have E := Lib.hid (sameBools17_eq (some ⟨g3, 0, none⟩) (some ⟨g9, 0, none⟩) Kn c11 Kn c9 V1 wr (by
                    have h := OwnBool.sl HB.out
                    rw [show j = O.length by omega, HIO.out.2, bk2_end hV1l] at h
                    exact h) HN.out.sl)
                  clear hj hg hz HB HO HN
                  go_wp2_with fail
                  (with_reducible refine E.out.mono ?_)
                  rintro e w12 ⟨rfl, hX12⟩
                  have HX12 := Lib.hid (hx.out.trans hX12)
                  clear hX12
                  go_wp2_with fail
                  go_ret
                  exact ⟨rfl, HX12.out⟩
                · have hjn : (j : Int) < (O.length : Int) := by omega
                  obtain ⟨y0, hyj⟩ : ∃ x, O[j]? = some x := ⟨_, List.getElem?_eq_getElem (by omega)⟩
                  obtain ⟨i, rfl, hi1, hi2, hi3⟩ := bk2_step (V0 := V) (V1 := V1) (K := Kn) (by rw [← HIO.out.2]; exact hyj)
                  rw [← HIO.out.2] at hi2 hi3
                  obtain ⟨b5, o5, rfl, hb5, hc5⟩ := HO.out.sl.cell (show j < O.length from by omega)
                  have hb5g := HO.out.2 (by omega) b5 o5 none rfl
                  have s_0 := hc5 j (by omega)
                  rw [show O.getD j 0 = (i : Int) from by rw [List.getD_eq_getElem?_getD, hyj]; rfl] at s_0
                  obtain ⟨g3', e3, _, _, t_0, t_0f⟩ := HB.out.in_pos hi1
                  injection e3 with e3
                  injection e3 with e3
                  subst e3
                  rw [hi2] at t_0
                  have hi0 : ¬ (i : Int) < 0 := by omega
                  have hiK : (i : Int) < (Kn : Int) := by omega
                  have hiK2 : ¬ (Kn : Int) ≤ (i : Int) := by omega
                  have HJ := Lib.hid (And.intro hj (And.intro hg (And.intro hz hi3)))
                  clear hj hg hz hyj hi1 hi2 hi3 hc5
                  go_wp2
                  go_roundg (gk - 1)
                  case measure => have := HJ.out; omega
                  case rel =>
                    refine ⟨by have := HJ.out; omega, num_eq (by have := HJ.out; omega), Lib.hid (HO.out.off (Nat.le_refl _)), Lib.hid (HN.out.off (Nat.le_refl _)), Lib.hid ?_, Lib.hid (hx.out.setCell (p := ⟨g3, i, none⟩) hg3w _)⟩
                    have h := (HB.out.put (i := i) (v := false))
                    rw [HJ.out.2.2.2, show j + 1 = O.length - (gk - 1) from by have := HJ.out; omega] at h
                    exact h
            · have hjn : (j : Int) < (I.length : Int) := by omega
              obtain ⟨y0, hyj⟩ : ∃ x, I[j]? = some x := ⟨_, List.getElem?_eq_getElem (by omega)⟩
              obtain ⟨i, rfl, hi1, hi2, hi3⟩ := bk1_step (V0 := V) (V1 := V1) (K := Kn) (by rw [← HIO.out.1]; exact hyj)
              rw [← HIO.out.1] at hi2 hi3
              obtain ⟨b5, o5, rfl, hb5, hc5⟩ := HI.out.sl.cell (show j < I.length from by omega)
              have hb5g := HI.out.2 (by omega) b5 o5 none rfl
              have s_0 := hc5 j (by omega)
              rw [show I.getD j 0 = (i : Int) from by rw [List.getD_eq_getElem?_getD, hyj]; rfl] at s_0
              obtain ⟨g3', e3, _, _, t_0, t_0f⟩ := HB.out.in_pos hi1
              injection e3 with e3
              injection e3 with e3
              subst e3
              rw [hi2] at t_0
              have hi0 : ¬ (i : Int) < 0 := by omega
              have hiK : (i : Int) < (Kn : Int) := by omega
              have hiK2 : ¬ (Kn : Int) ≤ (i : Int) := by omega
              have HJ := Lib.hid (And.intro hj (And.intro hg (And.intro hz hi3)))
              clear hj hg hz hyj hi1 hi2 hi3 hc5
              go_wp2
              go_roundg (gk - 1)
              case measure => have := HJ.out; omega
              case rel =>
                refine ⟨by have := HJ.out; omega, num_eq (by have := HJ.out; omega), Lib.hid (HI.out.off (Nat.le_refl _)), Lib.hid (HO.out.off (Nat.le_refl _)), Lib.hid (HN.out.off (Nat.le_refl _)), Lib.hid ?_, Lib.hid (hx.out.setCell (p := ⟨g3, i, none⟩) hg3w _)⟩
                have h := (HB.out.put (i := i) (v := true))
                rw [HJ.out.2.2.2, show j + 1 = I.length - (gk - 1) from by have := HJ.out; omega] at h
                exact h
theorem ActiveStays_any (A : Option Addr) (n c : Nat) (ts : List Int) (B : Option Addr) (m d : Nat) (ms : List Bool) (most : Int) (hmf : Fits .i64 most) (up : Int) (hup : Fits .i64 up) (dn : Int) (hdn : Fits .i64 dn) (by_ : Int) (hby : Fits .u64 by_) (w : World) (h : Sl w 1 A n c (iv .u64 ts)) (hw : ∀ x ∈ ts, Fits .u64 x) (k : Sl w 1 B m d (bv ms)) :
    Calls Try.prog 7 #[.slice A n c, .slice B m d, .int .i64 most, .int .i64 up, .int .i64 dn, .int .u64 by_] w fun r w' => r = .returned (.bool true) ∧ Ext w w' := by
  by_cases h1 : n ≤ 30
  · by_cases h2 : m ≤ 30
    · by_cases h3 : m < 2
      · exact ActiveStays_c A B n c m d most up dn by_ w h1 h2 h3 h.small k.small
      · exact ActiveStays_main A B n c m d ts ms most up dn by_ w h k h1 h2 h3 (fun x hx => (hw x hx).u64) hup.i64 hdn.i64 hby.u64
    · exact ActiveStays_b A B n c m d most up dn by_ w h1 h2 h.small k.small
  · exact ActiveStays_a A B n c m d most up dn by_ w h1 h.small k.small
end Go.Proofs.Ytplmgcbjfmdebaa
