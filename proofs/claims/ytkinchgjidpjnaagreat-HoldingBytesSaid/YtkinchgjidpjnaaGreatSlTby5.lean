/- Tby, part 5. Conditions stand in each lemma. -/
import Derived.Test.YtkinchgjidpjnaaGreatSlTby4
set_option linter.unusedVariables false
set_option linter.unusedSimpArgs false
set_option maxRecDepth 100000
set_option maxHeartbeats 64000000
namespace Go.Proofs.YtkinchgjidpjnaaGreat
section
open Go.RowKit Go.ChangeShapes Go.WideShapes
theorem zSlTby5_0 {P : Prop} (h : P := by repeat (first | with_reducible exact XU.out | with_reducible refine Ext.drew ?_ | with_reducible refine Ext.setCell ?_ (by first | omega | (simp; done) | (simp; omega)) _)) : P := h
def bs_ (L : List Nat) : List Int := L.map fun (x : Nat) => (x : Int)
theorem bs_inj {L M : List Nat} (hL : Byt L) (hM : Byt M) (h : strOfNums (bs_ L) = strOfNums (bs_ M)) : L = M := by
 have h1 := congrArg (fun s : ByteArray => s.data.toList.map fun u => u.toNat) h
 simp only [strOfNums_data, bs_, List.map_map] at h1
 have e : ∀ K : List Nat, Byt K → K.map ((fun u : UInt8 => u.toNat) ∘ (fun n : Int => UInt8.ofNat n.toNat) ∘ fun (x : Nat) => (x : Int)) = K := by
  intro K hK
  induction K with
  | nil => rfl
  | cons x K ih =>
   have hx := hK x (List.mem_cons_self ..)
   rw [List.map_cons, ih fun y hy => hK y (List.mem_cons_of_mem _ hy)]
   simp
   omega
 rw [e L hL, e M hM] at h1
 exact h1
theorem conv_by {A : Option Addr} {n c : Nat} {L : List Nat} {w : World} (h : Sl w 1 A n c (by_ L)) :
  (convert 90 9 (.slice A n c)).run Tryz.prog w = .ok (.string (strOfNums (bs_ L))) w := by
 have hl : L.length = n := by simpa [by_] using h.len
 cases n with
 | zero =>
  have hL : L = [] := List.eq_nil_of_length_eq_zero hl
  subst hL
  cases A with
  | none =>
   rw [run_convert_bytes_nil w 90 5 (by kernel_rfl) (by kernel_rfl) 0 c 9 (by kernel_rfl)]
   rfl
  | some a =>
   rw [run_convert_bytes_string w 90 9 5 (some a) 0 c (by kernel_rfl) (by kernel_rfl) (by kernel_rfl), run_bytesToString w a 0 c [] (by
    have := run_loadCells_list (P := Tryz.prog) w a [] (fun j v hj => by simp at hj)
    simpa using this)]
   rfl
 | succ m =>
  obtain ⟨b, o, rfl, hb, hc⟩ := h.at_ (Nat.succ_pos m)
  refine run_convert_bytes_arg w 90 5 (by kernel_rfl) (by kernel_rfl) b o (m + 1) c (bs_ L) (by simpa [bs_] using hl) (fun i hi => ?_) 9 (by kernel_rfl)
  refine hc i _ ?_
  have hi' : i < L.length := by omega
  simp [by_, bs_, List.getD, hi']
theorem kSameBytes_any (A B : Option Addr) (n c m d : Nat) (L M : List Nat) (hL : Byt L) (hM : Byt M) (w : World) (h1 : Sl w 1 A n c (by_ L)) (h2 : Sl w 1 B m d (by_ M)) :
  Calls Tryz.prog 60 #[.slice A n c, .slice B m d] w fun r w' => r = .returned (.bool (decide (L = M))) ∧ w = w' := by
 have c1 := conv_by h1
 have c2 := conv_by h2
 have he : ((strOfNums (bs_ L)).toList == (strOfNums (bs_ M)).toList) = decide (L = M) := by
  rw [ByteArray.toList_eq, ByteArray.toList_eq]
  by_cases h : L = M
  ·subst h
   simp
  rw [decide_eq_false h]
  exact beq_false_of_ne fun e => h (bs_inj hL hM (by
   have := congrArg List.toArray e
   exact ByteArray.ext (by simpa using e)))
 go_enter Tryz.func60, Tryz.ntmps60
 go_wp2
 go_ret
 exact ⟨by simp [he], rfl⟩
theorem byt_putL : ∀ (b n : Nat), n ≤ b → Byt (putL n) := by
 intro b
 induction b with
 | zero => intro n hn; rw [putL_lt (by omega)]; intro x hx; simp at hx; omega
 | succ b ih =>
  intro n hn
  by_cases h : n < 128
  ·rw [putL_lt h]; intro x hx; simp at hx; omega
  rw [putL_ge h]
  intro x hx
  rcases List.mem_cons.1 hx with rfl | hx
  ·omega
  exact ih (n / 128) (by omega) x hx
theorem kSameBytes_eq (A B : Option Addr) (n c m d : Nat) (L : List Nat) (hL : Byt L) (w : World) (h1 : Sl w 1 A n c (by_ L)) (h2 : Sl w 1 B m d (by_ L)) :
  Calls Tryz.prog 60 #[.slice A n c, .slice B m d] w fun r w' => r = .returned (.bool true) ∧ w = w' := by
 refine (kSameBytes_any A B n c m d L L hL hL w h1 h2).mono ?_
 rintro r w' ⟨rfl, rfl⟩
 exact ⟨by simp, rfl⟩
theorem open_bytes {H : Type} {enc : TypeId × Value → H} {w : World} {base : Nat} {spare : Nat → Bool} {held : Bool} {n c : Nat} {A : Option Addr} {d : DataW H} {p : List MemPlace}
  (h : DataW.Trod enc Tryz.prog w base spare held 90 (.slice A n c) d p) : ∃ M : List Nat, n = M.length ∧ Sl w 1 A M.length c (by_ M) ∧ Byt M ∧ (A = none → c = 0) := by
 have hlt : ∀ x ∈ p, x.block < w.heap.size := by obtain ⟨m, hm⟩ := h; exact DataW.trod_lt m _ _ _ hm
 obtain ⟨l, hs, hf⟩ := open_sl Tryz.underlying90 Tryz.underlying5 (by kernel_rfl) h hlt
 have hl := hs.ilen
 have hb : ∀ x ∈ l, 0 ≤ x ∧ x < 256 := fun x hx => by
  have := hf x hx
  unfold Fits at this
  have := bounds_u8 (n := x) this
  omega
 have e : by_ (l.map Int.toNat) = iv .u8 l := by
  unfold by_ iv
  rw [List.map_map]
  apply List.map_congr_left
  intro x hx
  have := hb x hx
  simp only [Function.comp]
  rw [Int.toNat_of_nonneg this.1]
 refine ⟨l.map Int.toNat, by simpa using hl.symm, ?_, ?_, ?_⟩
 ·rw [e, List.length_map, hl]; exact hs
 ·intro x hx
  obtain ⟨y, hy, rfl⟩ := List.mem_map.1 hx
  have := hb y hy
  omega
 intro hA
 subst hA
 obtain ⟨fuel, hf⟩ := h
 rcases Go.Deep.open_slice Tryz.underlying90 (show DataW.trod enc Tryz.prog w base spare held fuel 90 [.slice none n c] = some _ by simpa [Value.cells] using hf) with ⟨h0, _⟩ | ⟨a, len, cap, m, n', D, Pl, hcs, _⟩
 ·simp at h0; exact h0.2
 simp at hcs
end
section
open Go.RowKit Go.ChangeShapes Go.WideShapes Go.Deep Go.Joins
section
variable {L : List Nat} {rd : Nat → Flt → Nat × Flt × I6} {one : Option (List Int) → I6 → Int} {key : I6 → List Int} {bf : I6 → List Nat} {Good : I6 → Prop}
end
theorem nuB_byt {l : List Int} : Byt (nuB l) := by
 intro x hx
 obtain ⟨n, _, h⟩ := List.mem_flatMap.1 hx
 exact byt_putL _ _ (Nat.le_refl _) x h
theorem hldB_byt (cl ps : List I6) : Byt (hldB cl ps) := by
 unfold hldB
 split
 ·intro x hx
  simp only [List.mem_append] at hx
  rcases hx with (h | h) | h | h
  ·exact byt_putL _ _ (Nat.le_refl _) x h
  ·obtain ⟨y, _, h⟩ := List.mem_flatMap.1 h
   exact nuB_byt x h
  ·exact byt_putL _ _ (Nat.le_refl _) x h
  obtain ⟨y, _, h⟩ := List.mem_flatMap.1 h
  exact nuB_byt x h
 intro x hx; cases hx
end
section
open Go.RowKit Go.ChangeShapes Go.WideShapes Go.Deep Go.Joins
section
variable {H : Type} {enc : TypeId × Value → H} {w : World} {base : Nat} {spare : Nat → Bool} {held : Bool}
theorem none_capH {P : Program} {t e : TypeId} {n c : Nat} {A : Option Addr} {x : DataW H × List MemPlace} {fuel : Nat} (ht : P.underlying t = some (.slice e)) (hf : DataW.trod enc P w base spare held fuel t [.slice A n c] = some x) : A = none → c = 0 := by
 intro hA
 subst hA
 rcases Go.Deep.open_slice ht hf with ⟨h0, _⟩ | ⟨a, len, cap, m, n', D, Pl, hcs, _⟩
 ·simp at h0; exact h0.2
 simp at hcs
theorem word_fitsH {x : Int} (h : Fits .u64 x) : Word x := by
 unfold Fits at h
 simp [Lit.wf, IntKind.min, IntKind.max, IntKind.bits, IntKind.signed] at h
 unfold Word
 omega
theorem pool_rec {cs : List Value} {m : Nat} {y : DataW H × List MemPlace} (h : DataW.trod enc Tryz.prog w base spare held m 61 cs = some y) (hl : cs.length = 2) : ∃ x : Int × Int, cs = [.int .u64 x.1, .int .u64 x.2] ∧ Word x.1 ∧ Word x.2 := by
 obtain ⟨x, h1, h2, h3⟩ := rec2 (k0 := .u64) (k1 := .u64) Tryz.underlying61 (by kernel_rfl) Tryz.underlying32 Tryz.underlying32 h hl
 exact ⟨x, h1, word_fitsH h2, word_fitsH h3⟩
theorem cls_rec {cs : List Value} {m : Nat} {y : DataW H × List MemPlace} (h : DataW.trod enc Tryz.prog w base spare held m 79 cs = some y) (hl : cs.length = 6) : ∃ x : I6, cs = clsC x ∧ WdC x := by
 obtain ⟨xs, n, _, rfl, _, hlen, hf⟩ := DataW.trod_struct Tryz.underlying79 h
 have cp : Tryz.prog.cellsOf 61 = 2 := by kernel_rfl
 have ct : Tryz.prog.cellsOf 37 = 4 := by kernel_rfl
 have g0 := hf 0 _ rfl
 have g1 := hf 1 _ rfl
 match cs, hl with
 | [v0, v1, v2, v3, v4, v5], _ =>
  match xs, hlen with
  | [y0, y1], _ =>
   simp [cp, ct] at g0 g1
   obtain ⟨b, hb, _⟩ := rec4 (k0 := .i64) (k1 := .i64) (k2 := .i64) (k3 := .i64) Tryz.underlying37 (by kernel_rfl) Tryz.underlying3 Tryz.underlying3 Tryz.underlying3 Tryz.underlying3 g0 rfl
   obtain ⟨p, hp, w1, w2⟩ := pool_rec g1 rfl
   simp at hb hp
   obtain ⟨rfl, rfl, rfl, rfl⟩ := hb
   obtain ⟨rfl, rfl⟩ := hp
   exact ⟨(b.1, b.2.1, b.2.2.1, b.2.2.2, p.1, p.2), rfl, w1, w2⟩
theorem pos_rec {cs : List Value} {m : Nat} {y : DataW H × List MemPlace} (h : DataW.trod enc Tryz.prog w base spare held m 82 cs = some y) (hl : cs.length = 6) : ∃ x : I6, cs = posC x ∧ WdP x := by
 obtain ⟨xs, n, _, rfl, _, hlen, hf⟩ := DataW.trod_struct Tryz.underlying82 h
 have ci : Tryz.prog.cellsOf 3 = 1 := by kernel_rfl
 have cu : Tryz.prog.cellsOf 32 = 1 := by kernel_rfl
 have ct : Tryz.prog.cellsOf 37 = 4 := by kernel_rfl
 have g0 := hf 0 _ rfl
 have g1 := hf 1 _ rfl
 have g2 := hf 2 _ rfl
 match cs, hl with
 | [v0, v1, v2, v3, v4, v5], _ =>
  match xs, hlen with
  | [y0, y1, y2], _ =>
   simp [ci, cu, ct] at g0 g1 g2
   obtain ⟨a, ha, _, wa⟩ := DataW.trod_int Tryz.underlying3 g0
   obtain ⟨b, hb, _⟩ := rec4 (k0 := .i64) (k1 := .i64) (k2 := .i64) (k3 := .i64) Tryz.underlying37 (by kernel_rfl) Tryz.underlying3 Tryz.underlying3 Tryz.underlying3 Tryz.underlying3 g1 rfl
   obtain ⟨e, he, _, we⟩ := DataW.trod_int Tryz.underlying32 g2
   simp at ha hb he
   obtain ⟨rfl, rfl, rfl, rfl⟩ := hb
   subst ha; subst he
   exact ⟨(a, b.1, b.2.1, b.2.2.1, b.2.2.2, e), rfl, word_fitsH we⟩
theorem open_hold {b0 : Nat} {r : Reach} {v : Value} {d : DataW H} {p : List MemPlace}
  (hv : Value.okWide Tryz.prog w r b0 25 v) (h : DataW.Trod enc Tryz.prog w base spare held 25 v d p) : ∃ A c A2 c2 cl ps, v = .agg #[.slice A (List.length (α := I6) cl) c, .slice A2 (List.length (α := I6) ps) c2] ∧ Sl w 6 A cl.length c (cl.flatMap clsC) ∧ Sl w 6 A2 ps.length c2 (ps.flatMap posC) ∧ (∀ x ∈ cl, WdC x) ∧ (∀ x ∈ ps, WdP x) ∧ (A = none → c = 0) ∧ (A2 = none → c2 = 0) := by
 obtain ⟨cs, rfl, hsz⟩ := okWide_struct Tryz.underlying25 hv
 obtain ⟨fuel, hf⟩ := h
 have c2 : Tryz.prog.cellsOf 25 = 2 := by kernel_rfl
 have k1 : Tryz.prog.cellsOf 22 = 1 := by kernel_rfl
 have k2 : Tryz.prog.cellsOf 23 = 1 := by kernel_rfl
 have hf' : DataW.trod enc Tryz.prog w base spare held fuel 25 cs.toList = some (d, p) := by simpa [Value.cells] using hf
 have hlen : cs.toList.length = 2 := by rw [Array.length_toList]; exact hsz.trans c2
 obtain ⟨y0, y1, n, _, _, g0, g1⟩ := trod_struct2 Tryz.underlying25 hf'
 match hcs : cs.toList, hlen with
 | [v0, v1], _ =>
  rw [hcs] at g0 g1
  simp [k1, k2] at g0 g1
  have e1 : ∃ A m c, v0 = .slice A m c := by
   rcases Go.Deep.open_slice Tryz.underlying22 g0 with ⟨h0, _⟩ | ⟨a, len, cap, m, n', D, Pl, h0, _⟩
   ·exact ⟨none, 0, 0, by simpa using h0⟩
   exact ⟨some a, len, cap, by simpa using h0⟩
  have e2 : ∃ A m c, v1 = .slice A m c := by
   rcases Go.Deep.open_slice Tryz.underlying23 g1 with ⟨h0, _⟩ | ⟨a, len, cap, m, n', D, Pl, h0, _⟩
   ·exact ⟨none, 0, 0, by simpa using h0⟩
   exact ⟨some a, len, cap, by simpa using h0⟩
  obtain ⟨A, m, c, rfl⟩ := e1
  obtain ⟨A2, m2, c', rfl⟩ := e2
  obtain ⟨cl, s1, l1, f1⟩ := open_rec (f := clsC) (sz := 6) (Good := WdC) Tryz.underlying22 (by kernel_rfl) (by decide) (fun cs m y h hl => cls_rec h hl) (show DataW.Trod enc Tryz.prog w base spare held 22 (.slice A m c) y0.1 y0.2 from ⟨n, by simpa [Value.cells] using g0⟩)
  obtain ⟨ps, s2, l2, f2⟩ := open_rec (f := posC) (sz := 6) (Good := WdP) Tryz.underlying23 (by kernel_rfl) (by decide) (fun cs m y h hl => pos_rec h hl) (show DataW.Trod enc Tryz.prog w base spare held 23 (.slice A2 m2 c') y1.1 y1.2 from ⟨n, by simpa [Value.cells] using g1⟩)
  subst l1; subst l2
  refine ⟨A, c, A2, c', cl, ps, ?_, s1, s2, f1, f2, none_capH Tryz.underlying22 g0, none_capH Tryz.underlying23 g1⟩
  rw [← Array.toArray_toList (xs := cs), hcs]
end
end
section
open Go.RowKit Go.ChangeShapes Go.WideShapes Go.Deep Go.Joins
def RetC1 (L : List I6) (v2 : Value) (w : World) (e : Ending) (w' : World) : Prop := ∃ B d, e = .returned (.agg #[.slice B L.length d, v2]) ∧ (B = none → d = 0) ∧ OwnCls w' w.heap.size (.slice B L.length d) L.length L ∧ Ext w w'
def RetP1 (L : List I6) (v1 : Value) (w : World) (e : Ending) (w' : World) : Prop := ∃ B d, e = .returned (.agg #[v1, .slice B L.length d]) ∧ (B = none → d = 0) ∧ OwnPos w' w.heap.size (.slice B L.length d) L.length L ∧ Ext w w'
theorem RetC1.mk {L : List I6} {v2 : Value} {b d : Nat} {B : Option Addr} {w w' : World} (hb : w.heap.size ≤ b) (h : w'.ownsRow b 79 6 (.slice B L.length d) L.length (L.flatMap clsC)) (hx : Ext w w') : RetC1 L v2 w (.returned (.agg #[.slice B L.length d, v2])) w' := by
 obtain ⟨B', d', e, h1, _⟩ := own_parts2 h
 obtain ⟨rfl, rfl⟩ : B = B' ∧ d = d' := by simpa using e
 exact ⟨B, d, rfl, h1, own_lower h hb, hx⟩
theorem RetP1.mk {L : List I6} {v1 : Value} {b d : Nat} {B : Option Addr} {w w' : World} (hb : w.heap.size ≤ b) (h : w'.ownsRow b 82 6 (.slice B L.length d) L.length (L.flatMap posC)) (hx : Ext w w') : RetP1 L v1 w (.returned (.agg #[v1, .slice B L.length d])) w' := by
 obtain ⟨B', d', e, h1, _⟩ := own_parts2 h
 obtain ⟨rfl, rfl⟩ : B = B' ∧ d = d' := by simpa using e
 exact ⟨B, d, rfl, h1, own_lower h hb, hx⟩
theorem kCopyHolding_any (c c2 : Nat) (A A2 : Option Addr) (cl ps : List I6) (w : World) (h : Sl w 6 A cl.length c (cl.flatMap clsC)) (h2 : Sl w 6 A2 ps.length c2 (ps.flatMap posC)) (hn : cl.length < 1099511627776) (hn2 : ps.length < 1099511627776) :
  Calls Tryz.prog 13 #[.agg #[.slice A cl.length c, .slice A2 ps.length c2]] w fun r w' => ∃ v, r = .returned v ∧ HoldR cl ps w v w' := by
 obtain ⟨iCls, iCls_0, iCls_1, iCls_2, iCls_3⟩ := info_parts cls_info
 obtain ⟨iPos, iPos_0, iPos_1, iPos_2, iPos_3⟩ := info_parts pos_info
 have HS := Lib.hid h
 have HT := Lib.hid h2
 clear h h2
 go_enter Tryz.func13, Tryz.ntmps13
 go_wp2_with fail
 refine wp_region_held_drew (S := fun w' => w'.cell? ⟨w.heap.size, 0, none⟩ = some (.slice A cl.length c) ∧ w'.cell? ⟨w.heap.size, 1, none⟩ = some (.slice A2 ps.length c2)) (by kernel_rfl) (by (simp [go_sem, World.cell?_alloc_past]; done)) (fun hHeld => ?_)
 refine' zt 1 ?_
 refine' zt 2 ?_
 refine' zt 5 ?_
 refine' zt 6 ?_
 obtain ⟨u0, hu⟩ : ∃ u, u = World.drew ((w.alloc (.cells #[.slice A cl.length c, .slice A2 ps.length c2] 25)).alloc (.cells #[.slice none 0 0, .slice none 0 0] 25)) := ⟨_, rfl⟩
 rw [← hu]
 have XU : Hid (Ext w u0) := Lib.hid (by rw [hu]; repeat (first | with_reducible exact Ext.refl _ | with_reducible refine Ext.drew ?_ | with_reducible refine Ext.drewN ?_ _ | with_reducible refine Ext.alloc ?_ _ | with_reducible refine Ext.setCell ?_ (by first | omega | (simp; done) | (simp; omega)) _))
 have hz0 : w.heap.size + 2 ≤ u0.heap.size := by rw [hu]; simp
 have c0_0 : u0.cell? ⟨w.heap.size, 0, none⟩ = some (.slice A cl.length c) := by rw [hu]; simp [go_sem, World.cell?_alloc_past]
 have c0_1 : u0.cell? ⟨w.heap.size, 1, none⟩ = some (.slice A2 ps.length c2) := by rw [hu]; simp [go_sem, World.cell?_alloc_past]
 have r_0 : u0.cell? ⟨w.heap.size + 1, 0, none⟩ = some (.slice none 0 0) := by rw [hu]; simp [go_sem, World.cell?_alloc_past]
 have r_1 : u0.cell? ⟨w.heap.size + 1, 1, none⟩ = some (.slice none 0 0) := by rw [hu]; simp [go_sem, World.cell?_alloc_past]
 have r_0f : u0.frozen? ⟨w.heap.size + 1, 0, none⟩ = false := by rw [hu]; simp [go_sem, World.cell?_alloc_past]
 have r_1f : u0.frozen? ⟨w.heap.size + 1, 1, none⟩ = false := by rw [hu]; simp [go_sem, World.cell?_alloc_past]
 clear hu
 refine' next2_in 0 4 rfl rfl (by kernel_rfl) (by rfl) (by rfl) (fun K hK => ?_) (fun K hK => ?_)
 ·go_simp
  generalize hu : u0.alloc (.cells #[] 79) = u0a
  have hx : Ext u0 u0a := by rw [← hu]; exact (Ext.refl _).alloc _
  have E1 : Hid (World.ownsRow u0a (w.heap.size + 2) 79 6 (.slice (some ⟨u0.heap.size, 0, none⟩) 0 0) 0 []) := Lib.hid (by rw [← hu]; exact own_lower (own_empty _ _ _) (by omega))
  clear hu
  replace r_0f := hx.froz r_0 r_0f
  replace r_1f := hx.froz r_1 r_1f
  replace c0_0 := hx.has c0_0
  replace c0_1 := hx.has c0_1
  replace r_0 := hx.has r_0
  replace r_1 := hx.has r_1
  have hz := Ext.size hx
  replace XU : Hid (Ext w u0a) := Lib.hid (Ext.trans XU.out hx)
  clear hx
  have hq1 : w.heap.size + 2 ≤ u0.heap.size := by omega
  refine' zk hK (by exact ⟨c0_0, c0_1⟩) (fun hHeld => ?_); clear hK K
  refine' next2_in 3 4 rfl rfl (by kernel_rfl) (by rfl) (by rfl) (fun K hK => ?_) (fun K hK => ?_)
  ·refine oper_app _ (.tmp 3) (.tmp 5) 22 rfl (w.heap.size + 2) 79 iCls (.agg #[.int .i64 0, .int .i64 0, .int .i64 0, .int .i64 0, .int .u64 0, .int .u64 0]) 6 48 Tryz.underlying22 iCls_0 iCls_1 iCls_2 iCls_3 rfl (by decide) _ 0 [] (by rfl) E1.out A cl.length c (cl.flatMap clsC) (by rfl) (HS.out.ext XU.out) clsC_one (by omega) (by decide) (by omega) ?_
   intro v u0aa hown hx hn
   simp only [Nat.zero_add, List.nil_append] at hown
   obtain ⟨B, d, rfl, _, _⟩ := own_parts2 hown
   have hqq := own_rng E1.out
   replace r_0f := hx.froz (by intro hh; have := hqq _ hh; omega) r_0 r_0f
   replace r_1f := hx.froz (by intro hh; have := hqq _ hh; omega) r_1 r_1f
   replace c0_0 := hx.has (by intro hh; have := hqq _ hh; omega) c0_0
   replace c0_1 := hx.has (by intro hh; have := hqq _ hh; omega) c0_1
   replace r_0 := hx.has (by intro hh; have := hqq _ hh; omega) r_0
   replace r_1 := hx.has (by intro hh; have := hqq _ hh; omega) r_1
   have hz := hx.size
   replace XU : Hid (Ext w u0aa) := Lib.hid (Below.trans XU.out (hx.below (Ext.size XU.out) (fun k hk hh => by have := hqq _ hh; omega)))
   have O1 := Lib.hid hown
   clear hx hown hn hqq E1
   refine' zk hK (by exact ⟨c0_0, c0_1⟩) (fun hHeld => ?_); clear hK K
   refine' zn 4 (fun K hK => ?_)
   go_simp
   generalize hu : u0aa.alloc (.cells #[] 82) = u0aaa
   have hx : Ext u0aa u0aaa := by rw [← hu]; exact (Ext.refl _).alloc _
   have E2 : Hid (World.ownsRow u0aaa (w.heap.size + 2) 82 6 (.slice (some ⟨u0aa.heap.size, 0, none⟩) 0 0) 0 []) := Lib.hid (by rw [← hu]; exact own_lower (own_empty _ _ _) (by omega))
   clear hu
   replace r_0f := hx.froz r_0 r_0f
   replace r_1f := hx.froz r_1 r_1f
   replace c0_0 := hx.has c0_0
   replace c0_1 := hx.has c0_1
   replace r_0 := hx.has r_0
   replace r_1 := hx.has r_1
   have hz := Ext.size hx
   replace O1 := Lib.hid (own_keep O1.out hx)
   replace XU : Hid (Ext w u0aaa) := Lib.hid (Ext.trans XU.out hx)
   clear hx
   refine' zk hK (by exact ⟨c0_0, c0_1⟩) (fun hHeld => ?_); clear hK K
   refine' zn 7 (fun K hK => ?_)
   refine oper_app _ (.tmp 7) (.tmp 9) 23 rfl (w.heap.size + 2) 82 iPos (.agg #[.int .i64 0, .int .i64 0, .int .i64 0, .int .i64 0, .int .i64 0, .int .u64 0]) 6 48 Tryz.underlying23 iPos_0 iPos_1 iPos_2 iPos_3 rfl (by decide) _ 0 [] (by rfl) E2.out A2 ps.length c2 (ps.flatMap posC) (by rfl) (HT.out.ext XU.out) posC_one (by omega) (by decide) (by omega) ?_
   intro v u0aaaa hown hx hn
   simp only [Nat.zero_add, List.nil_append] at hown
   obtain ⟨B2, d2, rfl, _, _⟩ := own_parts2 hown
   have hqq := own_rng E2.out
   replace r_0f := hx.froz (by intro hh; have := hqq _ hh; omega) r_0 r_0f
   replace r_1f := hx.froz (by intro hh; have := hqq _ hh; omega) r_1 r_1f
   replace c0_0 := hx.has (by intro hh; have := hqq _ hh; omega) c0_0
   replace c0_1 := hx.has (by intro hh; have := hqq _ hh; omega) c0_1
   replace r_0 := hx.has (by intro hh; have := hqq _ hh; omega) r_0
   replace r_1 := hx.has (by intro hh; have := hqq _ hh; omega) r_1
   have hz := hx.size
   replace O1 := Lib.hid (own_but1Word O1.out hx (own_apart O1.out E2.out cls_pos))
   replace XU : Hid (Ext w u0aaaa) := Lib.hid (Below.trans XU.out (hx.below (Ext.size XU.out) (fun k hk hh => by have := hqq _ hh; omega)))
   have O2 := Lib.hid hown
   clear hx hown hn hqq E2
   refine' zk hK (by exact ⟨c0_0, c0_1⟩) (fun hHeld => ?_); clear hK K
   refine' zt 8 ?_
   refine' zn 9 (fun K hK => ?_)
   go_simp
   refine' zk hK (by (simp [go_sem, World.cell?_alloc_past, c0_0, c0_1]; done)) (fun hHeld => ?_); clear hK K
   refine wpAnyH_done (by kernel_rfl) ?_ _
   go_wp2_with fail
   refine bodyPost_ret (v := .agg #[.slice B cl.length d, .slice B2 ps.length d2]) (by simp [results, Tryz.results13, go_sem, World.cell?_alloc_past, r_0, r_1, r_0f, r_1f]; try rfl) rfl ⟨_, rfl, holdS_of (b := w.heap.size + 2) (by omega) (show World.ownsRow _ (w.heap.size + 2) _ _ _ _ _ from by repeat (first | with_reducible refine own_box ?_ (by omega) | with_reducible refine World.ownsRow.drew ?_ | exact O1.out)) (show World.ownsRow _ (w.heap.size + 2) _ _ _ _ _ from by repeat (first | with_reducible refine own_box ?_ (by omega) | with_reducible refine World.ownsRow.drew ?_ | exact O2.out)) zSlTby5_0⟩
  go_simp
  generalize hu : u0a.alloc (.cells #[] 82) = u0aa
  have hx : Ext u0a u0aa := by rw [← hu]; exact (Ext.refl _).alloc _
  have E2 : Hid (World.ownsRow u0aa (w.heap.size + 2) 82 6 (.slice (some ⟨u0a.heap.size, 0, none⟩) 0 0) 0 []) := Lib.hid (by rw [← hu]; exact own_lower (own_empty _ _ _) (by omega))
  clear hu
  replace r_0f := hx.froz r_0 r_0f
  replace r_1f := hx.froz r_1 r_1f
  replace c0_0 := hx.has c0_0
  replace c0_1 := hx.has c0_1
  replace r_0 := hx.has r_0
  replace r_1 := hx.has r_1
  have hz := Ext.size hx
  replace E1 := Lib.hid (own_keep E1.out hx)
  replace XU : Hid (Ext w u0aa) := Lib.hid (Ext.trans XU.out hx)
  clear hx
  refine' zk hK (by exact ⟨c0_0, c0_1⟩) (fun hHeld => ?_); clear hK K
  refine' zn 3 (fun K hK => ?_)
  refine oper_app _ (.tmp 3) (.tmp 5) 22 rfl (w.heap.size + 2) 79 iCls (.agg #[.int .i64 0, .int .i64 0, .int .i64 0, .int .i64 0, .int .u64 0, .int .u64 0]) 6 48 Tryz.underlying22 iCls_0 iCls_1 iCls_2 iCls_3 rfl (by decide) _ 0 [] (by rfl) E1.out A cl.length c (cl.flatMap clsC) (by rfl) (HS.out.ext XU.out) clsC_one (by omega) (by decide) (by omega) ?_
  intro v u0aaa hown hx hn
  simp only [Nat.zero_add, List.nil_append] at hown
  obtain ⟨B, d, rfl, _, _⟩ := own_parts2 hown
  have hqq := own_rng E1.out
  replace r_0f := hx.froz (by intro hh; have := hqq _ hh; omega) r_0 r_0f
  replace r_1f := hx.froz (by intro hh; have := hqq _ hh; omega) r_1 r_1f
  replace c0_0 := hx.has (by intro hh; have := hqq _ hh; omega) c0_0
  replace c0_1 := hx.has (by intro hh; have := hqq _ hh; omega) c0_1
  replace r_0 := hx.has (by intro hh; have := hqq _ hh; omega) r_0
  replace r_1 := hx.has (by intro hh; have := hqq _ hh; omega) r_1
  have hz := hx.size
  replace E2 := Lib.hid (own_but1Word E2.out hx (own_apart E2.out E1.out (fun e => cls_pos e.symm)))
  replace XU : Hid (Ext w u0aaa) := Lib.hid (Below.trans XU.out (hx.below (Ext.size XU.out) (fun k hk hh => by have := hqq _ hh; omega)))
  have O1 := Lib.hid hown
  clear hx hown hn hqq E1
  refine' zk hK (by exact ⟨c0_0, c0_1⟩) (fun hHeld => ?_); clear hK K
  refine' zn 7 (fun K hK => ?_)
  refine oper_app _ (.tmp 7) (.tmp 9) 23 rfl (w.heap.size + 2) 82 iPos (.agg #[.int .i64 0, .int .i64 0, .int .i64 0, .int .i64 0, .int .i64 0, .int .u64 0]) 6 48 Tryz.underlying23 iPos_0 iPos_1 iPos_2 iPos_3 rfl (by decide) _ 0 [] (by rfl) E2.out A2 ps.length c2 (ps.flatMap posC) (by rfl) (HT.out.ext XU.out) posC_one (by omega) (by decide) (by omega) ?_
  intro v u0aaaa hown hx hn
  simp only [Nat.zero_add, List.nil_append] at hown
  obtain ⟨B2, d2, rfl, _, _⟩ := own_parts2 hown
  have hqq := own_rng E2.out
  replace r_0f := hx.froz (by intro hh; have := hqq _ hh; omega) r_0 r_0f
  replace r_1f := hx.froz (by intro hh; have := hqq _ hh; omega) r_1 r_1f
  replace c0_0 := hx.has (by intro hh; have := hqq _ hh; omega) c0_0
  replace c0_1 := hx.has (by intro hh; have := hqq _ hh; omega) c0_1
  replace r_0 := hx.has (by intro hh; have := hqq _ hh; omega) r_0
  replace r_1 := hx.has (by intro hh; have := hqq _ hh; omega) r_1
  have hz := hx.size
  replace O1 := Lib.hid (own_but1Word O1.out hx (own_apart O1.out E2.out cls_pos))
  replace XU : Hid (Ext w u0aaaa) := Lib.hid (Below.trans XU.out (hx.below (Ext.size XU.out) (fun k hk hh => by have := hqq _ hh; omega)))
  have O2 := Lib.hid hown
  clear hx hown hn hqq E2
  refine' zk hK (by exact ⟨c0_0, c0_1⟩) (fun hHeld => ?_); clear hK K
  refine' zt 8 ?_
  refine' zn 9 (fun K hK => ?_)
  go_simp
  refine' zk hK (by (simp [go_sem, World.cell?_alloc_past, c0_0, c0_1]; done)) (fun hHeld => ?_); clear hK K
  refine wpAnyH_done (by kernel_rfl) ?_ _
  go_wp2_with fail
  refine bodyPost_ret (v := .agg #[.slice B cl.length d, .slice B2 ps.length d2]) (by simp [results, Tryz.results13, go_sem, World.cell?_alloc_past, r_0, r_1, r_0f, r_1f]; try rfl) rfl ⟨_, rfl, holdS_of (b := w.heap.size + 2) (by omega) (show World.ownsRow _ (w.heap.size + 2) _ _ _ _ _ from by repeat (first | with_reducible refine own_box ?_ (by omega) | with_reducible refine World.ownsRow.drew ?_ | exact O1.out)) (show World.ownsRow _ (w.heap.size + 2) _ _ _ _ _ from by repeat (first | with_reducible refine own_box ?_ (by omega) | with_reducible refine World.ownsRow.drew ?_ | exact O2.out)) zSlTby5_0⟩
 go_simp
 generalize hu : u0.alloc (.cells #[] 82) = u0a
 have hx : Ext u0 u0a := by rw [← hu]; exact (Ext.refl _).alloc _
 have E2 : Hid (World.ownsRow u0a (w.heap.size + 2) 82 6 (.slice (some ⟨u0.heap.size, 0, none⟩) 0 0) 0 []) := Lib.hid (by rw [← hu]; exact own_lower (own_empty _ _ _) (by omega))
 clear hu
 replace r_0f := hx.froz r_0 r_0f
 replace r_1f := hx.froz r_1 r_1f
 replace c0_0 := hx.has c0_0
 replace c0_1 := hx.has c0_1
 replace r_0 := hx.has r_0
 replace r_1 := hx.has r_1
 have hz := Ext.size hx
 replace XU : Hid (Ext w u0a) := Lib.hid (Ext.trans XU.out hx)
 clear hx
 refine' zk hK (by exact ⟨c0_0, c0_1⟩) (fun hHeld => ?_); clear hK K
 refine' zn 0 (fun K hK => ?_)
 go_simp
 generalize hu : u0a.alloc (.cells #[] 79) = u0aa
 have hx : Ext u0a u0aa := by rw [← hu]; exact (Ext.refl _).alloc _
 have E1 : Hid (World.ownsRow u0aa (w.heap.size + 2) 79 6 (.slice (some ⟨u0a.heap.size, 0, none⟩) 0 0) 0 []) := Lib.hid (by rw [← hu]; exact own_lower (own_empty _ _ _) (by omega))
 clear hu
 replace r_0f := hx.froz r_0 r_0f
 replace r_1f := hx.froz r_1 r_1f
 replace c0_0 := hx.has c0_0
 replace c0_1 := hx.has c0_1
 replace r_0 := hx.has r_0
 replace r_1 := hx.has r_1
 have hz := Ext.size hx
 replace E2 := Lib.hid (own_keep E2.out hx)
 replace XU : Hid (Ext w u0aa) := Lib.hid (Ext.trans XU.out hx)
 clear hx
 have hq1 : w.heap.size + 2 ≤ u0a.heap.size := by omega
 refine' zk hK (by exact ⟨c0_0, c0_1⟩) (fun hHeld => ?_); clear hK K
 refine' zn 3 (fun K hK => ?_)
 refine oper_app _ (.tmp 3) (.tmp 5) 22 rfl (w.heap.size + 2) 79 iCls (.agg #[.int .i64 0, .int .i64 0, .int .i64 0, .int .i64 0, .int .u64 0, .int .u64 0]) 6 48 Tryz.underlying22 iCls_0 iCls_1 iCls_2 iCls_3 rfl (by decide) _ 0 [] (by rfl) E1.out A cl.length c (cl.flatMap clsC) (by rfl) (HS.out.ext XU.out) clsC_one (by omega) (by decide) (by omega) ?_
 intro v u0aaa hown hx hn
 simp only [Nat.zero_add, List.nil_append] at hown
 obtain ⟨B, d, rfl, _, _⟩ := own_parts2 hown
 have hqq := own_rng E1.out
 replace r_0f := hx.froz (by intro hh; have := hqq _ hh; omega) r_0 r_0f
 replace r_1f := hx.froz (by intro hh; have := hqq _ hh; omega) r_1 r_1f
 replace c0_0 := hx.has (by intro hh; have := hqq _ hh; omega) c0_0
 replace c0_1 := hx.has (by intro hh; have := hqq _ hh; omega) c0_1
 replace r_0 := hx.has (by intro hh; have := hqq _ hh; omega) r_0
 replace r_1 := hx.has (by intro hh; have := hqq _ hh; omega) r_1
 have hz := hx.size
 replace E2 := Lib.hid (own_but1Word E2.out hx (own_apart E2.out E1.out (fun e => cls_pos e.symm)))
 replace XU : Hid (Ext w u0aaa) := Lib.hid (Below.trans XU.out (hx.below (Ext.size XU.out) (fun k hk hh => by have := hqq _ hh; omega)))
 have O1 := Lib.hid hown
 clear hx hown hn hqq E1
 refine' zk hK (by exact ⟨c0_0, c0_1⟩) (fun hHeld => ?_); clear hK K
 refine' zn 7 (fun K hK => ?_)
 refine oper_app _ (.tmp 7) (.tmp 9) 23 rfl (w.heap.size + 2) 82 iPos (.agg #[.int .i64 0, .int .i64 0, .int .i64 0, .int .i64 0, .int .i64 0, .int .u64 0]) 6 48 Tryz.underlying23 iPos_0 iPos_1 iPos_2 iPos_3 rfl (by decide) _ 0 [] (by rfl) E2.out A2 ps.length c2 (ps.flatMap posC) (by rfl) (HT.out.ext XU.out) posC_one (by omega) (by decide) (by omega) ?_
 intro v u0aaaa hown hx hn
 simp only [Nat.zero_add, List.nil_append] at hown
 obtain ⟨B2, d2, rfl, _, _⟩ := own_parts2 hown
 have hqq := own_rng E2.out
 replace r_0f := hx.froz (by intro hh; have := hqq _ hh; omega) r_0 r_0f
 replace r_1f := hx.froz (by intro hh; have := hqq _ hh; omega) r_1 r_1f
 replace c0_0 := hx.has (by intro hh; have := hqq _ hh; omega) c0_0
 replace c0_1 := hx.has (by intro hh; have := hqq _ hh; omega) c0_1
 replace r_0 := hx.has (by intro hh; have := hqq _ hh; omega) r_0
 replace r_1 := hx.has (by intro hh; have := hqq _ hh; omega) r_1
 have hz := hx.size
 replace O1 := Lib.hid (own_but1Word O1.out hx (own_apart O1.out E2.out cls_pos))
 replace XU : Hid (Ext w u0aaaa) := Lib.hid (Below.trans XU.out (hx.below (Ext.size XU.out) (fun k hk hh => by have := hqq _ hh; omega)))
 have O2 := Lib.hid hown
 clear hx hown hn hqq E2
 refine' zk hK (by exact ⟨c0_0, c0_1⟩) (fun hHeld => ?_); clear hK K
 refine' zt 8 ?_
 refine' zn 9 (fun K hK => ?_)
 go_simp
 refine' zk hK (by (simp [go_sem, World.cell?_alloc_past, c0_0, c0_1]; done)) (fun hHeld => ?_); clear hK K
 refine wpAnyH_done (by kernel_rfl) ?_ _
 go_wp2_with fail
 refine bodyPost_ret (v := .agg #[.slice B cl.length d, .slice B2 ps.length d2]) (by simp [results, Tryz.results13, go_sem, World.cell?_alloc_past, r_0, r_1, r_0f, r_1f]; try rfl) rfl ⟨_, rfl, holdS_of (b := w.heap.size + 2) (by omega) (show World.ownsRow _ (w.heap.size + 2) _ _ _ _ _ from by repeat (first | with_reducible refine own_box ?_ (by omega) | with_reducible refine World.ownsRow.drew ?_ | exact O1.out)) (show World.ownsRow _ (w.heap.size + 2) _ _ _ _ _ from by repeat (first | with_reducible refine own_box ?_ (by omega) | with_reducible refine World.ownsRow.drew ?_ | exact O2.out)) zSlTby5_0⟩
theorem CutJ.start (cl : List I6) (v h p : Int) : CutJ cl v h p 0 [] [] 0 := ⟨by simp [cutCs], by simp [losCs], by simp [losN, addF]⟩
theorem CutJ.skip {cl CL : List I6} {v h p N : Int} {k : Nat} {LS : List I5} {c : I6} (H : CutJ cl v h p k CL LS N) (hc : cl[k]? = some c) (hb : bkC c v h = false) : CutJ cl v h p (k + 1) (CL ++ [c]) LS N := by
 refine ⟨?_, ?_, H.en⟩
 ·rw [H.ecl, take_one hc]; unfold cutCs; rw [List.filterMap_append]; simp [cutC_skip hb]
 rw [H.els, take_one hc]; unfold losCs; rw [List.filterMap_append]; simp [losC_skip hb]
end
section
open Go.RowKit Go.Shelf Go.ChangeShapes Go.WideShapes Go.Deep Go.Joins
attribute [local go_sem] Oper.semAt_some

def RetPs (L : List I6) (E : Int) (w : World) (r : Ending) (w' : World) : Prop := ∃ A c, r = .returned (.tuple #[.slice A L.length c, .int .i64 E]) ∧ (A = none → c = 0) ∧ OwnPos w' w.heap.size (.slice A L.length c) L.length L ∧ Ext w w'
theorem RetPs.mk {L : List I6} {E : Int} {w w' : World} {A : Option Addr} {c b : Nat} (hb : w.heap.size ≤ b) (h : OwnPos w' b (.slice A L.length c) L.length L) (hx : Ext w w') : RetPs L E w (.returned (.tuple #[.slice A L.length c, .int .i64 E])) w' := by
 obtain ⟨A', c', e, h1, _⟩ := own_parts2 h
 obtain ⟨rfl, rfl⟩ : A = A' ∧ c = c' := by simpa using e
 exact ⟨A, c, rfl, h1, own_lower h hb, hx⟩
end
section
open Go.RowKit
theorem next3_in {P : Program} {md : Region.Mode} {l : List Oper} {Q : Exit → Act → World → Prop} {S : World → Prop} {oi oj ok_ : Oper} {fuel : Nat} {listed : Array Bool} {a : Act} {w : World} (i j k : Nat) (hi : l[i]? = some oi) (hj : l[j]? = some oj) (hk : l[k]? = some ok_)
  (hr : Region.ready md l.toArray listed = [i, j, k]) (hw : Region.wanted oi (yielded l.toArray a.tmps) = true) (hw2 : Region.wanted oj (yielded l.toArray a.tmps) = true) (hw3 : Region.wanted ok_ (yielded l.toArray a.tmps) = true)
  (h : ∀ K' : Act → World → Prop, Shut (∀ a w, S w → (S w → wpAnyH P md l.toArray Q S fuel (listed.setIfInBounds i true) a w) → K' a w) → Oper.wp P oi a w K' Q)
  (h2 : ∀ K' : Act → World → Prop, Shut (∀ a w, S w → (S w → wpAnyH P md l.toArray Q S fuel (listed.setIfInBounds j true) a w) → K' a w) → Oper.wp P oj a w K' Q)
  (h3 : ∀ K' : Act → World → Prop, Shut (∀ a w, S w → (S w → wpAnyH P md l.toArray Q S fuel (listed.setIfInBounds k true) a w) → K' a w) → Oper.wp P ok_ a w K' Q) : wpAnyH P md l.toArray Q S (fuel + 1) listed a w :=
 wpAnyH_ready hr (by simp) (AllReadyH.cons (o := oi) (by simpa using hi) (fun K' hK => by rw [if_pos hw]; exact h K' hK) (AllReadyH.cons (o := oj) (by simpa using hj) (fun K' hK => by rw [if_pos hw2]; exact h2 K' hK) (AllReadyH.cons (o := ok_) (by simpa using hk) (fun K' hK => by rw [if_pos hw3]; exact h3 K' hK) AllReadyH.nil)))
end
section
open Go.RowKit Go.ChangeShapes Go.WideShapes Go.Deep Go.Joins
theorem HOk.nil : HOk [] [] := ⟨List.Pairwise.nil, List.Pairwise.nil, by simp, by simp [totC, addF], fun c hc => (by cases hc), fun c hc => (by cases hc), fun c hc => (by cases hc)⟩
end
section
open Go.RowKit
theorem xor_all : ∀ r : Fin 256, 0 ≤ bits .xor .u8 (r.1 : Int) 165 ∧ bits .xor .u8 (r.1 : Int) 165 < 256 := by decide +kernel
theorem by_set (M : List Nat) (k x : Nat) : (by_ M).set k (.int .u8 (x : Int)) = by_ (M.set k x) := by
 unfold by_
 rw [List.map_set]
theorem byt_set {M : List Nat} (h : Byt M) {k x : Nat} (hx : x < 256) : Byt (M.set k x) := by
 intro y hy
 rcases List.mem_or_eq_of_mem_set hy with h1 | h1
 ·exact h y h1
 omega
theorem kOverBytes_some (g c : Nat) (M : List Nat) (hB : Byt M) (base : Nat) (w : World) (h : w.ownsRow base 5 1 (.slice (some ⟨g, 0, none⟩) M.length c) M.length (by_ M)) :
  Calls Tryz.prog 61 #[.slice (some ⟨g, 0, none⟩) M.length c] w fun r w' => (∃ v, r = .returned v) ∧ But (· = g) w w' := by
 have hs := (Sl.own h).small
 have HO := Lib.hid (And.intro h hB)
 clear h hB
 generalize hn : M.length = n at *
 replace hn := Lib.hid hn
 go_enter Tryz.func61, Tryz.ntmps61
 go_wp2
 go_loopg [2] n (fun gh i wx => gh ≤ n ∧ i = .int .i64 ((n - gh : Nat) : Int) ∧ ∃ M', wx.ownsRow base 5 1 (.slice (some ⟨g, 0, none⟩) n c) n (by_ M') ∧ Byt M' ∧ But (· = g) w wx)
 case atStart => exact ⟨Nat.le_refl _, by simp, M, HO.out.1, HO.out.2, But.refl _ _⟩
 obtain ⟨hg, hi, M', hw, hB', hb⟩ := hrel
 have hl := (Sl.own hw).len
 rw [by_len] at hl
 have HW := Lib.hid hw
 have HBB := Lib.hid (And.intro hB' hb)
 obtain ⟨k, hk⟩ : ∃ k, k = n - gk := ⟨_, rfl⟩
 rw [← hk] at hi
 subst hi
 by_cases hz : gk = 0
 ·have hkn : ¬ (k : Int) < n := by omega
  clear hw hB' hb hl hg hk hz
  go_wp2
  go_end0
  exact ⟨⟨_, rfl⟩, HBB.out.2⟩
 have hkn : (k : Int) < n := by omega
 have hkl : k < M'.length := by omega
 have hc := (hw.cellAt k (by omega)).trans (by_get M' k hkl)
 have hf := hw.frozenAt k
 have hcb := hB'.get k
 obtain ⟨x, hx⟩ : ∃ x : Nat, bits .xor .u8 (M'.getD k 0 : Int) 165 = (x : Int) ∧ x < 256 := by
  have := xor_all ⟨M'.getD k 0, hcb⟩
  simp only at this
  exact ⟨(bits .xor .u8 (M'.getD k 0 : Int) 165).toNat, by omega, by omega⟩
 have HX := Lib.hid hx
 have HK := Lib.hid (And.intro hk (And.intro hg hz))
 generalize M'.getD k 0 = y at *
 have hy0 : (0 : Int) ≤ (y : Int) := by omega
 have hy1 : (y : Int) < 256 := by omega
 clear hx hw hB' hb hl hk hg hz hkl hcb
 go_wp2
 go_roundg (gk - 1)
 case measure => have := HK.out; omega
 refine ⟨by have := HK.out; omega, num_eq (by have := HK.out; omega), M'.set k x, ?_, byt_set HBB.out.1 HX.out.2, HBB.out.2.setCell (p := ⟨g, k, none⟩) rfl _⟩
 have h2 := HW.out.stored k (.int .u8 (x : Int))
 rw [by_set] at h2
 rw [HX.out.1]
 exact h2.1
def OwnN (w : World) (base : Nat) (v : Value) (n : Nat) (L : List Nat) : Prop := w.ownsRow base 5 1 v n (by_ L)
theorem OwnN.ext {w w' : World} {base n : Nat} {v : Value} {L : List Nat} (h : OwnN w base v n L) (hx : Ext w w') : OwnN w' base v n L := own_keep h hx
theorem OwnN.sl {w : World} {base n c : Nat} {A : Option Addr} {L : List Nat} (h : OwnN w base (.slice A n c) n L) : Sl w 1 A n c (by_ L) := Sl.own h
theorem own_out {w : World} {L : List Nat} {E : Int} {r : Ending} {w' : World} (h : ByErr L E w r w') : ∃ A c, r = .returned (.tuple #[.slice A L.length c, .int .i64 E]) ∧ (A = none → c = 0) ∧ OwnN w' w.heap.size (.slice A L.length c) L.length L ∧ Ext w w' := by
 obtain ⟨v, rfl, hown, hx⟩ := h
 obtain ⟨A, c, rfl, h1, h2⟩ := own_parts2 hown
 exact ⟨A, c, rfl, h1, hown, hx⟩
theorem kOverBytes_own (A : Option Addr) (c : Nat) (L : List Nat) (hB : Byt L) (base : Nat) (w : World) (h : OwnN w base (.slice A L.length c) L.length L) :
  Calls Tryz.prog 61 #[.slice A L.length c] w fun r w' => (∃ v, r = .returned v) ∧ But (fun k => ∃ o s, A = some ⟨k, o, s⟩) w w' := by
 rcases h.2 with ⟨h', h0⟩ | ⟨g, cap, cur, h', hbg, _⟩
 ·injection h' with h1 h2 h3
  subst h1; subst h3
  rw [h2]
  go_enter Tryz.func61, Tryz.ntmps61
  go_wp2
  go_loopg [2] 0 (fun gh i wx => i = .int .i64 0 ∧ wx = w)
  case atStart => exact ⟨rfl, rfl⟩
  obtain ⟨rfl, rfl⟩ := hrel
  go_wp2
  go_end0
  exact ⟨⟨_, rfl⟩, But.refl _ _⟩
 injection h' with h1 h2 h3
 subst h1; subst h3
 refine (kOverBytes_some g c L hB base w h).mono ?_
 rintro r w' ⟨h1, h2⟩
 exact ⟨h1, h2.mono fun k _ hk => ⟨0, none, by have hk2 : k = g := hk; rw [hk2]⟩⟩
end
section
open Go.RowKit Go.ChangeShapes Go.WideShapes Go.Deep Go.Joins
theorem kSameHolding_eq (n c n2 c2 m d m2 d2 : Nat) (A A2 B B2 : Option Addr) (cl ps cl' ps' : List I6) (w : World) (h : Sl w 6 A n c (cl.flatMap clsC)) (h2 : Sl w 6 A2 n2 c2 (ps.flatMap posC)) (h3 : Sl w 6 B m d (cl'.flatMap clsC)) (h4 : Sl w 6 B2 m2 d2 (ps'.flatMap posC)) (e1 : cl = cl') (e2 : ps = ps') :
  Calls Tryz.prog 18 #[.agg #[.slice A n c, .slice A2 n2 c2], .agg #[.slice B m d, .slice B2 m2 d2]] w fun r w' => r = .returned (.bool true) ∧ Ext w w' := by
 have h9 := kSameHolding_any n c n2 c2 m d m2 d2 A A2 B B2 cl ps cl' ps' w h h2 h3 h4
 rw [decide_eq_true e1, decide_eq_true e2] at h9
 exact h9
theorem hBytes_z (n c n2 c2 : Nat) (A A2 : Option Addr) (cl ps : List I6) (BL : List Nat) (be : Int) (w : World) (h : Sl w 6 A n c (cl.flatMap clsC)) (h2 : Sl w 6 A2 n2 c2 (ps.flatMap posC)) (hn : n = cl.length) (hn2 : n2 = ps.length) (hm : n ≤ 1024) (hm2 : n2 ≤ 1024) (hw : ∀ x ∈ cl, WdC x) (hw2 : ∀ x ∈ ps, WdP x) (hF : (BL, be) = (hldB cl ps, chkH cl ps)) :
  Calls Tryz.prog 56 #[.agg #[.slice A n c, .slice A2 n2 c2]] w fun r w' => ∃ A c, r = .returned (.tuple #[.slice A BL.length c, .int .i64 be]) ∧ (A = none → c = 0) ∧ OwnN w' w.heap.size (.slice A BL.length c) BL.length BL ∧ Ext w w' := by
 obtain ⟨h1, h3⟩ := Prod.mk.inj hF
 rw [h1, h3]
 exact (hBytes_any n c n2 c2 A A2 cl ps w h h2 hn hn2 hm hm2 hw hw2).mono fun r w' h => own_out h
end
end Go.Proofs.YtkinchgjidpjnaaGreat
