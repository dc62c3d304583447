/- Tbk, part 3. Conditions stand in each lemma. -/
import Derived.Test.YtkinchgjidpjnaaGreatSlTbk2
set_option linter.unusedVariables false
set_option linter.unusedSimpArgs false
set_option maxRecDepth 100000
set_option maxHeartbeats 64000000
namespace Go.Proofs.YtkinchgjidpjnaaGreat
section
open Go.RowKit Go.ChangeShapes Go.WideShapes
def bs_ (L : List Nat) : List Int := L.map fun (x : Nat) => (x : Int)
theorem bs_inj {L M : List Nat} (hL : Byt L) (hM : Byt M) (h : strOfNums (bs_ L) = strOfNums (bs_ M)) : L = M := by
 have h1 := congrArg (fun s : ByteArray => s.data.toList.map fun u => u.toNat) h
 simp only [strOfNums_data, bs_, List.map_map] at h1
 have e : ∀ K : List Nat, Byt K → K.map ((fun u : UInt8 => u.toNat) ∘ (fun n : Int => UInt8.ofNat n.toNat) ∘ fun (x : Nat) => (x : Int)) = K := by
  intro K hK
  induction K with
  | nil => rfl
  | cons x K ih =>
   have hx := hK x (List.mem_cons_self ..)
   rw [List.map_cons, ih fun y hy => hK y (List.mem_cons_of_mem _ hy)]
   simp
   omega
 rw [e L hL, e M hM] at h1
 exact h1
theorem conv_by {A : Option Addr} {n c : Nat} {L : List Nat} {w : World} (h : Sl w 1 A n c (by_ L)) :
  (convert 90 9 (.slice A n c)).run Tryz.prog w = .ok (.string (strOfNums (bs_ L))) w := by
 have hl : L.length = n := by simpa [by_] using h.len
 cases n with
 | zero =>
  have hL : L = [] := List.eq_nil_of_length_eq_zero hl
  subst hL
  cases A with
  | none =>
   rw [run_convert_bytes_nil w 90 5 (by kernel_rfl) (by kernel_rfl) 0 c 9 (by kernel_rfl)]
   rfl
  | some a =>
   rw [run_convert_bytes_string w 90 9 5 (some a) 0 c (by kernel_rfl) (by kernel_rfl) (by kernel_rfl), run_bytesToString w a 0 c [] (by
    have := run_loadCells_list (P := Tryz.prog) w a [] (fun j v hj => by simp at hj)
    simpa using this)]
   rfl
 | succ m =>
  obtain ⟨b, o, rfl, hb, hc⟩ := h.at_ (Nat.succ_pos m)
  refine run_convert_bytes_arg w 90 5 (by kernel_rfl) (by kernel_rfl) b o (m + 1) c (bs_ L) (by simpa [bs_] using hl) (fun i hi => ?_) 9 (by kernel_rfl)
  refine hc i _ ?_
  have hi' : i < L.length := by omega
  simp [by_, bs_, List.getD, hi']
theorem kSameBytes_any (A B : Option Addr) (n c m d : Nat) (L M : List Nat) (hL : Byt L) (hM : Byt M) (w : World) (h1 : Sl w 1 A n c (by_ L)) (h2 : Sl w 1 B m d (by_ M)) :
  Calls Tryz.prog 60 #[.slice A n c, .slice B m d] w fun r w' => r = .returned (.bool (decide (L = M))) ∧ w = w' := by
 have c1 := conv_by h1
 have c2 := conv_by h2
 have he : ((strOfNums (bs_ L)).toList == (strOfNums (bs_ M)).toList) = decide (L = M) := by
  rw [ByteArray.toList_eq, ByteArray.toList_eq]
  by_cases h : L = M
  ·subst h
   simp
  rw [decide_eq_false h]
  exact beq_false_of_ne fun e => h (bs_inj hL hM (by
   have := congrArg List.toArray e
   exact ByteArray.ext (by simpa using e)))
 go_enter Tryz.func60, Tryz.ntmps60
 go_wp2
 go_ret
 exact ⟨by simp [he], rfl⟩
theorem byt_putL : ∀ (b n : Nat), n ≤ b → Byt (putL n) := by
 intro b
 induction b with
 | zero => intro n hn; rw [putL_lt (by omega)]; intro x hx; simp at hx; omega
 | succ b ih =>
  intro n hn
  by_cases h : n < 128
  ·rw [putL_lt h]; intro x hx; simp at hx; omega
  rw [putL_ge h]
  intro x hx
  rcases List.mem_cons.1 hx with rfl | hx
  ·omega
  exact ih (n / 128) (by omega) x hx
theorem kSameBytes_eq (A B : Option Addr) (n c m d : Nat) (L : List Nat) (hL : Byt L) (w : World) (h1 : Sl w 1 A n c (by_ L)) (h2 : Sl w 1 B m d (by_ L)) :
  Calls Tryz.prog 60 #[.slice A n c, .slice B m d] w fun r w' => r = .returned (.bool true) ∧ w = w' := by
 refine (kSameBytes_any A B n c m d L L hL hL w h1 h2).mono ?_
 rintro r w' ⟨rfl, rfl⟩
 exact ⟨by simp, rfl⟩
theorem open_bytes {H : Type} {enc : TypeId × Value → H} {w : World} {base : Nat} {spare : Nat → Bool} {held : Bool} {n c : Nat} {A : Option Addr} {d : DataW H} {p : List MemPlace}
  (h : DataW.Trod enc Tryz.prog w base spare held 90 (.slice A n c) d p) : ∃ M : List Nat, n = M.length ∧ Sl w 1 A M.length c (by_ M) ∧ Byt M ∧ (A = none → c = 0) := by
 have hlt : ∀ x ∈ p, x.block < w.heap.size := by obtain ⟨m, hm⟩ := h; exact DataW.trod_lt m _ _ _ hm
 obtain ⟨l, hs, hf⟩ := open_sl Tryz.underlying90 Tryz.underlying5 (by kernel_rfl) h hlt
 have hl := hs.ilen
 have hb : ∀ x ∈ l, 0 ≤ x ∧ x < 256 := fun x hx => by
  have := hf x hx
  unfold Fits at this
  have := bounds_u8 (n := x) this
  omega
 have e : by_ (l.map Int.toNat) = iv .u8 l := by
  unfold by_ iv
  rw [List.map_map]
  apply List.map_congr_left
  intro x hx
  have := hb x hx
  simp only [Function.comp]
  rw [Int.toNat_of_nonneg this.1]
 refine ⟨l.map Int.toNat, by simpa using hl.symm, ?_, ?_, ?_⟩
 ·rw [e, List.length_map, hl]; exact hs
 ·intro x hx
  obtain ⟨y, hy, rfl⟩ := List.mem_map.1 hx
  have := hb y hy
  omega
 intro hA
 subst hA
 obtain ⟨fuel, hf⟩ := h
 rcases Go.Deep.open_slice Tryz.underlying90 (show DataW.trod enc Tryz.prog w base spare held fuel 90 [.slice none n c] = some _ by simpa [Value.cells] using hf) with ⟨h0, _⟩ | ⟨a, len, cap, m, n', D, Pl, hcs, _⟩
 ·simp at h0; exact h0.2
 simp at hcs
end
section
open Go.RowKit Go.ChangeShapes Go.WideShapes Go.Deep Go.Joins
theorem clB_eq (x : I6) : clB x = nuB (stL x.1 x.2.1 x.2.2.1 x.2.2.2.1) ++ (putL x.2.2.2.2.1.toNat ++ putL x.2.2.2.2.2.toNat) := by
 rw [stl_nuB]
 simp [clB, clN, nuB]
theorem poB_eq (x : I6) : poB x = putL x.1.toNat ++ (nuB (stL x.2.1 x.2.2.1 x.2.2.2.1 x.2.2.2.2.1) ++ putL x.2.2.2.2.2.toNat) := by
 rw [stl_nuB]
 simp [poB, poN, nuB]
theorem hRdC_put {L rest : List Nat} {k : Nat} {x : I6} (hL : L.drop k = clB x ++ rest) (h : chkS x.1 x.2.1 x.2.2.1 x.2.2.2.1 = 0) (hf : WdC x) : hRdC L k none = (k + (clB x).length, none, x) := by
 have ht : Word x.2.2.2.2.1 := hf.1
 have hh : Word x.2.2.2.2.2 := hf.2
 have hlen : (clB x).length = (nuB (stL x.1 x.2.1 x.2.2.1 x.2.2.2.1)).length + ((putL x.2.2.2.2.1.toNat).length + (putL x.2.2.2.2.2.toNat).length) := by rw [clB_eq]; simp only [List.length_append]
 obtain ⟨xv, xs, xp, xf, xt, xh⟩ := x
 rw [clB_eq] at hL
 simp only [List.append_assoc] at hL h ht hh hlen
 unfold Word at ht hh
 obtain ⟨t4, ta, tb, tc, td, tf, tz⟩ := tkq_put h hL
 have d2 := (takeq_put hL).2
 obtain ⟨v4, k4, f4⟩ := ruq_put d2 (by omega)
 have d3 := (takeq_put d2).2
 obtain ⟨v5, k5, f5⟩ := ruq_put d3 (by omega)
 unfold hRdC
 simp only [t4, ta, tb, tc, td, tf, tz, v4, k4, f4, v5, k5, f5]
 rw [Int.toNat_of_nonneg (by omega : 0 ≤ xt), Int.toNat_of_nonneg (by omega : 0 ≤ xh)]
 simp only [Prod.mk.injEq, hlen]
 refine ⟨by omega, ?_⟩
 simp
theorem hRdP_put {L rest : List Nat} {k : Nat} {x : I6} (hL : L.drop k = poB x ++ rest) (h : chkS x.2.1 x.2.2.1 x.2.2.2.1 x.2.2.2.2.1 = 0) (ho : 0 ≤ x.1 ∧ x.1 < 64) (hf : WdP x) : hRdP L k none = (k + (poB x).length, none, x) := by
 have hh : Word x.2.2.2.2.2 := hf
 have hlen : (poB x).length = (putL x.1.toNat).length + ((nuB (stL x.2.1 x.2.2.1 x.2.2.2.1 x.2.2.2.2.1)).length + (putL x.2.2.2.2.2.toNat).length) := by rw [poB_eq]; simp only [List.length_append]
 obtain ⟨xo, xv, xs, xp, xf, xh⟩ := x
 rw [poB_eq] at hL
 simp only [List.append_assoc] at hL h ho hh hlen
 unfold Word at hh
 obtain ⟨v1, k1, f1⟩ := rn_put (lo := 0) (hi := 63) hL (by omega) (by omega) (by omega)
 have d1 := (takeq_put hL).2
 obtain ⟨t4, ta, tb, tc, td, tf, tz⟩ := tkq_put h d1
 have d2 := (takeq_put d1).2
 obtain ⟨v4, k4, f4⟩ := ruq_put d2 (by omega)
 unfold hRdP
 simp only [v1, k1, f1, t4, ta, tb, tc, td, tf, tz, v4, k4, f4]
 rw [Int.toNat_of_nonneg (by omega : 0 ≤ xo), Int.toNat_of_nonneg (by omega : 0 ≤ xh)]
 simp only [Prod.mk.injEq, hlen]
 refine ⟨by omega, ?_⟩
 simp
theorem hRdC_back {L : List Nat} (hB : Byt L) {k : Nat} (h : (hRdC L k none).2.1 = none) : ∃ rest, L.drop k = clB (hRdC L k none).2.2 ++ rest ∧ (hRdC L k none).1 = k + (clB (hRdC L k none).2.2).length := by
 obtain ⟨k2, hk2⟩ : ∃ v, v = (tk4 L (k, none)).1 := ⟨_, rfl⟩
 obtain ⟨f2, hf2⟩ : ∃ v, v = tkF L (k, none) := ⟨_, rfl⟩
 obtain ⟨k3, hk3⟩ : ∃ v, v = ruK L k2 f2 := ⟨_, rfl⟩
 obtain ⟨f3, hf3⟩ : ∃ v, v = ruF L k2 f2 := ⟨_, rfl⟩
 have e := hRdC_eq (L := L) (k := k) (f := none) rfl rfl rfl rfl hk2 hf2 rfl hk3 hf3 rfl rfl rfl
 rw [e] at h ⊢
 simp only at h ⊢
 have g3 := ruq_none h
 rw [g3] at h hf3
 have g2 := ruq_none hf3.symm
 rw [g2] at hf3 hf2 hk3
 obtain ⟨r2, d2, e2, z2⟩ := tkq_back hB hf2.symm
 rw [e2] at hk2
 obtain ⟨m4, r4, d4, v4, e4, _⟩ := ruq_back hB hf3.symm
 rw [e4] at hk3
 obtain ⟨m5, r5, d5, v5, e5, _⟩ := ruq_back hB h
 rw [g2, g3, z2, v4, v5, e5]
 simp only [Bool.false_eq_true, if_false]
 have q2 := (takeq_put d2).2
 rw [← hk2, d4] at q2
 have q3 := (takeq_put d4).2
 rw [← hk3, d5] at q3
 refine ⟨r5, ?_, ?_⟩
 ·rw [clB_eq, d2]
  simp only [Int.toNat_natCast]
  rw [← q2, ← q3]
  simp only [List.append_assoc]
 rw [clB_eq]
 simp only [Int.toNat_natCast, List.length_append]
 omega
theorem hRdP_back {L : List Nat} (hB : Byt L) {k : Nat} (h : (hRdP L k none).2.1 = none) : ∃ rest, L.drop k = poB (hRdP L k none).2.2 ++ rest ∧ (hRdP L k none).1 = k + (poB (hRdP L k none).2.2).length := by
 obtain ⟨k1, hk1⟩ : ∃ v, v = rnK L k none 0 63 := ⟨_, rfl⟩
 obtain ⟨f1, hf1⟩ : ∃ v, v = rnF L k none 0 63 := ⟨_, rfl⟩
 obtain ⟨k2, hk2⟩ : ∃ v, v = (tk4 L (k1, f1)).1 := ⟨_, rfl⟩
 obtain ⟨f2, hf2⟩ : ∃ v, v = tkF L (k1, f1) := ⟨_, rfl⟩
 have e := hRdP_eq (L := L) (k := k) (f := none) rfl hk1 hf1 rfl rfl rfl rfl hk2 hf2 rfl rfl rfl
 rw [e] at h ⊢
 simp only at h ⊢
 have g2 := ruq_none h
 rw [g2] at h hf2
 have g1 := tkF_none hf2.symm
 rw [g1] at hf2 hf1 hk2
 obtain ⟨m1, r1, d1, v1, e1, _, _⟩ := rn_back hB (by decide) hf1.symm
 rw [e1] at hk1
 obtain ⟨r2, d2, e2, z2⟩ := tkq_back hB hf2.symm
 rw [e2] at hk2
 obtain ⟨m4, r4, d4, v4, e4, _⟩ := ruq_back hB h
 rw [g1, g2, z2, v1, v4, e4]
 simp only [Bool.false_eq_true, if_false]
 have q1 := (takeq_put d1).2
 rw [← hk1, d2] at q1
 have q2 := (takeq_put d2).2
 rw [← hk2, d4] at q2
 refine ⟨r4, ?_, ?_⟩
 ·rw [poB_eq, d1]
  simp only [Int.toNat_natCast]
  rw [← q1, ← q2]
  simp only [List.append_assoc]
 rw [poB_eq]
 simp only [Int.toNat_natCast, List.length_append]
 omega
section
variable {L : List Nat} {rd : Nat → Flt → Nat × Flt × I6} {one : Option (List Int) → I6 → Int} {key : I6 → List Int} {bf : I6 → List Nat} {Good : I6 → Prop}
theorem rwS_put (hput : ∀ k rest x, L.drop k = bf x ++ rest → Good x → rd k none = (k + (bf x).length, none, x)) {l : List I6} (hg : ∀ x ∈ l, Good x) (hone : ∀ i x, l[i]? = some x → one (lstK key (l.take i)) x = 0) {k0 : Nat} {rest : List Nat} (hd : L.drop k0 = l.flatMap bf ++ rest) : ∀ j, j ≤ l.length → rwS rd one key (k0, none, []) j = (k0 + ((l.take j).flatMap bf).length, none, l.take j)
 | 0, _ => by simp [rwS]
 | j + 1, hj => by
  have hx := List.getElem?_eq_getElem (show j < l.length from by omega)
  have ht := nuF_take (f := bf) hx
  have e : L.drop (k0 + ((l.take j).flatMap bf).length) = bf l[j] ++ ((l.drop (j + 1)).flatMap bf ++ rest) := by
   have e1 : l = l.take j ++ l[j] :: l.drop (j + 1) := by rw [← List.drop_eq_getElem_cons (by omega), List.take_append_drop]
   have e2 : l.flatMap bf = (l.take j).flatMap bf ++ (bf l[j] ++ (l.drop (j + 1)).flatMap bf) := by
    conv => lhs; rw [e1]
    rw [List.flatMap_append, List.flatMap_cons]
   rw [e2, List.append_assoc, List.append_assoc] at hd
   exact (takeq_put hd).2
  have hr := hput _ _ _ e (hg _ (List.getElem_mem (by omega)))
  rw [rwS, rwS_put hput hg hone hd j (by omega)]
  unfold rwS1
  simp only [hr]
  rw [if_pos trivial, hone j _ hx, ht, List.take_succ_eq_append_getElem (by omega)]
  refine Prod.ext ?_ rfl
  simp only [List.length_append]
  omega
theorem rwS_back (hback : ∀ k, (rd k none).2.1 = none → ∃ rest, L.drop k = bf (rd k none).2.2 ++ rest ∧ (rd k none).1 = k + (bf (rd k none).2.2).length) {k0 : Nat} : ∀ j, (rwS rd one key (k0, none, []) j).2.1 = none → ∃ k out, rwS rd one key (k0, none, []) j = (k, none, out) ∧ out.length = j ∧ L.take k = L.take k0 ++ out.flatMap bf
 | 0, _ => ⟨k0, [], rfl, rfl, by simp⟩
 | j + 1, h => by
  have h1 : (rwS rd one key (k0, none, []) j).2.1 = none := by
   cases hf : (rwS rd one key (k0, none, []) j).2.1 with
   | none => rfl
   | some x => rw [rwS, rwS1_some hf, hf] at h; cases h
  obtain ⟨k, out, e, hl, ht⟩ := rwS_back hback j h1
  rw [rwS, e] at h
  have hst : rwS1 rd one key (k, none, out) = if (rd k none).2.1 = none then ((rd k none).1, failF none (one (lstK key out) (rd k none).2.2) (k : Int), out ++ [(rd k none).2.2]) else ((rd k none).1, (rd k none).2.1, out) := rfl
  rw [hst] at h
  by_cases hn : (rd k none).2.1 = none
  ·rw [if_pos hn] at h
   have hev := (failF_none (show failF none (one (lstK key out) (rd k none).2.2) (k : Int) = none from h)).2
   obtain ⟨rest, d, hk⟩ := hback k hn
   refine ⟨(rd k none).1, out ++ [(rd k none).2.2], ?_, by simp [hl], ?_⟩
   ·rw [rwS, e, hst, if_pos hn, hev]
    rfl
   ·rw [hk, (takeq_put d).1, ht, List.flatMap_append]
    simp
  ·rw [if_neg hn] at h
   exact absurd h hn
end
theorem lst_prev {key : I6 → List Int} {l : List I6} (hs : SortK key l) {i : Nat} {x : I6} (hx : l[i]? = some x) : prevGe (lstK key (l.take i)) (key x) = false := by
 unfold lstK
 cases hl : (l.take i).getLast? with
 | none => rfl
 | some y =>
  show decide (0 ≤ cmpK (key y) (key x)) = false
  have hy : y ∈ l.take i := List.mem_of_getLast? hl
  obtain ⟨hi, e⟩ := List.getElem?_eq_some_iff.1 hx
  have e1 : l = l.take i ++ x :: l.drop (i + 1) := by rw [← e, ← List.drop_eq_getElem_cons hi, List.take_append_drop]
  unfold SortK at hs
  rw [e1] at hs
  have := (List.pairwise_append.1 hs).2.2 y hy x (List.mem_cons_self ..)
  exact decide_eq_false (by omega)
theorem putL_pos (N : Nat) : 1 ≤ (putL N).length := by
 by_cases h : N < 128
 ·rw [putL_lt h]; simp
 rw [putL_ge h]; simp
theorem nuB_min (l : List Int) : l.length ≤ (nuB l).length := by
 induction l with
 | nil => simp
 | cons x l ih =>
  have := putL_pos x.toNat
  unfold nuB at ih ⊢
  rw [List.flatMap_cons, List.length_append, List.length_cons]
  omega
theorem flat6_min {f : I6 → List Nat} (h : ∀ x, 6 ≤ (f x).length) (l : List I6) : 6 * l.length ≤ (l.flatMap f).length := by
 induction l with
 | nil => simp
 | cons x l ih =>
  have := h x
  rw [List.flatMap_cons, List.length_append, List.length_cons]
  omega
theorem RIw {rd : Nat → Flt → Nat × Flt × I6} {one : Option (List Int) → I6 → Int} {key : I6 → List Int} {Wd : I6 → Prop} (hr : Rdr rd Wd) {s : Nat × Flt × List I6} (hs : ∀ x ∈ s.2.2, Wd x) : ∀ j, ∀ x ∈ (rwS rd one key s j).2.2, Wd x
 | 0, x, hx => hs x hx
 | j + 1, x, hx => by
  have ih := RIw (one := one) (key := key) hr hs j
  rw [rwS] at hx
  unfold rwS1 at hx
  split at hx
  ·exact ih x hx
  ·split at hx
   ·rcases List.mem_append.1 hx with hx | hx
    ·exact ih x hx
    ·rw [List.mem_singleton.1 hx]
     exact hr.wd _ _
   ·exact ih x hx
theorem hldRV_put {cl ps : List I6} (hk : HOk cl ps) (hw : ∀ x ∈ cl, WdC x) (hw2 : ∀ x ∈ ps, WdP x) (hl : ps.length ≤ 65536) : hldRV (hldB cl ps) = (cl, ps, 0, 0) := by
 have hc := (chkH_iff cl ps).2 hk
 obtain ⟨L, hL⟩ : ∃ L, L = hldB cl ps := ⟨_, rfl⟩
 have hB : L = putL cl.length ++ (cl.flatMap clB ++ (putL ps.length ++ ps.flatMap poB)) := by rw [hL]; unfold hldB; rw [if_pos hc, List.append_assoc]
 rw [← hL]
 have hlc := hk.len
 obtain ⟨v, k, f⟩ := rn_put (L := L) (k := 0) (lo := 0) (hi := 1024) (by rw [List.drop_zero]; exact hB) (by omega) (by omega) (by omega)
 have d1 : L.drop (putL cl.length).length = cl.flatMap clB ++ (putL ps.length ++ ps.flatMap poB) := by rw [hB, List.drop_left]
 have e1 := rwS_put (L := L) (rd := hRdC L) (one := clsRd) (key := kC) (bf := clB) (Good := fun x => GoodC x ∧ WdC x) (fun k rest x hd hg => hRdC_put hd hg.1.1 hg.2) (l := cl) (fun x hx => ⟨hk.cls x hx, hw x hx⟩) (fun i x hx => by
  have hg := hk.cls x (List.mem_of_getElem? hx)
  unfold clsRd
  rw [lst_prev hk.sc hx, if_neg (by simp), if_neg (by simpa using hg.2.1), if_neg hg.2.2]) d1 cl.length (Nat.le_refl _)
 rw [List.take_length] at e1
 have s1 : hS1 L = ((putL cl.length).length + (cl.flatMap clB).length, none, cl) := by
  unfold hS1 hS0
  rw [v, k, f, show ((cl.length : Nat) : Int).toNat = cl.length from by simp, Nat.zero_add]
  exact e1
 have d2 := (takeq_put d1).2
 obtain ⟨v2, k2, f2⟩ := rn_put (lo := 0) (hi := 65536) d2 (by omega) (by omega) (by omega)
 have d3 := (takeq_put d2).2
 have e2 := rwS_put (L := L) (rd := hRdP L) (one := posRd) (key := kP) (bf := poB) (Good := fun x => chkS x.2.1 x.2.2.1 x.2.2.2.1 x.2.2.2.2.1 = 0 ∧ (0 ≤ x.1 ∧ x.1 < 64) ∧ WdP x) (fun k rest x hd hg => hRdP_put hd hg.1 hg.2.1 hg.2.2) (l := ps) (fun x hx => ⟨hk.posS hx, (hk.pos x hx).1, hw2 x hx⟩) (fun i x hx => by
  unfold posRd
  rw [lst_prev hk.sp hx, if_neg (by simp)]) (rest := []) (by rw [List.append_nil]; exact d3) ps.length (Nat.le_refl _)
 rw [List.take_length] at e2
 have s2 : hT1 L = ((putL cl.length).length + (cl.flatMap clB).length + (putL ps.length).length + (ps.flatMap poB).length, none, ps) := by
  unfold hT1 hT0
  rw [s1]
  simp only
  rw [v2, k2, f2, show ((ps.length : Nat) : Int).toNat = ps.length from by simp]
  exact e2
 have hlen : L.length = (putL cl.length).length + (cl.flatMap clB).length + (putL ps.length).length + (ps.flatMap poB).length := by rw [hB]; simp only [List.length_append]; omega
 unfold hldRV
 rw [s1, s2]
 simp only
 rw [hlen]
 unfold endF
 simp [hc]
theorem hldRV_back {L : List Nat} (hB : Byt L) (h : (hldRV L).2.2.1 = 0) : HOk (hldRV L).1 (hldRV L).2.1 ∧ hldB (hldRV L).1 (hldRV L).2.1 = L ∧ (hldRV L).2.2.2 = 0 ∧ (∀ x ∈ (hldRV L).1, WdC x) ∧ (∀ x ∈ (hldRV L).2.1, WdP x) := by
 have hn1 := rnV_in L 0 none 0 1024 (by decide)
 have hz1 : FltNz (hS1 L).2.1 := rwS_nz (hRdC_rdr L) (FltNz.none.rn _ _ _ _) _
 have hz2 : FltNz (hT1 L).2.1 := rwS_nz (hRdP_rdr L) (hz1.rn _ _ _ _) _
 have hn2 := rnV_in L (hS1 L).1 (hS1 L).2.1 0 65536 (by decide)
 unfold hldRV at h ⊢
 by_cases hE : (endF (hT1 L).2.1 (hT1 L).1 L.length).1 ≠ 0
 ·rw [if_pos hE] at h
  exact absurd h hE
 rw [if_neg hE] at h ⊢
 by_cases hc : chkH (hS1 L).2.2 (hT1 L).2.2 = 0
 ·rw [if_pos hc]
  simp only
  obtain ⟨hf, hk⟩ := endF_zero hz2 (by simpa using hE)
  have g0 : (hT0 L).2.1 = none := rwS_none hf
  have g1 : (hS1 L).2.1 = none := rnF_none g0
  have g2 : (hS0 L).2.1 = none := rwS_none g1
  have g3 : rnF L 0 none 0 1024 = none := g2
  obtain ⟨m, r1, d1, v1, k1, _, _⟩ := rn_back hB (by decide) g3
  have a0 : hS0 L = (rnK L 0 none 0 1024, none, []) := by unfold hS0; rw [g3]
  have a1 := g1
  unfold hS1 at a1
  rw [a0] at a1
  obtain ⟨k2, cl, e1, l1, t1⟩ := rwS_back (L := L) (bf := clB) (fun k hh => hRdC_back hB hh) _ a1
  have s1 : hS1 L = (k2, none, cl) := by unfold hS1; rw [a0]; exact e1
  have g4 : rnF L k2 none 0 65536 = none := by have := g0; unfold hT0 at this; rw [s1] at this; exact this
  obtain ⟨m2, r2, d2, v2, k3, _, _⟩ := rn_back hB (by decide) g4
  have b0 : hT0 L = (rnK L k2 none 0 65536, none, []) := by unfold hT0; rw [s1]; simp only; rw [g4]
  have b1 := hf
  unfold hT1 at b1
  rw [b0] at b1
  obtain ⟨k4, ps, e2, l2, t2⟩ := rwS_back (L := L) (bf := poB) (fun k hh => hRdP_back hB hh) _ b1
  have s2 : hT1 L = (k4, none, ps) := by unfold hT1; rw [b0]; exact e2
  rw [s2] at hk hc ⊢
  rw [s1] at hc ⊢
  simp only at hk hc ⊢
  have hok := (chkH_iff cl ps).1 hc
  refine ⟨hok, ?_, by first | trivial | rfl, fun x hx => ?_, fun x hx => ?_⟩
  ·unfold hldB
   rw [if_pos hc]
   have hL : L = L.take k4 := (List.take_of_length_le hk).symm
   rw [k3, (takeq_put d2).1, t1, k1, (takeq_put d1).1] at t2
   rw [v1] at l1
   rw [s1] at l2
   simp only at l2
   rw [v2] at l2
   rw [show ((m : Nat) : Int).toNat = m from by simp] at l1
   rw [show ((m2 : Nat) : Int).toNat = m2 from by simp] at l2
   rw [l1, l2]
   conv => rhs; rw [hL, t2]
   simp
  ·have := RIw (hRdC_rdr L) (one := clsRd) (key := kC) (s := hS0 L) (fun y hy => by rw [a0] at hy; cases hy) (rnV L 0 none 0 1024).toNat x
   exact this (by have e : rwS (hRdC L) clsRd kC (hS0 L) (rnV L 0 none 0 1024).toNat = (k2, none, cl) := s1; rw [e]; exact hx)
  have := RIw (hRdP_rdr L) (one := posRd) (key := kP) (s := hT0 L) (fun y hy => by rw [b0] at hy; cases hy) (rnV L (hS1 L).1 (hS1 L).2.1 0 65536).toNat x
  exact this (by have e : rwS (hRdP L) posRd kP (hT0 L) (rnV L (hS1 L).1 (hS1 L).2.1 0 65536).toNat = (k4, none, ps) := s2; rw [e]; exact hx)
 rw [if_neg hc] at h
 exact absurd h hc
theorem hldRV_nil {L : List Nat} (h : (hldRV L).2.2.1 ≠ 0) : (hldRV L).1 = [] ∧ (hldRV L).2.1 = [] := by
 unfold hldRV at h ⊢
 split
 ·exact ⟨rfl, rfl⟩
 rename_i h0
 split
 ·rename_i h1; rw [if_neg h0, if_pos h1] at h; exact absurd rfl h
 exact ⟨rfl, rfl⟩
theorem clB_min (x : I6) : 6 ≤ (clB x).length := nuB_min (clN x)
theorem poB_min (x : I6) : 6 ≤ (poB x).length := nuB_min (poN x)
theorem hldRV_len {L : List Nat} (hB : Byt L) (hL : L.length ≤ 1500) : (hldRV L).1.length ≤ 250 ∧ (hldRV L).2.1.length ≤ 250 := by
 by_cases h : (hldRV L).2.2.1 = 0
 ·obtain ⟨h1, h2, _⟩ := hldRV_back hB h
  have h3 : hldB (hldRV L).1 (hldRV L).2.1 = putL (hldRV L).1.length ++ (hldRV L).1.flatMap clB ++ (putL (hldRV L).2.1.length ++ (hldRV L).2.1.flatMap poB) := by unfold hldB; exact if_pos ((chkH_iff _ _).2 h1)
  have h4 := flat6_min clB_min (hldRV L).1
  have h5 := flat6_min poB_min (hldRV L).2.1
  have h6 := congrArg List.length h2
  rw [h3] at h6
  simp only [List.length_append] at h6
  omega
 rw [(hldRV_nil h).1, (hldRV_nil h).2]
 decide
theorem nuB_byt {l : List Int} : Byt (nuB l) := by
 intro x hx
 obtain ⟨n, _, h⟩ := List.mem_flatMap.1 hx
 exact byt_putL _ _ (Nat.le_refl _) x h
theorem hldB_byt (cl ps : List I6) : Byt (hldB cl ps) := by
 unfold hldB
 split
 ·intro x hx
  simp only [List.mem_append] at hx
  rcases hx with (h | h) | h | h
  ·exact byt_putL _ _ (Nat.le_refl _) x h
  ·obtain ⟨y, _, h⟩ := List.mem_flatMap.1 h
   exact nuB_byt x h
  ·exact byt_putL _ _ (Nat.le_refl _) x h
  obtain ⟨y, _, h⟩ := List.mem_flatMap.1 h
  exact nuB_byt x h
 intro x hx; cases hx
end
section
open Go.RowKit Go.ChangeShapes Go.WideShapes Go.Deep Go.Joins
section
variable {H : Type} {enc : TypeId × Value → H} {w : World} {base : Nat} {spare : Nat → Bool} {held : Bool}
theorem none_capH {P : Program} {t e : TypeId} {n c : Nat} {A : Option Addr} {x : DataW H × List MemPlace} {fuel : Nat} (ht : P.underlying t = some (.slice e)) (hf : DataW.trod enc P w base spare held fuel t [.slice A n c] = some x) : A = none → c = 0 := by
 intro hA
 subst hA
 rcases Go.Deep.open_slice ht hf with ⟨h0, _⟩ | ⟨a, len, cap, m, n', D, Pl, hcs, _⟩
 ·simp at h0; exact h0.2
 simp at hcs
theorem word_fitsH {x : Int} (h : Fits .u64 x) : Word x := by
 unfold Fits at h
 simp [Lit.wf, IntKind.min, IntKind.max, IntKind.bits, IntKind.signed] at h
 unfold Word
 omega
theorem act_rec {cs : List Value} {m : Nat} {y : DataW H × List MemPlace} (h : DataW.trod enc Tryz.prog w base spare held m 39 cs = some y) (hl : cs.length = 9) : ∃ x : I9, cs = actC x ∧ FitsA x := by
 obtain ⟨xs, n, _, rfl, _, hlen, hf⟩ := DataW.trod_struct Tryz.underlying39 h
 have ci : Tryz.prog.cellsOf 3 = 1 := by kernel_rfl
 have cu : Tryz.prog.cellsOf 32 = 1 := by kernel_rfl
 have ct : Tryz.prog.cellsOf 37 = 4 := by kernel_rfl
 have g0 := hf 0 _ rfl
 have g1 := hf 1 _ rfl
 have g2 := hf 2 _ rfl
 have g3 := hf 3 _ rfl
 have g4 := hf 4 _ rfl
 have g5 := hf 5 _ rfl
 match cs, hl with
 | [v0, v1, v2, v3, v4, v5, v6, v7, v8], _ =>
  match xs, hlen with
  | [y0, y1, y2, y3, y4, y5], _ =>
   simp [ci, cu, ct] at g0 g1 g2 g3 g4 g5
   obtain ⟨a, ha, _, wa⟩ := DataW.trod_int Tryz.underlying3 g0
   obtain ⟨o, ho, _, wo⟩ := DataW.trod_int Tryz.underlying3 g1
   obtain ⟨b, hb, w1, w2, w3, w4⟩ := rec4 (k0 := .i64) (k1 := .i64) (k2 := .i64) (k3 := .i64) Tryz.underlying37 (by kernel_rfl) Tryz.underlying3 Tryz.underlying3 Tryz.underlying3 Tryz.underlying3 g2 rfl
   obtain ⟨c, hc, _, wc⟩ := DataW.trod_int Tryz.underlying3 g3
   obtain ⟨d, hd, _, wd⟩ := DataW.trod_int Tryz.underlying3 g4
   obtain ⟨e, he, _, we⟩ := DataW.trod_int Tryz.underlying32 g5
   simp at ha ho hb hc hd he
   obtain ⟨rfl, rfl, rfl, rfl⟩ := hb
   subst ha; subst ho; subst hc; subst hd; subst he
   exact ⟨(a, o, b.1, b.2.1, b.2.2.1, b.2.2.2, c, d, e), rfl, wa, wo, w1, w2, w3, w4, wc, wd, word_fitsH we⟩
theorem open_hacts {n c : Nat} {A : Option Addr} {d : DataW H} {p : List MemPlace}
  (h : DataW.Trod enc Tryz.prog w base spare held 26 (.slice A n c) d p) : ∃ l : List I9, n = l.length ∧ Sl w 9 A l.length c (l.flatMap actC) ∧ (∀ x ∈ l, FitsA x) ∧ (A = none → c = 0) := by
 have h' := h
 obtain ⟨fuel, hf⟩ := h'
 obtain ⟨l, h1, h2, h3⟩ := open_rec (f := actC) (sz := 9) (Good := FitsA) Tryz.underlying26 (by kernel_rfl) (by decide) (fun cs m y h hl => act_rec h hl) h
 subst h2
 exact ⟨l, rfl, h1, h3, none_capH Tryz.underlying26 (show DataW.trod enc Tryz.prog w base spare held fuel 26 [.slice A l.length c] = some (d, p) by simpa [Value.cells] using hf)⟩
end
end
section
open Go.RowKit Go.ChangeShapes Go.WideShapes Go.Deep Go.Joins
theorem CutJ.skip {cl CL : List I6} {v h p N : Int} {k : Nat} {LS : List I5} {c : I6} (H : CutJ cl v h p k CL LS N) (hc : cl[k]? = some c) (hb : bkC c v h = false) : CutJ cl v h p (k + 1) (CL ++ [c]) LS N := by
 refine ⟨?_, ?_, H.en⟩
 ·rw [H.ecl, take_one hc]; unfold cutCs; rw [List.filterMap_append]; simp [cutC_skip hb]
 rw [H.els, take_one hc]; unfold losCs; rw [List.filterMap_append]; simp [losC_skip hb]
end
section
open Go.RowKit
def OwnN (w : World) (base : Nat) (v : Value) (n : Nat) (L : List Nat) : Prop := w.ownsRow base 5 1 v n (by_ L)
theorem OwnN.ext {w w' : World} {base n : Nat} {v : Value} {L : List Nat} (h : OwnN w base v n L) (hx : Ext w w') : OwnN w' base v n L := own_keep h hx
theorem OwnN.sl {w : World} {base n c : Nat} {A : Option Addr} {L : List Nat} (h : OwnN w base (.slice A n c) n L) : Sl w 1 A n c (by_ L) := Sl.own h
theorem own_out {w : World} {L : List Nat} {E : Int} {r : Ending} {w' : World} (h : ByErr L E w r w') : ∃ A c, r = .returned (.tuple #[.slice A L.length c, .int .i64 E]) ∧ (A = none → c = 0) ∧ OwnN w' w.heap.size (.slice A L.length c) L.length L ∧ Ext w w' := by
 obtain ⟨v, rfl, hown, hx⟩ := h
 obtain ⟨A, c, rfl, h1, h2⟩ := own_parts2 hown
 exact ⟨A, c, rfl, h1, hown, hx⟩
end
section
open Go.RowKit Go.ChangeShapes Go.WideShapes Go.Deep Go.Joins
theorem kSameHolding_eq (n c n2 c2 m d m2 d2 : Nat) (A A2 B B2 : Option Addr) (cl ps cl' ps' : List I6) (w : World) (h : Sl w 6 A n c (cl.flatMap clsC)) (h2 : Sl w 6 A2 n2 c2 (ps.flatMap posC)) (h3 : Sl w 6 B m d (cl'.flatMap clsC)) (h4 : Sl w 6 B2 m2 d2 (ps'.flatMap posC)) (e1 : cl = cl') (e2 : ps = ps') :
  Calls Tryz.prog 18 #[.agg #[.slice A n c, .slice A2 n2 c2], .agg #[.slice B m d, .slice B2 m2 d2]] w fun r w' => r = .returned (.bool true) ∧ Ext w w' := by
 have h9 := kSameHolding_any n c n2 c2 m d m2 d2 A A2 B B2 cl ps cl' ps' w h h2 h3 h4
 rw [decide_eq_true e1, decide_eq_true e2] at h9
 exact h9
theorem hBytes_z (n c n2 c2 : Nat) (A A2 : Option Addr) (cl ps : List I6) (BL : List Nat) (be : Int) (w : World) (h : Sl w 6 A n c (cl.flatMap clsC)) (h2 : Sl w 6 A2 n2 c2 (ps.flatMap posC)) (hn : n = cl.length) (hn2 : n2 = ps.length) (hm : n ≤ 1024) (hm2 : n2 ≤ 1024) (hw : ∀ x ∈ cl, WdC x) (hw2 : ∀ x ∈ ps, WdP x) (hF : (BL, be) = (hldB cl ps, chkH cl ps)) :
  Calls Tryz.prog 56 #[.agg #[.slice A n c, .slice A2 n2 c2]] w fun r w' => ∃ A c, r = .returned (.tuple #[.slice A BL.length c, .int .i64 be]) ∧ (A = none → c = 0) ∧ OwnN w' w.heap.size (.slice A BL.length c) BL.length BL ∧ Ext w w' := by
 obtain ⟨h1, h3⟩ := Prod.mk.inj hF
 rw [h1, h3]
 exact (hBytes_any n c n2 c2 A A2 cl ps w h h2 hn hn2 hm hm2 hw hw2).mono fun r w' h => own_out h
theorem HoldingBack_long (A A1 : Option Addr) (c n c1 n1 : Nat) (w : World) (hl : ¬ n ≤ 30 ∨ ¬ n1 ≤ 1500) (hs : n ≤ 9223372036854775807) (hs1 : n1 ≤ 9223372036854775807) :
  Calls Tryz.prog 10 #[.slice A n c, .slice A1 n1 c1] w fun r w' => r = .returned (.bool true) ∧ Ext w w' := by
 go_enter Tryz.func10, Tryz.ntmps10
 go_wp2_with fail
 (with_reducible refine (known13_any _).mono ?_)
 rintro e w1 ⟨rfl, hx1⟩
 have z1 := hx1.size
 try simp at z1
 have X1 : Hid (Ext w w1) := Lib.hid (Ext.trans zxt hx1)
 clear hx1 z1
 by_cases h0 : (30 : Int) < (n : Int)
 ·skip
  go_wp2_with fail
  go_ret
  exact ⟨rfl, zxt⟩
 have h1 : (1500 : Int) < (n1 : Int) := by omega
 go_wp2_with fail
 go_ret
 exact ⟨rfl, zxt⟩
theorem HoldingBack_main (AL : Option Addr) (cL : Nat) (acts : List I9) (A0 : Option Addr) (c0 : Nat) (M : List Nat) (w : World) (hL : Sl w 9 AL acts.length cL (acts.flatMap actC)) (fA : ∀ x ∈ acts, FitsA x) (hb : Sl w 1 A0 M.length c0 (by_ M)) (hM : Byt M) (hnil : A0 = none → c0 = 0) (hl : acts.length ≤ 30) (hl0 : M.length ≤ 1500) :
  Calls Tryz.prog 10 #[.slice AL acts.length cL, .slice A0 M.length c0] w fun r w' => r = .returned (.bool true) ∧ Ext w w' := by
 have hMd : ¬ (30 : Int) < (acts.length : Int) := by omega
 have hMe : ¬ (1500 : Int) < (M.length : Int) := by omega
 have HL := Lib.hid hL
 have HB := Lib.hid hb
 have HF := Lib.hid fA
 have HM := Lib.hid hM
 have HN0 := Lib.hid hnil
 obtain ⟨⟨P1, P2, pe, pa⟩, hP⟩ : ∃ z, z = hldRV M := ⟨_, rfl⟩
 have HP0 := Lib.hid hP
 have hpl := hldRV_len hM hl0
 rw [← hP] at hpl
 simp only at hpl
 obtain ⟨hp1, hp2⟩ := hpl
 have HPZ := Lib.hid (show pe ≠ 0 → P1 = [] ∧ P2 = [] from fun hh => by have h9 := hldRV_nil (L := M); rw [← hP] at h9; exact h9 hh)
 have HPK := Lib.hid (show pe = 0 → HOk P1 P2 ∧ hldB P1 P2 = M ∧ pa = 0 ∧ (∀ x ∈ P1, WdC x) ∧ (∀ x ∈ P2, WdP x) from fun hh => by have h9 := hldRV_back hM; rw [← hP] at h9; exact h9 hh)
 have hl9 : acts.length ≤ 100 := by omega
 have qn := flt_neq
 have qg := flt_eqg
 clear hL hb fA hM hP hnil hl hl0
 go_enter Tryz.func10, Tryz.ntmps10
 go_wp2_with fail
 (with_reducible refine (known13_any _).mono ?_)
 rintro e w1 ⟨rfl, hx1⟩
 have z1 := hx1.size
 try simp at z1
 replace HL := Lib.hid (HL.out.ext (Ext.trans zxt hx1))
 replace HB := Lib.hid (HB.out.ext (Ext.trans zxt hx1))
 have X1 : Hid (Ext w w1) := Lib.hid (Ext.trans zxt hx1)
 clear hx1
 go_wp2_with fail
 (with_reducible refine (made13_any AL cL acts _ (HL.out.ext zxt) HF.out hl9).mono ?_)
 rintro e w2 ⟨cl, ps, B, B2, d, d2, rfl, ⟨hok, hwd, hwd2⟩, hlC, hlP, nB, nB2, hO, hP, hx2⟩
 have z2 := hx2.size
 try simp at z2
 replace HB := Lib.hid (HB.out.ext (Ext.trans zxt hx2))
 have X2 : Hid (Ext w w2) := Lib.hid (Ext.trans zxt hx2)
 have HO := Lib.hid hO
 have HP := Lib.hid hP
 clear HL X1 hx2 hO hP
 have hlC2 : cl.length ≤ 30 := by omega
 have hlP2 : ps.length ≤ 30 := by omega
 have hc : chkH cl ps = 0 := (chkH_iff cl ps).2 hok
 obtain ⟨BL, hBL⟩ : ∃ l, l = hldB cl ps := ⟨_, rfl⟩
 have F1 := Lib.hid (show (BL, (0 : Int)) = (hldB cl ps, chkH cl ps) from by rw [hBL, hc])
 have F2 := Lib.hid (show (cl, ps, (0 : Int), (0 : Int)) = hldRV BL from by rw [hBL]; exact (hldRV_put hok hwd hwd2 (by omega)).symm)
 have HBB := Lib.hid (show Byt BL from by rw [hBL]; exact hldB_byt cl ps)
 have hbl : BL.length < 1099511627776 := by
  have h9 := (hld_fit hok hwd hwd2 (by omega) (by omega) cl.length ps.length).2
  rw [hBL]
  unfold hldB
  rw [if_pos hc]
  rw [List.take_length] at h9
  omega
 have HWD := Lib.hid (And.intro hwd hwd2)
 clear hok hwd hwd2 hlC hlP hc hBL
 go_wp2_with fail
 (with_reducible refine (hBytes_z cl.length d ps.length d2 B B2 cl ps BL 0 _ (OwnCls.sl (HO.out.ext zxt)) (OwnPos.sl (HP.out.ext zxt)) rfl rfl (by omega) (by omega) HWD.out.1 HWD.out.2 F1.out).mono ?_)
 rintro e w3 ⟨A1, c1, rfl, nA1, hO, hx3⟩
 have c0_0 : w3.cell? ⟨w2.heap.size, 0, none⟩ = some (.slice B cl.length d) := hx3.has zcv
 have c0_1 : w3.cell? ⟨w2.heap.size, 1, none⟩ = some (.slice B2 ps.length d2) := hx3.has zcv
 have z3 := hx3.size
 try simp at z3
 have rc0 := zr w2.heap.size w3
 replace HB := Lib.hid (HB.out.ext (Ext.trans zxt hx3))
 replace HO := Lib.hid (HO.out.ext (Ext.trans zxt hx3))
 replace HP := Lib.hid (HP.out.ext (Ext.trans zxt hx3))
 have X3 : Hid (Ext w w3) := Lib.hid (Ext.trans zxt hx3)
 have HX := Lib.hid hO
 clear X2 hx3 hO
 go_wp2_with fail
 (with_reducible refine (hRead_any A1 c1 BL HBB.out hbl nA1 cl ps 0 0 F2.out _ ((HX.out.ext zxt)).sl).mono ?_)
 rintro e w4 ⟨B3, d3, B4, d4, rfl, nB3, nB4, hO3, hO4, hx4⟩
 replace c0_0 := zh hx4 c0_0
 replace c0_1 := zh hx4 c0_1
 have z4 := hx4.size
 try simp at z4
 replace rc0 := zr w2.heap.size w4
 replace HB := Lib.hid (HB.out.ext (Ext.trans zxt hx4))
 replace HO := Lib.hid (HO.out.ext (Ext.trans zxt hx4))
 replace HP := Lib.hid (HP.out.ext (Ext.trans zxt hx4))
 replace HX := Lib.hid (HX.out.ext (Ext.trans zxt hx4))
 have X4 : Hid (Ext w w4) := Lib.hid (Ext.trans zxt hx4)
 have HG := Lib.hid hO3
 have HI := Lib.hid hO4
 clear X3 hx4 hO3 hO4
 go_wp2_with fail
 (with_reducible refine (kSameHolding_eq cl.length d ps.length d2 cl.length d3 ps.length d4 B B2 B3 B4 cl ps cl ps _ (OwnCls.sl (HO.out.ext zxt)) (OwnPos.sl (HP.out.ext zxt)) (OwnCls.sl (HG.out.ext zxt)) (OwnPos.sl (HI.out.ext zxt)) rfl rfl).mono ?_)
 rintro e w5 ⟨rfl, hx5⟩
 have z5 := hx5.size
 try simp at z5
 replace HB := Lib.hid (HB.out.ext (Ext.trans zxt hx5))
 have X5 : Hid (Ext w w5) := Lib.hid (Ext.trans zxt hx5)
 clear c0_0 c0_1 rc0 HG HI HO HP HX X4 hx5
 go_wp2_with fail
 (with_reducible refine (hRead_any A0 c0 M HM.out (by omega) HN0.out P1 P2 pe pa HP0.out _ (HB.out.ext zxt)).mono ?_)
 rintro e w6 ⟨B5, d5, B6, d6, rfl, nB5, nB6, hO5, hO6, hx6⟩
 have z6 := hx6.size
 try simp at z6
 replace HB := Lib.hid (HB.out.ext (Ext.trans zxt hx6))
 have X6 : Hid (Ext w w6) := Lib.hid (Ext.trans zxt hx6)
 have HJ := Lib.hid hO5
 have HK := Lib.hid hO6
 clear X5 hx6 hO5 hO6
 by_cases hpe : ¬ pe = 0
 ·have hpb : (pe != 0) = true := by simpa using hpe
  have HE := Lib.hid (HPZ.out hpe)
  go_wp2_with fail
  (with_reducible refine (kSameHolding_eq P1.length d5 P2.length d6 0 0 0 0 B5 B6 none none P1 P2 [] [] _ (OwnCls.sl (HJ.out.ext zxt)) (OwnPos.sl (HK.out.ext zxt)) (OwnCls.sl (OwnCls.nil _ 0)) (OwnPos.sl (OwnPos.nil _ 0)) HE.out.1 HE.out.2).mono ?_)
  rintro e w7 ⟨rfl, hx7⟩
  have z7 := hx7.size
  try simp at z7
  replace HB := Lib.hid (HB.out.ext (Ext.trans zxt hx7))
  replace HJ := Lib.hid (HJ.out.ext (Ext.trans zxt hx7))
  replace HK := Lib.hid (HK.out.ext (Ext.trans zxt hx7))
  have X7 : Hid (Ext w w7) := Lib.hid (Ext.trans zxt hx7)
  clear X6 hx7
  go_wp2_with fail
  go_ret
  exact ⟨rfl, zxt⟩
 have hpb : (pe != 0) = false := by simpa using hpe
 replace hpe : pe = 0 := by omega
 obtain ⟨q1, q2, q3, q4, q5⟩ := HPK.out hpe
 have HE := Lib.hid (show (M, (0 : Int)) = (hldB P1 P2, chkH P1 P2) ∧ (∀ x ∈ P1, WdC x) ∧ (∀ x ∈ P2, WdP x) from ⟨by rw [q2, (chkH_iff P1 P2).2 q1], q4, q5⟩)
 clear q1 q2 q3 q4 q5 hpe
 go_wp2_with fail
 (with_reducible refine (hBytes_z P1.length d5 P2.length d6 B5 B6 P1 P2 M 0 _ (OwnCls.sl (HJ.out.ext zxt)) (OwnPos.sl (HK.out.ext zxt)) rfl rfl (by omega) (by omega) HE.out.2.1 HE.out.2.2 HE.out.1).mono ?_)
 rintro e w7 ⟨A7, c7, rfl, nA7, hO, hx7⟩
 have z7 := hx7.size
 try simp at z7
 replace HB := Lib.hid (HB.out.ext (Ext.trans zxt hx7))
 replace HJ := Lib.hid (HJ.out.ext (Ext.trans zxt hx7))
 replace HK := Lib.hid (HK.out.ext (Ext.trans zxt hx7))
 have X7 : Hid (Ext w w7) := Lib.hid (Ext.trans zxt hx7)
 have HY := Lib.hid hO
 clear X6 hx7 hO
 go_wp2_with fail
 (with_reducible refine (kSameBytes_eq A7 A0 _ c7 _ c0 M HM.out _ ((HY.out.ext zxt)).sl (HB.out.ext zxt)).mono ?_)
 rintro e w_1 ⟨rfl, rfl⟩
 go_wp2_with fail
 go_ret
 exact ⟨rfl, zxt⟩
theorem HoldingBack_any (AL : Option Addr) (cL : Nat) (acts : List I9) (A0 : Option Addr) (c0 : Nat) (M : List Nat) (w : World) (hL : Sl w 9 AL acts.length cL (acts.flatMap actC)) (fA : ∀ x ∈ acts, FitsA x) (gA : AL = none → cL = 0) (hb : Sl w 1 A0 M.length c0 (by_ M)) (hM : Byt M) (hnil : A0 = none → c0 = 0) :
  Calls Tryz.prog 10 #[.slice AL acts.length cL, .slice A0 M.length c0] w fun r w' => r = .returned (.bool true) ∧ Ext w w' := by
 by_cases hl : acts.length ≤ 30 ∧ M.length ≤ 1500
 ·exact HoldingBack_main AL cL acts A0 c0 M w hL fA hb hM hnil hl.1 hl.2
 exact HoldingBack_long AL A0 cL acts.length c0 M.length w (by omega) hL.small hb.small
end
end Go.Proofs.YtkinchgjidpjnaaGreat
