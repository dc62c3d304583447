/- Bytes: what came in, what is handed back, that they are bytes; the kit's SameBytes. Conditions stand in each lemma. -/
import Derived.Test.YtlgjdeggbcgbnaaCodecM
import Derived.Test.YtlgjdeggbcgbnaaOpen
import Derived.Laws.BytesArg
set_option linter.unusedVariables false
set_option linter.unusedSimpArgs false
namespace Go.Proofs.Ytlgjdeggbcgbnaa
open Go.RowKit Go.ChangeShapes Go.WideShapes
def bs_ (L : List Nat) : List Int := L.map fun (x : Nat) => (x : Int)
theorem bs_inj {L M : List Nat} (hL : Byt L) (hM : Byt M) (h : strOfNums (bs_ L) = strOfNums (bs_ M)) : L = M := by
  have h1 := congrArg (fun s : ByteArray => s.data.toList.map fun u => u.toNat) h
  simp only [strOfNums_data, bs_, List.map_map] at h1
  have e : ∀ K : List Nat, Byt K → K.map ((fun u : UInt8 => u.toNat) ∘ (fun n : Int => UInt8.ofNat n.toNat) ∘ fun (x : Nat) => (x : Int)) = K := by
    intro K hK
    induction K with
    | nil => rfl
    | cons x K ih =>
      have hx := hK x (List.mem_cons_self ..)
      rw [List.map_cons, ih fun y hy => hK y (List.mem_cons_of_mem _ hy)]
      simp
      omega
  rw [e L hL, e M hM] at h1
  exact h1
theorem conv_by {A : Option Addr} {n c : Nat} {L : List Nat} {w : World} (h : Sl w 1 A n c (by_ L)) :
    (convert 40 9 (.slice A n c)).run Try.prog w = .ok (.string (strOfNums (bs_ L))) w := by
  have hl : L.length = n := by simpa [by_] using h.len
  cases n with
  | zero =>
    have hL : L = [] := List.eq_nil_of_length_eq_zero hl
    subst hL
    cases A with
    | none =>
      rw [run_convert_bytes_nil w 40 5 (by kernel_rfl) (by kernel_rfl) 0 c 9 (by kernel_rfl)]
      rfl
    | some a =>
      rw [run_convert_bytes_string w 40 9 5 (some a) 0 c (by kernel_rfl) (by kernel_rfl) (by kernel_rfl), run_bytesToString w a 0 c [] (by
        have := run_loadCells_list (P := Try.prog) w a [] (fun j v hj => by simp at hj)
        simpa using this)]
      rfl
  | succ m =>
    obtain ⟨b, o, rfl, hb, hc⟩ := h.at_ (Nat.succ_pos m)
    refine run_convert_bytes_arg w 40 5 (by kernel_rfl) (by kernel_rfl) b o (m + 1) c (bs_ L) (by simpa [bs_] using hl) (fun i hi => ?_) 9 (by kernel_rfl)
    refine hc i _ ?_
    have hi' : i < L.length := by omega
    simp [by_, bs_, List.getD, hi']
theorem kSameBytes_any (A B : Option Addr) (n c m d : Nat) (L M : List Nat) (hL : Byt L) (hM : Byt M) (w : World) (h1 : Sl w 1 A n c (by_ L)) (h2 : Sl w 1 B m d (by_ M)) :
    Calls Try.prog 26 #[.slice A n c, .slice B m d] w fun r w' => r = .returned (.bool (decide (L = M))) ∧ w = w' := by
  have c1 := conv_by h1
  have c2 := conv_by h2
  have he : ((strOfNums (bs_ L)).toList == (strOfNums (bs_ M)).toList) = decide (L = M) := by
    rw [ByteArray.toList_eq, ByteArray.toList_eq]
    by_cases h : L = M
    · subst h
      simp
    · rw [decide_eq_false h]
      exact beq_false_of_ne fun e => h (bs_inj hL hM (by
        have := congrArg List.toArray e
        exact ByteArray.ext (by simpa using e)))
  go_enter Try.func26, Try.ntmps26
  go_wp2
  go_ret
  exact ⟨by simp [he], rfl⟩
theorem own_parts2 {w : World} {base : Nat} {e : TypeId} {sz n : Nat} {v : Value} {xs : List Value} (h : w.ownsRow base e sz v n xs) : ∃ A c, v = .slice A n c ∧ (A = none → c = 0) ∧ Sl w sz A n c xs := by
  rcases h.2 with ⟨rfl, rfl⟩ | ⟨g, cap, cur, rfl, rest⟩
  · exact ⟨_, _, rfl, fun _ => rfl, Sl.own h⟩
  · refine ⟨_, _, rfl, ?_, Sl.own h⟩
    intro hh
    cases hh
theorem byt_putL : ∀ (b n : Nat), n ≤ b → Byt (putL n) := by
  intro b
  induction b with
  | zero => intro n hn; rw [putL_lt (by omega)]; intro x hx; simp at hx; omega
  | succ b ih =>
    intro n hn
    by_cases h : n < 128
    · rw [putL_lt h]; intro x hx; simp at hx; omega
    · rw [putL_ge h]
      intro x hx
      rcases List.mem_cons.1 hx with rfl | hx
      · omega
      · exact ih (n / 128) (by omega) x hx
theorem kSameBytes_eq (A B : Option Addr) (n c m d : Nat) (L : List Nat) (hL : Byt L) (w : World) (h1 : Sl w 1 A n c (by_ L)) (h2 : Sl w 1 B m d (by_ L)) :
    Calls Try.prog 26 #[.slice A n c, .slice B m d] w fun r w' => r = .returned (.bool true) ∧ w = w' := by
  refine (kSameBytes_any A B n c m d L L hL hL w h1 h2).mono ?_
  rintro r w' ⟨rfl, rfl⟩
  exact ⟨by simp, rfl⟩
/-- bytes that came in -/
theorem open_bytes {H : Type} {enc : TypeId × Value → H} {w : World} {base : Nat} {spare : Nat → Bool} {held : Bool} {n c : Nat} {A : Option Addr} {d : DataW H} {p : List MemPlace}
    (h : DataW.Trod enc Try.prog w base spare held 40 (.slice A n c) d p) : ∃ M : List Nat, n = M.length ∧ Sl w 1 A M.length c (by_ M) ∧ Byt M ∧ (A = none → c = 0) := by
  have hlt : ∀ x ∈ p, x.block < w.heap.size := by obtain ⟨m, hm⟩ := h; exact DataW.trod_lt m _ _ _ hm
  obtain ⟨l, hs, hf⟩ := open_sl Try.underlying40 Try.underlying5 (by kernel_rfl) h hlt
  have hl := hs.ilen
  have hb : ∀ x ∈ l, 0 ≤ x ∧ x < 256 := fun x hx => by
    have := hf x hx
    unfold Fits at this
    have := bounds_u8 (n := x) this
    omega
  have e : by_ (l.map Int.toNat) = iv .u8 l := by
    unfold by_ iv
    rw [List.map_map]
    apply List.map_congr_left
    intro x hx
    have := hb x hx
    simp only [Function.comp]
    rw [Int.toNat_of_nonneg this.1]
  refine ⟨l.map Int.toNat, by simpa using hl.symm, ?_, ?_, ?_⟩
  · rw [e, List.length_map, hl]; exact hs
  · intro x hx
    obtain ⟨y, hy, rfl⟩ := List.mem_map.1 hx
    have := hb y hy
    omega
  · intro hA
    subst hA
    obtain ⟨fuel, hf⟩ := h
    rcases Go.Deep.open_slice Try.underlying40 (show DataW.trod enc Try.prog w base spare held fuel 40 [.slice none n c] = some _ by simpa [Value.cells] using hf) with ⟨h0, _⟩ | ⟨a, len, cap, m, n', D, Pl, hcs, _⟩
    · simp at h0; exact h0.2
    · simp at hcs
end Go.Proofs.Ytlgjdeggbcgbnaa
