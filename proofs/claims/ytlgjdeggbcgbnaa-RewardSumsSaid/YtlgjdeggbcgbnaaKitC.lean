/- Rows of bytes of one's own; the kit's OverBytes, KeptBytes. Conditions stand in each lemma. -/
import Derived.Test.YtlgjdeggbcgbnaaKitB
import Derived.Test.YtlgjdeggbcgbnaaLow
set_option linter.unusedVariables false
set_option linter.unusedSimpArgs false
namespace Go.Proofs.Ytlgjdeggbcgbnaa
open Go.RowKit

/-- a row of bytes of one's own -/
def OwnN (w : World) (base : Nat) (v : Value) (n : Nat) (L : List Nat) : Prop := w.ownsRow base 5 1 v n (by_ L)
theorem OwnN.ext {w w' : World} {base n : Nat} {v : Value} {L : List Nat} (h : OwnN w base v n L) (hx : Ext w w') : OwnN w' base v n L := own_keep h hx
theorem OwnN.sl {w : World} {base n c : Nat} {A : Option Addr} {L : List Nat} (h : OwnN w base (.slice A n c) n L) : Sl w 1 A n c (by_ L) := Sl.own h
theorem OwnN.in_ {w : World} {base n c : Nat} {A : Option Addr} {L : List Nat} (h : OwnN w base (.slice A n c) n L) : ∀ k o s, A = some ⟨k, o, s⟩ → base ≤ k ∧ k < w.heap.size := by
  intro k o s e'
  subst e'
  exact World.ownsRow.lt h k rfl
theorem Sl.butS {w w' : World} {sz n c : Nat} {A : Option Addr} {xs : List Value} {S : Nat → Prop} (h : Sl w sz A n c xs) (hb : But S w w') (hne : 0 < n → ∀ b o s, A = some ⟨b, o, s⟩ → ¬ S b) : Sl w' sz A n c xs :=
  ⟨h.1, h.2.1, h.2.2.1, fun hn => by
    obtain ⟨b, o, e, hb2, hc⟩ := h.2.2.2 hn
    have := hb.size
    exact ⟨b, o, e, by omega, fun j u hu => (hb.cell hb2 (hne hn b o none e)).trans (hc j u hu)⟩⟩
theorem own_out {w : World} {L : List Nat} {E : Int} {r : Ending} {w' : World} (h : ByErr L E w r w') : ∃ A c, r = .returned (.tuple #[.slice A L.length c, .int .i64 E]) ∧ (A = none → c = 0) ∧ OwnN w' w.heap.size (.slice A L.length c) L.length L ∧ Ext w w' := by
  obtain ⟨v, rfl, hown, hx⟩ := h
  obtain ⟨A, c, rfl, h1, h2⟩ := own_parts2 hown
  exact ⟨A, c, rfl, h1, hown, hx⟩
theorem kOverBytes_own (A : Option Addr) (c : Nat) (L : List Nat) (hB : Byt L) (base : Nat) (w : World) (h : OwnN w base (.slice A L.length c) L.length L) :
    Calls Try.prog 27 #[.slice A L.length c] w fun r w' => (∃ v, r = .returned v) ∧ But (fun k => ∃ o s, A = some ⟨k, o, s⟩) w w' := by
  rcases h.2 with ⟨h', h0⟩ | ⟨g, cap, cur, h', hbg, _⟩
  · injection h' with h1 h2 h3
    subst h1; subst h3
    rw [h2]
    go_enter Try.func27, Try.ntmps27
    go_wp2
    go_loopg [2] 0 (fun gh i wx => i = .int .i64 0 ∧ wx = w)
    case atStart => exact ⟨rfl, rfl⟩
    case round =>
      obtain ⟨rfl, rfl⟩ := hrel
      go_wp2
      go_end0
      exact ⟨⟨_, rfl⟩, But.refl _ _⟩
  · injection h' with h1 h2 h3
    subst h1; subst h3
    refine (kOverBytes_some g c L hB base w h).mono ?_
    rintro r w' ⟨h1, h2⟩
    exact ⟨h1, h2.mono fun k _ hk => ⟨0, none, by have hk2 : k = g := hk; rw [hk2]⟩⟩
theorem kKeptBytes_own (g cap : Nat) (A : Option Addr) (c : Nat) (L : List Nat) (base : Nat) (w : World) (h : OwnN w base (.slice (some ⟨g, 0, none⟩) (L.length + 4) cap) (L.length + 4) (L ++ lentT)) (hb : Sl w 1 A L.length c (by_ L)) :
    Calls Try.prog 31 #[.slice (some ⟨g, 0, none⟩) L.length cap, .slice A L.length c] w fun r w' => r = .returned (.bool true) ∧ Ext w w' := kKeptBytes_any g cap A c L base w h hb
/-- what was lent reads as the bytes -/
theorem lent_sl {w : World} {base g cap : Nat} {L : List Nat} (h : OwnN w base (.slice (some ⟨g, 0, none⟩) (L.length + 4) cap) (L.length + 4) (L ++ lentT)) : Sl w 1 (some ⟨g, 0, none⟩) L.length cap (by_ L) := by
  have := (Sl.own h).take (m := L.length) (by omega)
  rw [Nat.mul_one] at this
  rwa [show (by_ (L ++ lentT)).take L.length = by_ L from by rw [← by_append, List.take_left' (by_len L)]] at this
theorem lent_slR {w : World} {base g cap : Nat} {L : List Nat} (h : w.ownsRow base 5 1 (.slice (some ⟨g, 0, none⟩) (L.length + 4) cap) (L.length + 4) (by_ (L ++ lentT))) : Sl w 1 (some ⟨g, 0, none⟩) L.length cap (by_ L) := lent_sl h
theorem byt_append {L M : List Nat} (h : Byt L) (k : Byt M) : Byt (L ++ M) := by
  intro x hx
  rcases List.mem_append.1 hx with hx | hx
  · exact h x hx
  · exact k x hx
theorem byt_flat {α : Type} {f : α → List Nat} {l : List α} (h : ∀ x ∈ l, Byt (f x)) : Byt (l.flatMap f) := by
  intro y hy
  obtain ⟨x, hx, hxy⟩ := List.mem_flatMap.1 hy
  exact h x hx y hxy
theorem byt_nil : Byt [] := by intro x hx; simp at hx
theorem byt_put (n : Nat) : Byt (putL n) := byt_putL n n (Nat.le_refl _)
end Go.Proofs.Ytlgjdeggbcgbnaa
