/- active: the methods of the heap of amounts, over a row that lies in memory. Conditions stand in each lemma. -/
import Derived.Test.YtplmgcbjfmdebaaBase
import Derived.Test.YtplmgcbjfmdebaaAct2
import Derived.Test.YtplmgcbjfmdebaaCur
set_option linter.unusedVariables false
set_option linter.unusedSimpArgs false
namespace Go.Proofs.Ytplmgcbjfmdebaa
open Go.RowKit Go.Shelf Go.ChangeShapes Go.WideShapes Go.Deep

theorem method_step {P : Program} (fuel : Nat) (t : TypeId) (v : Value) (name : String) (i : TypeInfo) (m : Method) (w : World) (hi : P.info? t = some i) (hm : Array.find? (fun x => x.name == name) i.methods = some m) :
    (method (fuel + 1) t v name).run P w = (do
      let (xt, x) ← follow m.path.toList t (.val v)
      match m.func with
      | none =>
        match ← x.get xt with
        | .iface t' v' => method fuel t' v' name
        | .nilIface => runtimePanic .nilDeref
        | _ => stuck "method row: interface value expected"
      | some (f, pointerReceiver) =>
        pure (f, ← receiverAt xt x pointerReceiver (if m.path.isEmpty then some ((name.splitOn ".").getLastD name) else none)) : Sem (FuncId × Value)).run P w := by
  have ht : (typeInfo t).run P w = .ok i w := by simp [typeInfo, go_sem, hi]
  rw [method, Sem.run_bind, ht]
  simp [Result.andThen, hm]
  rfl
set_option maxRecDepth 100000 in
theorem iRich : Try.prog.info? 52 = some Try.t52 := by kernel_rfl
theorem fLen : ∃ m, Array.find? (fun x => x.name == "Len") Try.t52.methods = some m ∧ m.path = #[⟨56, 0, true⟩] ∧ m.func = some (42, false) := ⟨{ name := "Len", sig := (Try.t52.methods[0]?.map (·.sig)).getD 0, path := #[⟨56, 0, true⟩], func := some (42, false) }, by kernel_rfl, rfl, rfl⟩
theorem fSwap : ∃ m, Array.find? (fun x => x.name == "Swap") Try.t52.methods = some m ∧ m.path = #[⟨56, 0, true⟩] ∧ m.func = some (78, false) := ⟨{ name := "Swap", sig := (Try.t52.methods[4]?.map (·.sig)).getD 0, path := #[⟨56, 0, true⟩], func := some (78, false) }, by kernel_rfl, rfl, rfl⟩
theorem fLess : ∃ m, Array.find? (fun x => x.name == "Less") Try.t52.methods = some m ∧ m.path = #[] ∧ m.func = some (75, false) := ⟨{ name := "Less", sig := (Try.t52.methods[1]?.map (·.sig)).getD 0, path := #[], func := some (75, false) }, by kernel_rfl, rfl, rfl⟩
theorem fPush : ∃ m, Array.find? (fun x => x.name == "Push") Try.t52.methods = some m ∧ m.path = #[] ∧ m.func = some (77, true) := ⟨{ name := "Push", sig := (Try.t52.methods[3]?.map (·.sig)).getD 0, path := #[], func := some (77, true) }, by kernel_rfl, rfl, rfl⟩
theorem fPop : ∃ m, Array.find? (fun x => x.name == "Pop") Try.t52.methods = some m ∧ m.path = #[] ∧ m.func = some (76, true) := ⟨{ name := "Pop", sig := (Try.t52.methods[2]?.map (·.sig)).getD 0, path := #[], func := some (76, true) }, by kernel_rfl, rfl, rfl⟩
theorem mLen (g : Nat) (A : Option Addr) (n c : Nat) (w : World) (h : w.cell? ⟨g, 0, none⟩ = some (.slice A n c)) : (method 203 52 (.pointer (some ⟨g, 0, none⟩)) "Len").run Try.prog w = .ok (42, .slice A n c) w := by
  obtain ⟨m, hm, hp, hf⟩ := fLen
  show (method ((203 - 1) + 1) 52 (.pointer (some ⟨g, 0, none⟩)) "Len").run Try.prog w = _
  rw [method_step _ _ _ _ _ _ _ iRich hm, hp, hf]
  simp [follow, receiverAt, Place.get, go_sem, h, fieldPlace, loadVar, asAddr]
theorem mSwap (g : Nat) (A : Option Addr) (n c : Nat) (w : World) (h : w.cell? ⟨g, 0, none⟩ = some (.slice A n c)) : (method 203 52 (.pointer (some ⟨g, 0, none⟩)) "Swap").run Try.prog w = .ok (78, .slice A n c) w := by
  obtain ⟨m, hm, hp, hf⟩ := fSwap
  show (method ((203 - 1) + 1) 52 (.pointer (some ⟨g, 0, none⟩)) "Swap").run Try.prog w = _
  rw [method_step _ _ _ _ _ _ _ iRich hm, hp, hf]
  simp [follow, receiverAt, Place.get, go_sem, h, fieldPlace, loadVar, asAddr]
theorem mLess (g : Nat) (A : Option Addr) (n c : Nat) (w : World) (h : w.cell? ⟨g, 0, none⟩ = some (.slice A n c)) : (method 203 52 (.pointer (some ⟨g, 0, none⟩)) "Less").run Try.prog w = .ok (75, .agg #[.slice A n c]) w := by
  obtain ⟨m, hm, hp, hf⟩ := fLess
  show (method ((203 - 1) + 1) 52 (.pointer (some ⟨g, 0, none⟩)) "Less").run Try.prog w = _
  rw [method_step _ _ _ _ _ _ _ iRich hm, hp, hf]
  have hw : ∀ s w, (Builtin.ssaWrapNilChk_ #[52] 52 #[Value.pointer (some ⟨g, 0, none⟩), strVal "", strVal s]).run Try.prog w = .ok (.pointer (some ⟨g, 0, none⟩)) w := fun _ _ => rfl
  simp [follow, receiverAt, Place.get, go_sem, h, fieldPlace, loadVar, asAddr, hw]
theorem mPush (a : Addr) (w : World) : (method 203 52 (.pointer (some a)) "Push").run Try.prog w = .ok (77, .pointer (some a)) w := by
  obtain ⟨m, hm, hp, hf⟩ := fPush
  show (method ((203 - 1) + 1) 52 (.pointer (some a)) "Push").run Try.prog w = _
  rw [method_step _ _ _ _ _ _ _ iRich hm, hp, hf]
  simp [follow, receiverAt, Place.get, go_sem]
theorem mPop (a : Addr) (w : World) : (method 203 52 (.pointer (some a)) "Pop").run Try.prog w = .ok (76, .pointer (some a)) w := by
  obtain ⟨m, hm, hp, hf⟩ := fPop
  show (method ((203 - 1) + 1) 52 (.pointer (some a)) "Pop").run Try.prog w = _
  rw [method_step _ _ _ _ _ _ _ iRich hm, hp, hf]
  simp [follow, receiverAt, Place.get, go_sem]
/-- one's cells -/
def oneC (x : Int × Int) : List Value := [.int .i64 x.1, .int .u64 x.2]
theorem oneC_len (x : Int × Int) : (oneC x).length = 2 := rfl
theorem one_info : (Try.prog.info? 63).map (fun i => (i.zero, i.size, i.bytes)) = some (some (.agg #[.int .i64 0, .int .u64 0]), 2, 16) := by kernel_rfl
/-- a heap lies at block g: its row, of one's own from block B on -/
structure HP (B g : Nat) (A : Option Addr) (c : Nat) (w : World) (L : List (Int × Int)) : Prop where
  c0 : w.cell? ⟨g, 0, none⟩ = some (.slice A L.length c)
  f0 : w.frozen? ⟨g, 0, none⟩ = false
  own : w.ownsRow B 63 2 (.slice A L.length c) L.length (L.flatMap oneC)
  ne : ∀ k o s, A = some ⟨k, o, s⟩ → k ≠ g
  lo : B ≤ g
theorem HP.ext {B g c : Nat} {A : Option Addr} {w w' : World} {L : List (Int × Int)} (h : HP B g A c w L) (hx : Ext w w') : HP B g A c w' L :=
  ⟨hx.has h.c0, hx.froz h.c0 h.f0, own_keep h.own hx, h.ne, h.lo⟩
theorem HP.lt {B g c : Nat} {A : Option Addr} {w : World} {L : List (Int × Int)} (h : HP B g A c w L) : g < w.heap.size := cell_lt h.c0
/-- the cells of one of them -/
theorem HP.at_ {B g c i : Nat} {A : Option Addr} {w : World} {L : List (Int × Int)} {a : Int × Int} (h : HP B g A c w L) (ha : L[i]? = some a) :
    ∃ b, A = some ⟨b, 0, none⟩ ∧ B ≤ b ∧ b < w.heap.size ∧ i < L.length ∧ w.cell? ⟨b, i * 2, none⟩ = some (.int .i64 a.1) ∧ w.cell? ⟨b, i * 2 + 1, none⟩ = some (.int .u64 a.2) := by
  have hi := (List.getElem?_eq_some_iff.1 ha).1
  rcases h.own.2 with ⟨h', h0⟩ | ⟨b, cap, cur, h', hbg, _⟩
  · rw [show L.length = 0 from h0] at hi; omega
  · injection h' with h1 h2 h3
    subst h1
    have C := Cur.mk h.own ha rfl
    have hl := World.ownsRow.lt h.own b rfl
    exact ⟨b, rfl, hl.1, hl.2, hi, Cur.cell oneC_len C (j := 0) rfl, Cur.cell oneC_len C (j := 1) rfl⟩
theorem HP.small {B g c : Nat} {A : Option Addr} {w : World} {L : List (Int × Int)} (h : HP B g A c w L) : L.length ≤ 9223372036854775807 := (Sl.own h.own).small

set_option maxRecDepth 100000 in
set_option maxHeartbeats 2000000 in
theorem rowLess_any (b c n i j : Nat) (x y : Int) (w : World) (hi : i < n) (hj : j < n) (hn : n ≤ 9223372036854775807) (x_0 : w.cell? ⟨b, i * 2, none⟩ = some (.int .i64 x)) (y_0 : w.cell? ⟨b, j * 2, none⟩ = some (.int .i64 y)) :
    Calls Try.prog 79 #[.slice (some ⟨b, 0, none⟩) n c, .int .i64 (i : Int), .int .i64 (j : Int)] w fun e w' => e = .returned (.bool (decide (x < y))) ∧ Ext w w' := by
  have h1 : (i : Int) < (n : Int) := by omega
  have h2 : (j : Int) < (n : Int) := by omega
  go_enter Try.func79, Try.ntmps79
  go_wp2_with fail
  refine wp_region_held_drew (S := fun w' => w'.cell? ⟨b, i * 2, none⟩ = some (.int .i64 x) ∧ w'.cell? ⟨b, j * 2, none⟩ = some (.int .i64 y)) (by kernel_rfl) (by first | exact ⟨x_0, y_0⟩ | (simp [go_sem, World.cell?_alloc_past, x_0, y_0]; done)) (fun hHeld => ?_)
  (refine' take_in 0 rfl (by kernel_rfl) (by kernel_rfl) (by kernel_rfl) (fun _ _ _ h => h) (by rfl) (by assumption) ?_ ?_; rotate_left; focus (intro w hSw; (try dsimp only at hSw); go_simp; try with_reducible rfl)); try simp only [Act.put, List.setIfInBounds_toArray, List.set_cons_zero, List.set_cons_succ]
  (refine' take_in 1 rfl (by kernel_rfl) (by kernel_rfl) (by kernel_rfl) (fun _ _ _ h => h) (by rfl) (by assumption) ?_ ?_; rotate_left; focus (intro w hSw; (try dsimp only at hSw); go_simp; try with_reducible rfl)); try simp only [Act.put, List.setIfInBounds_toArray, List.set_cons_zero, List.set_cons_succ]
  (refine' take_in 2 rfl (by kernel_rfl) (by kernel_rfl) (by kernel_rfl) (fun _ _ _ h => h) (by rfl) (by assumption) ?_ ?_; rotate_left; focus (intro w hSw; (try dsimp only at hSw); go_simp; try with_reducible rfl)); try simp only [Act.put, List.setIfInBounds_toArray, List.set_cons_zero, List.set_cons_succ]
  (refine' take_in 3 rfl (by kernel_rfl) (by kernel_rfl) (by kernel_rfl) (fun _ _ _ h => h) (by rfl) (by assumption) ?_ ?_; rotate_left; focus (intro w hSw; (try dsimp only at hSw); go_simp; try with_reducible rfl)); try simp only [Act.put, List.setIfInBounds_toArray, List.set_cons_zero, List.set_cons_succ]
  (refine' take_in 4 rfl (by kernel_rfl) (by kernel_rfl) (by kernel_rfl) (fun _ _ _ h => h) (by rfl) (by assumption) ?_ ?_; rotate_left; focus (intro w hSw; (try dsimp only at hSw); go_simp; try with_reducible rfl)); try simp only [Act.put, List.setIfInBounds_toArray, List.set_cons_zero, List.set_cons_succ]
  (refine' take_in 5 rfl (by kernel_rfl) (by kernel_rfl) (by kernel_rfl) (fun _ _ _ h => h) (by rfl) (by assumption) ?_ ?_; rotate_left; focus (intro w hSw; (try dsimp only at hSw); go_simp; try with_reducible rfl)); try simp only [Act.put, List.setIfInBounds_toArray, List.set_cons_zero, List.set_cons_succ]
  (refine' take_in 6 rfl (by kernel_rfl) (by kernel_rfl) (by kernel_rfl) (fun _ _ _ h => h) (by rfl) (by assumption) ?_ ?_; rotate_left; focus (intro w hSw; (try dsimp only at hSw); go_simp; try with_reducible rfl)); try simp only [Act.put, List.setIfInBounds_toArray, List.set_cons_zero, List.set_cons_succ]
  (refine' take_in 7 rfl (by kernel_rfl) (by kernel_rfl) (by kernel_rfl) (fun _ _ _ h => h) (by rfl) (by assumption) ?_ ?_; rotate_left; focus (intro w hSw; (try dsimp only at hSw); go_simp; try with_reducible rfl)); try simp only [Act.put, List.setIfInBounds_toArray, List.set_cons_zero, List.set_cons_succ]
  (refine' take_in 8 rfl (by kernel_rfl) (by kernel_rfl) (by kernel_rfl) (fun _ _ _ h => h) (by rfl) (by assumption) ?_ ?_; rotate_left; focus (intro w hSw; (try dsimp only at hSw); go_simp; try with_reducible rfl)); try simp only [Act.put, List.setIfInBounds_toArray, List.set_cons_zero, List.set_cons_succ]
  (refine' take_in 9 rfl (by kernel_rfl) (by kernel_rfl) (by kernel_rfl) (fun _ _ _ h => h) (by rfl) (by assumption) ?_ ?_; rotate_left; focus (intro w hSw; (try dsimp only at hSw); go_simp; try with_reducible rfl)); try simp only [Act.put, List.setIfInBounds_toArray, List.set_cons_zero, List.set_cons_succ]
  (refine' take_in 10 rfl (by kernel_rfl) (by kernel_rfl) (by kernel_rfl) (fun _ _ _ h => h) (by rfl) (by assumption) ?_ ?_; rotate_left; focus (intro w hSw; (try dsimp only at hSw); go_simp; try with_reducible rfl)); try simp only [Act.put, List.setIfInBounds_toArray, List.set_cons_zero, List.set_cons_succ]
  (refine' take_in 11 rfl (by kernel_rfl) (by kernel_rfl) (by kernel_rfl) (fun _ _ _ h => h) (by rfl) (by assumption) ?_ ?_; rotate_left; focus (intro w hSw; (try dsimp only at hSw); go_simp; try with_reducible rfl)); try simp only [Act.put, List.setIfInBounds_toArray, List.set_cons_zero, List.set_cons_succ]
  refine wpAnyH_done (by kernel_rfl) ?_ _
  go_wp2_with fail
  go_ret
  exact ⟨rfl, (by repeat (first | with_reducible exact Ext.refl w | with_reducible refine Ext.drew ?_ | with_reducible refine Ext.drewN ?_ _ | with_reducible refine Ext.alloc ?_ _ | with_reducible refine Ext.setCell ?_ (by first | omega | (simp; done) | (simp; omega)) _))⟩
set_option maxRecDepth 100000 in
set_option maxHeartbeats 2000000 in
theorem richLess_any (b c n i j : Nat) (x0 x1 y0 y1 : Int) (v : Bool) (w : World) (hi : i < n) (hj : j < n) (hn : n ≤ 9223372036854775807) (x_0 : w.cell? ⟨b, i * 2, none⟩ = some (.int .i64 x0)) (x_1 : w.cell? ⟨b, i * 2 + 1, none⟩ = some (.int .u64 x1)) (y_0 : w.cell? ⟨b, j * 2, none⟩ = some (.int .i64 y0)) (y_1 : w.cell? ⟨b, j * 2 + 1, none⟩ = some (.int .u64 y1)) (hv : v = decide (rich (x0, x1) (y0, y1))) :
    Calls Try.prog 75 #[.agg #[.slice (some ⟨b, 0, none⟩) n c], .int .i64 (i : Int), .int .i64 (j : Int)] w fun e w' => e = .returned (.bool v) ∧ Ext w w' := by
  have h1 : (i : Int) < (n : Int) := by omega
  have h2 : (j : Int) < (n : Int) := by omega
  have hb := cell_lt x_0
  have hbn : ¬ b = w.heap.size := by omega
  have hba : ¬ b = w.heap.size + 1 := by omega
  have hbb : ¬ b = w.heap.size + 1 + 1 := by omega
  have rx : b < w.heap.size := hb
  have rxa : b < w.heap.size + 1 := by omega
  have rxb : b < w.heap.size + 1 + 1 := by omega
  by_cases hgt : y1 < x1
  · obtain rfl : v = true := by rw [hv]; exact decide_eq_true (.inl hgt)
    clear hv
    go_enter Try.func75, Try.ntmps75
    go_wp2_with fail
    refine wp_region_held_drew (S := fun w' => w'.cell? ⟨w.heap.size, 0, none⟩ = some (.slice (some ⟨b, 0, none⟩) n c) ∧ w'.cell? ⟨b, i * 2, none⟩ = some (.int .i64 x0) ∧ w'.cell? ⟨b, i * 2 + 1, none⟩ = some (.int .u64 x1) ∧ w'.cell? ⟨b, j * 2, none⟩ = some (.int .i64 y0) ∧ w'.cell? ⟨b, j * 2 + 1, none⟩ = some (.int .u64 y1)) (by kernel_rfl) (by first | exact ⟨c0_0, x_0, x_1, y_0, y_1⟩ | (simp [go_sem, World.cell?_alloc_past, x_0, x_1, y_0, y_1, hbn, hba, hbb, rx, rxa, rxb]; done)) (fun hHeld => ?_)
    (refine' take_in 0 rfl (by kernel_rfl) (by kernel_rfl) (by kernel_rfl) (fun _ _ _ h => h) (by rfl) (by assumption) ?_ ?_; rotate_left; focus (intro w hSw; (try dsimp only at hSw); go_simp; try with_reducible rfl)); try simp only [Act.put, List.setIfInBounds_toArray, List.set_cons_zero, List.set_cons_succ]
    (refine' take_in 1 rfl (by kernel_rfl) (by kernel_rfl) (by kernel_rfl) (fun _ _ _ h => h) (by rfl) (by assumption) ?_ ?_; rotate_left; focus (intro w hSw; (try dsimp only at hSw); go_simp; try with_reducible rfl)); try simp only [Act.put, List.setIfInBounds_toArray, List.set_cons_zero, List.set_cons_succ]
    (refine' take_in 2 rfl (by kernel_rfl) (by kernel_rfl) (by kernel_rfl) (fun _ _ _ h => h) (by rfl) (by assumption) ?_ ?_; rotate_left; focus (intro w hSw; (try dsimp only at hSw); go_simp; try with_reducible rfl)); try simp only [Act.put, List.setIfInBounds_toArray, List.set_cons_zero, List.set_cons_succ]
    (refine' take_in 3 rfl (by kernel_rfl) (by kernel_rfl) (by kernel_rfl) (fun _ _ _ h => h) (by rfl) (by assumption) ?_ ?_; rotate_left; focus (intro w hSw; (try dsimp only at hSw); go_simp; try with_reducible rfl)); try simp only [Act.put, List.setIfInBounds_toArray, List.set_cons_zero, List.set_cons_succ]
    (refine' take_in 4 rfl (by kernel_rfl) (by kernel_rfl) (by kernel_rfl) (fun _ _ _ h => h) (by rfl) (by assumption) ?_ ?_; rotate_left; focus (intro w hSw; (try dsimp only at hSw); go_simp; try with_reducible rfl)); try simp only [Act.put, List.setIfInBounds_toArray, List.set_cons_zero, List.set_cons_succ]
    (refine' take_in 5 rfl (by kernel_rfl) (by kernel_rfl) (by kernel_rfl) (fun _ _ _ h => h) (by rfl) (by assumption) ?_ ?_; rotate_left; focus (intro w hSw; (try dsimp only at hSw); go_simp; try with_reducible rfl)); try simp only [Act.put, List.setIfInBounds_toArray, List.set_cons_zero, List.set_cons_succ]
    (refine' take_in 6 rfl (by kernel_rfl) (by kernel_rfl) (by kernel_rfl) (fun _ _ _ h => h) (by rfl) (by assumption) ?_ ?_; rotate_left; focus (intro w hSw; (try dsimp only at hSw); go_simp; try with_reducible rfl)); try simp only [Act.put, List.setIfInBounds_toArray, List.set_cons_zero, List.set_cons_succ]
    (refine' take_in 7 rfl (by kernel_rfl) (by kernel_rfl) (by kernel_rfl) (fun _ _ _ h => h) (by rfl) (by assumption) ?_ ?_; rotate_left; focus (intro w hSw; (try dsimp only at hSw); go_simp; try with_reducible rfl)); try simp only [Act.put, List.setIfInBounds_toArray, List.set_cons_zero, List.set_cons_succ]
    (refine' take_in 8 rfl (by kernel_rfl) (by kernel_rfl) (by kernel_rfl) (fun _ _ _ h => h) (by rfl) (by assumption) ?_ ?_; rotate_left; focus (intro w hSw; (try dsimp only at hSw); go_simp; try with_reducible rfl)); try simp only [Act.put, List.setIfInBounds_toArray, List.set_cons_zero, List.set_cons_succ]
    (refine' take_in 9 rfl (by kernel_rfl) (by kernel_rfl) (by kernel_rfl) (fun _ _ _ h => h) (by rfl) (by assumption) ?_ ?_; rotate_left; focus (intro w hSw; (try dsimp only at hSw); go_simp; try with_reducible rfl)); try simp only [Act.put, List.setIfInBounds_toArray, List.set_cons_zero, List.set_cons_succ]
    refine' next2_in 10 11 rfl rfl (by kernel_rfl) (by rfl) (by rfl) (fun K hK => ?_) (fun K hK => ?_)
    · go_simp
      refine hK.out _ _ (by (first | exact ⟨c0_0, x_0, x_1, y_0, y_1⟩ | (simp [go_sem, World.cell?_alloc_past, x_0, x_1, y_0, y_1, hbn, hba, hbb, rx, rxa, rxb]; done))) (fun hHeld => ?_); clear hK K; try simp only [Act.put, List.setIfInBounds_toArray, List.set_cons_zero, List.set_cons_succ]
      refine' next_in 11 rfl (by kernel_rfl) (by rfl) (fun K hK => ?_)
      go_simp
      refine hK.out _ _ (by (first | exact ⟨c0_0, x_0, x_1, y_0, y_1⟩ | (simp [go_sem, World.cell?_alloc_past, x_0, x_1, y_0, y_1, hbn, hba, hbb, rx, rxa, rxb]; done))) (fun hHeld => ?_); clear hK K; try simp only [Act.put, List.setIfInBounds_toArray, List.set_cons_zero, List.set_cons_succ]
      refine' next_in 12 rfl (by kernel_rfl) (by rfl) (fun K hK => ?_)
      go_simp
      refine hK.out _ _ (by (first | exact ⟨c0_0, x_0, x_1, y_0, y_1⟩ | (simp [go_sem, World.cell?_alloc_past, x_0, x_1, y_0, y_1, hbn, hba, hbb, rx, rxa, rxb]; done))) (fun hHeld => ?_); clear hK K; try simp only [Act.put, List.setIfInBounds_toArray, List.set_cons_zero, List.set_cons_succ]
      refine' next_in 13 rfl (by kernel_rfl) (by rfl) (fun K hK => ?_)
      go_simp
      refine hK.out _ _ (by (first | exact ⟨c0_0, x_0, x_1, y_0, y_1⟩ | (simp [go_sem, World.cell?_alloc_past, x_0, x_1, y_0, y_1, hbn, hba, hbb, rx, rxa, rxb]; done))) (fun hHeld => ?_); clear hK K; try simp only [Act.put, List.setIfInBounds_toArray, List.set_cons_zero, List.set_cons_succ]
      refine wpAnyH_done (by kernel_rfl) ?_ _
      go_wp2_with fail
      go_ret
      exact ⟨rfl, (by repeat (first | with_reducible exact Ext.refl w | with_reducible refine Ext.drew ?_ | with_reducible refine Ext.drewN ?_ _ | with_reducible refine Ext.alloc ?_ _ | with_reducible refine Ext.setCell ?_ (by first | omega | (simp; done) | (simp; omega)) _))⟩
    · go_simp
      refine hK.out _ _ (by (first | exact ⟨c0_0, x_0, x_1, y_0, y_1⟩ | (simp [go_sem, World.cell?_alloc_past, x_0, x_1, y_0, y_1, hbn, hba, hbb, rx, rxa, rxb]; done))) (fun hHeld => ?_); clear hK K; try simp only [Act.put, List.setIfInBounds_toArray, List.set_cons_zero, List.set_cons_succ]
      refine' next_in 10 rfl (by kernel_rfl) (by rfl) (fun K hK => ?_)
      go_simp
      refine hK.out _ _ (by (first | exact ⟨c0_0, x_0, x_1, y_0, y_1⟩ | (simp [go_sem, World.cell?_alloc_past, x_0, x_1, y_0, y_1, hbn, hba, hbb, rx, rxa, rxb]; done))) (fun hHeld => ?_); clear hK K; try simp only [Act.put, List.setIfInBounds_toArray, List.set_cons_zero, List.set_cons_succ]
      refine' next_in 12 rfl (by kernel_rfl) (by rfl) (fun K hK => ?_)
      go_simp
      refine hK.out _ _ (by (first | exact ⟨c0_0, x_0, x_1, y_0, y_1⟩ | (simp [go_sem, World.cell?_alloc_past, x_0, x_1, y_0, y_1, hbn, hba, hbb, rx, rxa, rxb]; done))) (fun hHeld => ?_); clear hK K; try simp only [Act.put, List.setIfInBounds_toArray, List.set_cons_zero, List.set_cons_succ]
      refine' next_in 13 rfl (by kernel_rfl) (by rfl) (fun K hK => ?_)
      go_simp
      refine hK.out _ _ (by (first | exact ⟨c0_0, x_0, x_1, y_0, y_1⟩ | (simp [go_sem, World.cell?_alloc_past, x_0, x_1, y_0, y_1, hbn, hba, hbb, rx, rxa, rxb]; done))) (fun hHeld => ?_); clear hK K; try simp only [Act.put, List.setIfInBounds_toArray, List.set_cons_zero, List.set_cons_succ]
      refine wpAnyH_done (by kernel_rfl) ?_ _
      go_wp2_with fail
      go_ret
      exact ⟨rfl, (by repeat (first | with_reducible exact Ext.refl w | with_reducible refine Ext.drew ?_ | with_reducible refine Ext.drewN ?_ _ | with_reducible refine Ext.alloc ?_ _ | with_reducible refine Ext.setCell ?_ (by first | omega | (simp; done) | (simp; omega)) _))⟩
  · by_cases heq : x1 = y1
    · subst heq
      obtain rfl : v = decide (x0 < y0) := by rw [hv]; unfold rich; simp
      clear hv
      go_enter Try.func75, Try.ntmps75
      go_wp2_with fail
      refine wp_region_held_drew (S := fun w' => w'.cell? ⟨w.heap.size, 0, none⟩ = some (.slice (some ⟨b, 0, none⟩) n c) ∧ w'.cell? ⟨b, i * 2, none⟩ = some (.int .i64 x0) ∧ w'.cell? ⟨b, i * 2 + 1, none⟩ = some (.int .u64 x1) ∧ w'.cell? ⟨b, j * 2, none⟩ = some (.int .i64 y0) ∧ w'.cell? ⟨b, j * 2 + 1, none⟩ = some (.int .u64 x1)) (by kernel_rfl) (by first | exact ⟨c0_0, x_0, x_1, y_0, y_1⟩ | (simp [go_sem, World.cell?_alloc_past, x_0, x_1, y_0, y_1, hbn, hba, hbb, rx, rxa, rxb]; done)) (fun hHeld => ?_)
      (refine' take_in 0 rfl (by kernel_rfl) (by kernel_rfl) (by kernel_rfl) (fun _ _ _ h => h) (by rfl) (by assumption) ?_ ?_; rotate_left; focus (intro w hSw; (try dsimp only at hSw); go_simp; try with_reducible rfl)); try simp only [Act.put, List.setIfInBounds_toArray, List.set_cons_zero, List.set_cons_succ]
      (refine' take_in 1 rfl (by kernel_rfl) (by kernel_rfl) (by kernel_rfl) (fun _ _ _ h => h) (by rfl) (by assumption) ?_ ?_; rotate_left; focus (intro w hSw; (try dsimp only at hSw); go_simp; try with_reducible rfl)); try simp only [Act.put, List.setIfInBounds_toArray, List.set_cons_zero, List.set_cons_succ]
      (refine' take_in 2 rfl (by kernel_rfl) (by kernel_rfl) (by kernel_rfl) (fun _ _ _ h => h) (by rfl) (by assumption) ?_ ?_; rotate_left; focus (intro w hSw; (try dsimp only at hSw); go_simp; try with_reducible rfl)); try simp only [Act.put, List.setIfInBounds_toArray, List.set_cons_zero, List.set_cons_succ]
      (refine' take_in 3 rfl (by kernel_rfl) (by kernel_rfl) (by kernel_rfl) (fun _ _ _ h => h) (by rfl) (by assumption) ?_ ?_; rotate_left; focus (intro w hSw; (try dsimp only at hSw); go_simp; try with_reducible rfl)); try simp only [Act.put, List.setIfInBounds_toArray, List.set_cons_zero, List.set_cons_succ]
      (refine' take_in 4 rfl (by kernel_rfl) (by kernel_rfl) (by kernel_rfl) (fun _ _ _ h => h) (by rfl) (by assumption) ?_ ?_; rotate_left; focus (intro w hSw; (try dsimp only at hSw); go_simp; try with_reducible rfl)); try simp only [Act.put, List.setIfInBounds_toArray, List.set_cons_zero, List.set_cons_succ]
      (refine' take_in 5 rfl (by kernel_rfl) (by kernel_rfl) (by kernel_rfl) (fun _ _ _ h => h) (by rfl) (by assumption) ?_ ?_; rotate_left; focus (intro w hSw; (try dsimp only at hSw); go_simp; try with_reducible rfl)); try simp only [Act.put, List.setIfInBounds_toArray, List.set_cons_zero, List.set_cons_succ]
      (refine' take_in 6 rfl (by kernel_rfl) (by kernel_rfl) (by kernel_rfl) (fun _ _ _ h => h) (by rfl) (by assumption) ?_ ?_; rotate_left; focus (intro w hSw; (try dsimp only at hSw); go_simp; try with_reducible rfl)); try simp only [Act.put, List.setIfInBounds_toArray, List.set_cons_zero, List.set_cons_succ]
      (refine' take_in 7 rfl (by kernel_rfl) (by kernel_rfl) (by kernel_rfl) (fun _ _ _ h => h) (by rfl) (by assumption) ?_ ?_; rotate_left; focus (intro w hSw; (try dsimp only at hSw); go_simp; try with_reducible rfl)); try simp only [Act.put, List.setIfInBounds_toArray, List.set_cons_zero, List.set_cons_succ]
      (refine' take_in 8 rfl (by kernel_rfl) (by kernel_rfl) (by kernel_rfl) (fun _ _ _ h => h) (by rfl) (by assumption) ?_ ?_; rotate_left; focus (intro w hSw; (try dsimp only at hSw); go_simp; try with_reducible rfl)); try simp only [Act.put, List.setIfInBounds_toArray, List.set_cons_zero, List.set_cons_succ]
      (refine' take_in 9 rfl (by kernel_rfl) (by kernel_rfl) (by kernel_rfl) (fun _ _ _ h => h) (by rfl) (by assumption) ?_ ?_; rotate_left; focus (intro w hSw; (try dsimp only at hSw); go_simp; try with_reducible rfl)); try simp only [Act.put, List.setIfInBounds_toArray, List.set_cons_zero, List.set_cons_succ]
      refine' next2_in 10 11 rfl rfl (by kernel_rfl) (by rfl) (by rfl) (fun K hK => ?_) (fun K hK => ?_)
      · go_simp
        refine hK.out _ _ (by (first | exact ⟨c0_0, x_0, x_1, y_0, y_1⟩ | (simp [go_sem, World.cell?_alloc_past, x_0, x_1, y_0, y_1, hbn, hba, hbb, rx, rxa, rxb]; done))) (fun hHeld => ?_); clear hK K; try simp only [Act.put, List.setIfInBounds_toArray, List.set_cons_zero, List.set_cons_succ]
        refine' next_in 11 rfl (by kernel_rfl) (by rfl) (fun K hK => ?_)
        go_simp
        refine hK.out _ _ (by (first | exact ⟨c0_0, x_0, x_1, y_0, y_1⟩ | (simp [go_sem, World.cell?_alloc_past, x_0, x_1, y_0, y_1, hbn, hba, hbb, rx, rxa, rxb]; done))) (fun hHeld => ?_); clear hK K; try simp only [Act.put, List.setIfInBounds_toArray, List.set_cons_zero, List.set_cons_succ]
        refine' next_in 12 rfl (by kernel_rfl) (by rfl) (fun K hK => ?_)
        go_simp
        refine hK.out _ _ (by (first | exact ⟨c0_0, x_0, x_1, y_0, y_1⟩ | (simp [go_sem, World.cell?_alloc_past, x_0, x_1, y_0, y_1, hbn, hba, hbb, rx, rxa, rxb]; done))) (fun hHeld => ?_); clear hK K; try simp only [Act.put, List.setIfInBounds_toArray, List.set_cons_zero, List.set_cons_succ]
        refine' next_in 13 rfl (by kernel_rfl) (by rfl) (fun K hK => ?_)
        go_simp
        refine hK.out _ _ (by (first | exact ⟨c0_0, x_0, x_1, y_0, y_1⟩ | (simp [go_sem, World.cell?_alloc_past, x_0, x_1, y_0, y_1, hbn, hba, hbb, rx, rxa, rxb]; done))) (fun hHeld => ?_); clear hK K; try simp only [Act.put, List.setIfInBounds_toArray, List.set_cons_zero, List.set_cons_succ]
        refine wpAnyH_done (by kernel_rfl) ?_ _
        go_wp2_with fail
        (with_reducible refine (rowLess_any b c n i j x0 y0 _ hi hj hn (by first | assumption | (simp [go_sem, World.cell?_alloc_past, x_0, y_0, hbn, hba, hbb, rx, rxa, rxb]; done)) (by first | assumption | (simp [go_sem, World.cell?_alloc_past, x_0, y_0, hbn, hba, hbb, rx, rxa, rxb]; done))).mono ?_)
        rintro e w1 ⟨rfl, hx1⟩
        replace x_0 : w1.cell? ⟨b, i * 2, none⟩ = some (.int .i64 x0) := hx1.has (by first | exact x_0 | (simp [go_sem, World.cell?_alloc_past, x_0, x_1, y_0, y_1, hbn, hba, hbb, rx, rxa, rxb]; done))
        replace x_1 : w1.cell? ⟨b, i * 2 + 1, none⟩ = some (.int .u64 x1) := hx1.has (by first | exact x_1 | (simp [go_sem, World.cell?_alloc_past, x_0, x_1, y_0, y_1, hbn, hba, hbb, rx, rxa, rxb]; done))
        replace y_0 : w1.cell? ⟨b, j * 2, none⟩ = some (.int .i64 y0) := hx1.has (by first | exact y_0 | (simp [go_sem, World.cell?_alloc_past, x_0, x_1, y_0, y_1, hbn, hba, hbb, rx, rxa, rxb]; done))
        replace y_1 : w1.cell? ⟨b, j * 2 + 1, none⟩ = some (.int .u64 x1) := hx1.has (by first | exact y_1 | (simp [go_sem, World.cell?_alloc_past, x_0, x_1, y_0, y_1, hbn, hba, hbb, rx, rxa, rxb]; done))
        have c0_0 : w1.cell? ⟨w.heap.size, 0, none⟩ = some (.slice (some ⟨b, 0, none⟩) n c) := hx1.has (by first | fail | (simp [go_sem, World.cell?_alloc_past, x_0, x_1, y_0, y_1, hbn, hba, hbb, rx, rxa, rxb]; done))
        have z1 := hx1.size
        try simp at z1
        have lt_x_c0 : b < w.heap.size := by omega
        have ne_x_c0 : ¬ b = w.heap.size := by omega
        have ne_c0_x : ¬ w.heap.size = b := by omega
        have rx : b < w1.heap.size := by omega
        have rxa : b < w1.heap.size + 1 := by omega
        have rxb : b < w1.heap.size + 1 + 1 := by omega
        have rxc : b < w1.heap.size + 1 + 1 + 1 := by omega
        have rxn : ¬ b = w1.heap.size := by omega
        have rc0 : w.heap.size < w1.heap.size := by omega
        have rc0a : w.heap.size < w1.heap.size + 1 := by omega
        have rc0b : w.heap.size < w1.heap.size + 1 + 1 := by omega
        have rc0c : w.heap.size < w1.heap.size + 1 + 1 + 1 := by omega
        have rc0n : ¬ w.heap.size = w1.heap.size := by omega
        have X1 : Hid (Ext w w1) := Lib.hid (Ext.trans (by repeat (first | with_reducible exact Ext.refl w | with_reducible refine Ext.drew ?_ | with_reducible refine Ext.drewN ?_ _ | with_reducible refine Ext.alloc ?_ _ | with_reducible refine Ext.setCell ?_ (by first | omega | (simp; done) | (simp; omega)) _)) hx1)
        clear hx1 z1
        go_wp2_with fail
        go_ret
        exact ⟨rfl, (by repeat (first | with_reducible exact X1.out | with_reducible refine Ext.drew ?_ | with_reducible refine Ext.drewN ?_ _ | with_reducible refine Ext.alloc ?_ _ | with_reducible refine Ext.setCell ?_ (by first | omega | (simp; done) | (simp; omega)) _))⟩
      · go_simp
        refine hK.out _ _ (by (first | exact ⟨c0_0, x_0, x_1, y_0, y_1⟩ | (simp [go_sem, World.cell?_alloc_past, x_0, x_1, y_0, y_1, hbn, hba, hbb, rx, rxa, rxb]; done))) (fun hHeld => ?_); clear hK K; try simp only [Act.put, List.setIfInBounds_toArray, List.set_cons_zero, List.set_cons_succ]
        refine' next_in 10 rfl (by kernel_rfl) (by rfl) (fun K hK => ?_)
        go_simp
        refine hK.out _ _ (by (first | exact ⟨c0_0, x_0, x_1, y_0, y_1⟩ | (simp [go_sem, World.cell?_alloc_past, x_0, x_1, y_0, y_1, hbn, hba, hbb, rx, rxa, rxb]; done))) (fun hHeld => ?_); clear hK K; try simp only [Act.put, List.setIfInBounds_toArray, List.set_cons_zero, List.set_cons_succ]
        refine' next_in 12 rfl (by kernel_rfl) (by rfl) (fun K hK => ?_)
        go_simp
        refine hK.out _ _ (by (first | exact ⟨c0_0, x_0, x_1, y_0, y_1⟩ | (simp [go_sem, World.cell?_alloc_past, x_0, x_1, y_0, y_1, hbn, hba, hbb, rx, rxa, rxb]; done))) (fun hHeld => ?_); clear hK K; try simp only [Act.put, List.setIfInBounds_toArray, List.set_cons_zero, List.set_cons_succ]
        refine' next_in 13 rfl (by kernel_rfl) (by rfl) (fun K hK => ?_)
        go_simp
        refine hK.out _ _ (by (first | exact ⟨c0_0, x_0, x_1, y_0, y_1⟩ | (simp [go_sem, World.cell?_alloc_past, x_0, x_1, y_0, y_1, hbn, hba, hbb, rx, rxa, rxb]; done))) (fun hHeld => ?_); clear hK K; try simp only [Act.put, List.setIfInBounds_toArray, List.set_cons_zero, List.set_cons_succ]
        refine wpAnyH_done (by kernel_rfl) ?_ _
        go_wp2_with fail
        (with_reducible refine (rowLess_any b c n i j x0 y0 _ hi hj hn (by first | assumption | (simp [go_sem, World.cell?_alloc_past, x_0, y_0, hbn, hba, hbb, rx, rxa, rxb]; done)) (by first | assumption | (simp [go_sem, World.cell?_alloc_past, x_0, y_0, hbn, hba, hbb, rx, rxa, rxb]; done))).mono ?_)
        rintro e w1 ⟨rfl, hx1⟩
        replace x_0 : w1.cell? ⟨b, i * 2, none⟩ = some (.int .i64 x0) := hx1.has (by first | exact x_0 | (simp [go_sem, World.cell?_alloc_past, x_0, x_1, y_0, y_1, hbn, hba, hbb, rx, rxa, rxb]; done))
        replace x_1 : w1.cell? ⟨b, i * 2 + 1, none⟩ = some (.int .u64 x1) := hx1.has (by first | exact x_1 | (simp [go_sem, World.cell?_alloc_past, x_0, x_1, y_0, y_1, hbn, hba, hbb, rx, rxa, rxb]; done))
        replace y_0 : w1.cell? ⟨b, j * 2, none⟩ = some (.int .i64 y0) := hx1.has (by first | exact y_0 | (simp [go_sem, World.cell?_alloc_past, x_0, x_1, y_0, y_1, hbn, hba, hbb, rx, rxa, rxb]; done))
        replace y_1 : w1.cell? ⟨b, j * 2 + 1, none⟩ = some (.int .u64 x1) := hx1.has (by first | exact y_1 | (simp [go_sem, World.cell?_alloc_past, x_0, x_1, y_0, y_1, hbn, hba, hbb, rx, rxa, rxb]; done))
        have c0_0 : w1.cell? ⟨w.heap.size, 0, none⟩ = some (.slice (some ⟨b, 0, none⟩) n c) := hx1.has (by first | fail | (simp [go_sem, World.cell?_alloc_past, x_0, x_1, y_0, y_1, hbn, hba, hbb, rx, rxa, rxb]; done))
        have z1 := hx1.size
        try simp at z1
        have lt_x_c0 : b < w.heap.size := by omega
        have ne_x_c0 : ¬ b = w.heap.size := by omega
        have ne_c0_x : ¬ w.heap.size = b := by omega
        have rx : b < w1.heap.size := by omega
        have rxa : b < w1.heap.size + 1 := by omega
        have rxb : b < w1.heap.size + 1 + 1 := by omega
        have rxc : b < w1.heap.size + 1 + 1 + 1 := by omega
        have rxn : ¬ b = w1.heap.size := by omega
        have rc0 : w.heap.size < w1.heap.size := by omega
        have rc0a : w.heap.size < w1.heap.size + 1 := by omega
        have rc0b : w.heap.size < w1.heap.size + 1 + 1 := by omega
        have rc0c : w.heap.size < w1.heap.size + 1 + 1 + 1 := by omega
        have rc0n : ¬ w.heap.size = w1.heap.size := by omega
        have X1 : Hid (Ext w w1) := Lib.hid (Ext.trans (by repeat (first | with_reducible exact Ext.refl w | with_reducible refine Ext.drew ?_ | with_reducible refine Ext.drewN ?_ _ | with_reducible refine Ext.alloc ?_ _ | with_reducible refine Ext.setCell ?_ (by first | omega | (simp; done) | (simp; omega)) _)) hx1)
        clear hx1 z1
        go_wp2_with fail
        go_ret
        exact ⟨rfl, (by repeat (first | with_reducible exact X1.out | with_reducible refine Ext.drew ?_ | with_reducible refine Ext.drewN ?_ _ | with_reducible refine Ext.alloc ?_ _ | with_reducible refine Ext.setCell ?_ (by first | omega | (simp; done) | (simp; omega)) _))⟩
    · obtain rfl : v = false := by rw [hv]; exact decide_eq_false (by unfold rich; simp only; omega)
      have heq2 : (x1 == y1) = false := by simpa using heq
      clear hv
      go_enter Try.func75, Try.ntmps75
      go_wp2_with fail
      refine wp_region_held_drew (S := fun w' => w'.cell? ⟨w.heap.size, 0, none⟩ = some (.slice (some ⟨b, 0, none⟩) n c) ∧ w'.cell? ⟨b, i * 2, none⟩ = some (.int .i64 x0) ∧ w'.cell? ⟨b, i * 2 + 1, none⟩ = some (.int .u64 x1) ∧ w'.cell? ⟨b, j * 2, none⟩ = some (.int .i64 y0) ∧ w'.cell? ⟨b, j * 2 + 1, none⟩ = some (.int .u64 y1)) (by kernel_rfl) (by first | exact ⟨c0_0, x_0, x_1, y_0, y_1⟩ | (simp [go_sem, World.cell?_alloc_past, x_0, x_1, y_0, y_1, hbn, hba, hbb, rx, rxa, rxb]; done)) (fun hHeld => ?_)
      (refine' take_in 0 rfl (by kernel_rfl) (by kernel_rfl) (by kernel_rfl) (fun _ _ _ h => h) (by rfl) (by assumption) ?_ ?_; rotate_left; focus (intro w hSw; (try dsimp only at hSw); go_simp; try with_reducible rfl)); try simp only [Act.put, List.setIfInBounds_toArray, List.set_cons_zero, List.set_cons_succ]
      (refine' take_in 1 rfl (by kernel_rfl) (by kernel_rfl) (by kernel_rfl) (fun _ _ _ h => h) (by rfl) (by assumption) ?_ ?_; rotate_left; focus (intro w hSw; (try dsimp only at hSw); go_simp; try with_reducible rfl)); try simp only [Act.put, List.setIfInBounds_toArray, List.set_cons_zero, List.set_cons_succ]
      (refine' take_in 2 rfl (by kernel_rfl) (by kernel_rfl) (by kernel_rfl) (fun _ _ _ h => h) (by rfl) (by assumption) ?_ ?_; rotate_left; focus (intro w hSw; (try dsimp only at hSw); go_simp; try with_reducible rfl)); try simp only [Act.put, List.setIfInBounds_toArray, List.set_cons_zero, List.set_cons_succ]
      (refine' take_in 3 rfl (by kernel_rfl) (by kernel_rfl) (by kernel_rfl) (fun _ _ _ h => h) (by rfl) (by assumption) ?_ ?_; rotate_left; focus (intro w hSw; (try dsimp only at hSw); go_simp; try with_reducible rfl)); try simp only [Act.put, List.setIfInBounds_toArray, List.set_cons_zero, List.set_cons_succ]
      (refine' take_in 4 rfl (by kernel_rfl) (by kernel_rfl) (by kernel_rfl) (fun _ _ _ h => h) (by rfl) (by assumption) ?_ ?_; rotate_left; focus (intro w hSw; (try dsimp only at hSw); go_simp; try with_reducible rfl)); try simp only [Act.put, List.setIfInBounds_toArray, List.set_cons_zero, List.set_cons_succ]
      (refine' take_in 5 rfl (by kernel_rfl) (by kernel_rfl) (by kernel_rfl) (fun _ _ _ h => h) (by rfl) (by assumption) ?_ ?_; rotate_left; focus (intro w hSw; (try dsimp only at hSw); go_simp; try with_reducible rfl)); try simp only [Act.put, List.setIfInBounds_toArray, List.set_cons_zero, List.set_cons_succ]
      (refine' take_in 6 rfl (by kernel_rfl) (by kernel_rfl) (by kernel_rfl) (fun _ _ _ h => h) (by rfl) (by assumption) ?_ ?_; rotate_left; focus (intro w hSw; (try dsimp only at hSw); go_simp; try with_reducible rfl)); try simp only [Act.put, List.setIfInBounds_toArray, List.set_cons_zero, List.set_cons_succ]
      (refine' take_in 7 rfl (by kernel_rfl) (by kernel_rfl) (by kernel_rfl) (fun _ _ _ h => h) (by rfl) (by assumption) ?_ ?_; rotate_left; focus (intro w hSw; (try dsimp only at hSw); go_simp; try with_reducible rfl)); try simp only [Act.put, List.setIfInBounds_toArray, List.set_cons_zero, List.set_cons_succ]
      (refine' take_in 8 rfl (by kernel_rfl) (by kernel_rfl) (by kernel_rfl) (fun _ _ _ h => h) (by rfl) (by assumption) ?_ ?_; rotate_left; focus (intro w hSw; (try dsimp only at hSw); go_simp; try with_reducible rfl)); try simp only [Act.put, List.setIfInBounds_toArray, List.set_cons_zero, List.set_cons_succ]
      (refine' take_in 9 rfl (by kernel_rfl) (by kernel_rfl) (by kernel_rfl) (fun _ _ _ h => h) (by rfl) (by assumption) ?_ ?_; rotate_left; focus (intro w hSw; (try dsimp only at hSw); go_simp; try with_reducible rfl)); try simp only [Act.put, List.setIfInBounds_toArray, List.set_cons_zero, List.set_cons_succ]
      refine' next2_in 10 11 rfl rfl (by kernel_rfl) (by rfl) (by rfl) (fun K hK => ?_) (fun K hK => ?_)
      · go_simp
        refine hK.out _ _ (by (first | exact ⟨c0_0, x_0, x_1, y_0, y_1⟩ | (simp [go_sem, World.cell?_alloc_past, x_0, x_1, y_0, y_1, hbn, hba, hbb, rx, rxa, rxb]; done))) (fun hHeld => ?_); clear hK K; try simp only [Act.put, List.setIfInBounds_toArray, List.set_cons_zero, List.set_cons_succ]
        refine' next_in 11 rfl (by kernel_rfl) (by rfl) (fun K hK => ?_)
        go_simp
        refine hK.out _ _ (by (first | exact ⟨c0_0, x_0, x_1, y_0, y_1⟩ | (simp [go_sem, World.cell?_alloc_past, x_0, x_1, y_0, y_1, hbn, hba, hbb, rx, rxa, rxb]; done))) (fun hHeld => ?_); clear hK K; try simp only [Act.put, List.setIfInBounds_toArray, List.set_cons_zero, List.set_cons_succ]
        refine' next_in 12 rfl (by kernel_rfl) (by rfl) (fun K hK => ?_)
        go_simp
        refine hK.out _ _ (by (first | exact ⟨c0_0, x_0, x_1, y_0, y_1⟩ | (simp [go_sem, World.cell?_alloc_past, x_0, x_1, y_0, y_1, hbn, hba, hbb, rx, rxa, rxb]; done))) (fun hHeld => ?_); clear hK K; try simp only [Act.put, List.setIfInBounds_toArray, List.set_cons_zero, List.set_cons_succ]
        refine' next_in 13 rfl (by kernel_rfl) (by rfl) (fun K hK => ?_)
        go_simp
        refine hK.out _ _ (by (first | exact ⟨c0_0, x_0, x_1, y_0, y_1⟩ | (simp [go_sem, World.cell?_alloc_past, x_0, x_1, y_0, y_1, hbn, hba, hbb, rx, rxa, rxb]; done))) (fun hHeld => ?_); clear hK K; try simp only [Act.put, List.setIfInBounds_toArray, List.set_cons_zero, List.set_cons_succ]
        refine wpAnyH_done (by kernel_rfl) ?_ _
        go_wp2_with fail
        go_ret
        exact ⟨by simp [hgt], (by repeat (first | with_reducible exact Ext.refl w | with_reducible refine Ext.drew ?_ | with_reducible refine Ext.drewN ?_ _ | with_reducible refine Ext.alloc ?_ _ | with_reducible refine Ext.setCell ?_ (by first | omega | (simp; done) | (simp; omega)) _))⟩
      · go_simp
        refine hK.out _ _ (by (first | exact ⟨c0_0, x_0, x_1, y_0, y_1⟩ | (simp [go_sem, World.cell?_alloc_past, x_0, x_1, y_0, y_1, hbn, hba, hbb, rx, rxa, rxb]; done))) (fun hHeld => ?_); clear hK K; try simp only [Act.put, List.setIfInBounds_toArray, List.set_cons_zero, List.set_cons_succ]
        refine' next_in 10 rfl (by kernel_rfl) (by rfl) (fun K hK => ?_)
        go_simp
        refine hK.out _ _ (by (first | exact ⟨c0_0, x_0, x_1, y_0, y_1⟩ | (simp [go_sem, World.cell?_alloc_past, x_0, x_1, y_0, y_1, hbn, hba, hbb, rx, rxa, rxb]; done))) (fun hHeld => ?_); clear hK K; try simp only [Act.put, List.setIfInBounds_toArray, List.set_cons_zero, List.set_cons_succ]
        refine' next_in 12 rfl (by kernel_rfl) (by rfl) (fun K hK => ?_)
        go_simp
        refine hK.out _ _ (by (first | exact ⟨c0_0, x_0, x_1, y_0, y_1⟩ | (simp [go_sem, World.cell?_alloc_past, x_0, x_1, y_0, y_1, hbn, hba, hbb, rx, rxa, rxb]; done))) (fun hHeld => ?_); clear hK K; try simp only [Act.put, List.setIfInBounds_toArray, List.set_cons_zero, List.set_cons_succ]
        refine' next_in 13 rfl (by kernel_rfl) (by rfl) (fun K hK => ?_)
        go_simp
        refine hK.out _ _ (by (first | exact ⟨c0_0, x_0, x_1, y_0, y_1⟩ | (simp [go_sem, World.cell?_alloc_past, x_0, x_1, y_0, y_1, hbn, hba, hbb, rx, rxa, rxb]; done))) (fun hHeld => ?_); clear hK K; try simp only [Act.put, List.setIfInBounds_toArray, List.set_cons_zero, List.set_cons_succ]
        refine wpAnyH_done (by kernel_rfl) ?_ _
        go_wp2_with fail
        go_ret
        exact ⟨by simp [hgt], (by repeat (first | with_reducible exact Ext.refl w | with_reducible refine Ext.drew ?_ | with_reducible refine Ext.drewN ?_ _ | with_reducible refine Ext.alloc ?_ _ | with_reducible refine Ext.setCell ?_ (by first | omega | (simp; done) | (simp; omega)) _))⟩
theorem HP.less {B g c i j : Nat} {A : Option Addr} {w : World} {L : List (Int × Int)} {a b : Int × Int} (h : HP B g A c w L) (ha : L[i]? = some a) (hb : L[j]? = some b) (v : Bool) (hv : v = decide (rich a b)) :
    Calls Try.prog 75 #[.agg #[.slice A L.length c], .int .i64 (i : Int), .int .i64 (j : Int)] w fun e w' => e = .returned (.bool v) ∧ Ext w w' := by
  obtain ⟨b1, rfl, _, _, h1, h2, h3⟩ := h.at_ ha
  obtain ⟨b2, e, _, _, h4, h5, h6⟩ := h.at_ hb
  injection e with e
  injection e with e
  subst e
  exact richLess_any b1 c L.length i j a.1 a.2 b.1 b.2 v w h1 h4 h.small h2 h3 h5 h6 hv
end Go.Proofs.Ytplmgcbjfmdebaa
