/- Plain numbers: great numbers as lists of digits to the base 65536. Conditions stand in each lemma. -/
set_option linter.unusedVariables false
set_option linter.unusedSimpArgs false
namespace Go.Proofs.YtkinchgjidpjnaaGreat.Gr
/-! Great numbers: digits to the base 2^16, the lowest first. -/

def val : List Int → Int
  | [] => 0
  | d :: l => d + 65536 * val l
def Dig (l : List Int) : Prop := ∀ d ∈ l, 0 ≤ d ∧ d < 65536
/-- no nought at the end -/
def Nor (l : List Int) : Prop := l.getLast? ≠ some 0
def pw : Nat → Int
  | 0 => 1
  | k + 1 => 65536 * pw k
theorem pw_pos (k : Nat) : 0 < pw k := by
  induction k with
  | zero => decide
  | succ k ih => show 0 < 65536 * pw k; omega
theorem pw_add (a b : Nat) : pw (a + b) = pw a * pw b := by
  induction a with
  | zero => simp [pw]
  | succ a ih => rw [show a + 1 + b = (a + b) + 1 from by omega]; show 65536 * pw (a + b) = 65536 * pw a * pw b; rw [ih, Int.mul_assoc]
theorem pw_mono {a b : Nat} (h : a ≤ b) : pw a ≤ pw b := by
  obtain ⟨c, rfl⟩ : ∃ c, b = a + c := ⟨b - a, by omega⟩
  rw [pw_add]
  have h1 := pw_pos a
  have h2 : 1 ≤ pw c := pw_pos c
  have := Int.mul_le_mul_of_nonneg_left h2 (Int.le_of_lt h1)
  omega
theorem val_append (a b : List Int) : val (a ++ b) = val a + pw a.length * val b := by
  induction a with
  | nil => simp [val, pw]
  | cons d a ih =>
    show d + 65536 * val (a ++ b) = d + 65536 * val a + 65536 * pw a.length * val b
    rw [ih, Int.mul_add, Int.mul_assoc]; omega
theorem Dig.nil : Dig [] := fun d h => by cases h
theorem Dig.cons {d : Int} {l : List Int} (h0 : 0 ≤ d) (h1 : d < 65536) (h : Dig l) : Dig (d :: l) := fun x hx => by
  rcases List.mem_cons.1 hx with rfl | hx
  · exact ⟨h0, h1⟩
  · exact h x hx
theorem Dig.tail {d : Int} {l : List Int} (h : Dig (d :: l)) : Dig l := fun x hx => h x (List.mem_cons_of_mem _ hx)
theorem Dig.head {d : Int} {l : List Int} (h : Dig (d :: l)) : 0 ≤ d ∧ d < 65536 := h d List.mem_cons_self
theorem Dig.append {a b : List Int} (h : Dig a) (k : Dig b) : Dig (a ++ b) := fun x hx => by
  rcases List.mem_append.1 hx with hx | hx
  · exact h x hx
  · exact k x hx
theorem Dig.take {l : List Int} (h : Dig l) (n : Nat) : Dig (l.take n) := fun x hx => h x (List.mem_of_mem_take hx)
theorem Dig.drop {l : List Int} (h : Dig l) (n : Nat) : Dig (l.drop n) := fun x hx => h x (List.mem_of_mem_drop hx)
theorem Dig.getD {l : List Int} (h : Dig l) (i : Nat) : 0 ≤ l.getD i 0 ∧ l.getD i 0 < 65536 := by
  rw [List.getD_eq_getElem?_getD]
  rcases hx : l[i]? with _ | x
  · simp
  · simpa using h x (List.mem_of_getElem? hx)
theorem val_bound {l : List Int} (h : Dig l) : 0 ≤ val l ∧ val l < pw l.length := by
  induction l with
  | nil => simp [val, pw]
  | cons d l ih =>
    obtain ⟨h1, h2⟩ := ih h.tail
    obtain ⟨h3, h4⟩ := h.head
    show 0 ≤ d + 65536 * val l ∧ d + 65536 * val l < 65536 * pw l.length
    omega
theorem getLast_cons {d : Int} {l : List Int} (h : Nor (d :: l)) : Nor l := by
  unfold Nor at *
  cases l with
  | nil => simp
  | cons x l => simpa using h
theorem val_nor {l : List Int} (h : Dig l) (hn : Nor l) (hl : l ≠ []) : pw (l.length - 1) ≤ val l := by
  induction l with
  | nil => exact absurd rfl hl
  | cons d l ih =>
    obtain ⟨h3, h4⟩ := h.head
    cases l with
    | nil =>
      have : d ≠ 0 := fun e => hn (by simp [e])
      simp [val, pw]; omega
    | cons x l =>
      have := ih h.tail (getLast_cons hn) (by simp)
      show pw (l.length + 1) ≤ d + 65536 * val (x :: l)
      have e : pw ((x :: l).length - 1) = pw l.length := by simp
      rw [e] at this
      show 65536 * pw l.length ≤ d + 65536 * val (x :: l)
      omega
theorem val_zero {l : List Int} (h : Dig l) (hn : Nor l) (hz : val l = 0) : l = [] := by
  cases l with
  | nil => rfl
  | cons d l =>
    have := val_nor h hn (by simp)
    have := pw_pos ((d :: l).length - 1)
    omega
/-- fewer digits: less -/
theorem less_len {a b : List Int} (ha : Dig a) (hb : Dig b) (hn : Nor b) (h : a.length < b.length) : val a < val b := by
  have h1 := (val_bound ha).2
  have h2 := val_nor hb hn (by intro e; rw [e] at h; simp at h)
  have h3 := pw_mono (show a.length ≤ b.length - 1 from by omega)
  omega
theorem len_of {l : List Int} {k : Nat} (h : Dig l) (hn : Nor l) (hv : val l < pw k) : l.length ≤ k := by
  rcases Nat.lt_or_ge k l.length with hk | hk
  · have h2 := val_nor h hn (by intro e; rw [e] at hk; simp at hk)
    have h3 := pw_mono (show k ≤ l.length - 1 from by omega)
    omega
  · exact hk
theorem split_at (l : List Int) (i : Nat) (h : i < l.length) : val l = val (l.take i) + pw i * (l.getD i 0 + 65536 * val (l.drop (i + 1))) := by
  have e : l = l.take i ++ (l.getD i 0 :: l.drop (i + 1)) := by
    rw [List.getD_eq_getElem?_getD, List.getElem?_eq_getElem h]
    simp
  have hl : (l.take i).length = i := by rw [List.length_take]; omega
  calc val l = val (l.take i ++ (l.getD i 0 :: l.drop (i + 1))) := by rw [← e]
    _ = _ := by rw [val_append, hl]; rfl
/-- at the highest place where they differ -/
theorem less_at {a b : List Int} (ha : Dig a) (hb : Dig b) (hl : a.length = b.length) (i : Nat) (hi : i < a.length) (hd : a.drop (i + 1) = b.drop (i + 1)) (h : a.getD i 0 < b.getD i 0) : val a < val b := by
  rw [split_at a i hi, split_at b i (by omega), hd]
  have h1 := (val_bound (ha.take i)).2
  have h2 := (val_bound (hb.take i)).1
  have hl' : (a.take i).length = i := by rw [List.length_take]; omega
  rw [hl'] at h1
  have h3 := pw_pos i
  have h4 : pw i * (a.getD i 0 + 65536 * val (b.drop (i + 1)) + 1) ≤ pw i * (b.getD i 0 + 65536 * val (b.drop (i + 1))) := Int.mul_le_mul_of_nonneg_left (by omega) (by omega)
  rw [Int.mul_add] at h4
  omega
theorem drop_eq {a b : List Int} (hl : a.length = b.length) (i : Nat) (hi : i < a.length) (hd : a.drop (i + 1) = b.drop (i + 1)) (h : a.getD i 0 = b.getD i 0) : a.drop i = b.drop i := by
  rw [List.getD_eq_getElem?_getD, List.getD_eq_getElem?_getD, List.getElem?_eq_getElem hi, List.getElem?_eq_getElem (by omega)] at h
  rw [List.drop_eq_getElem_cons hi, List.drop_eq_getElem_cons (by omega : i < b.length), hd]
  simp at h
  rw [h]
/-- a nought at the end adds nothing -/
theorem take_val {l : List Int} {m : Nat} (hm : m < l.length) (h : l.getD m 0 = 0) : val (l.take (m + 1)) = val (l.take m) := by
  have e : l.take (m + 1) = l.take m ++ [l.getD m 0] := by
    rw [List.take_succ_eq_append_getElem hm, List.getD_eq_getElem?_getD, List.getElem?_eq_getElem hm]; rfl
  rw [e, val_append, h]
  simp [val]
theorem nor_take {l : List Int} {m : Nat} (hm : m < l.length) (h : l.getD m 0 ≠ 0) : Nor (l.take (m + 1)) := by
  have e : l.take (m + 1) = l.take m ++ [l.getD m 0] := by
    rw [List.take_succ_eq_append_getElem hm, List.getD_eq_getElem?_getD, List.getElem?_eq_getElem hm]; rfl
  rw [e]
  unfold Nor
  simp
  simpa using h
theorem nor_nil : Nor [] := by unfold Nor; simp
theorem eq_of_val {a b : List Int} (ha : Dig a) (hb : Dig b) (hna : Nor a) (hnb : Nor b) (h : val a = val b) : a = b := by
  induction a generalizing b with
  | nil => exact (val_zero hb hnb h.symm).symm
  | cons d a ih =>
    cases b with
    | nil => exact absurd (val_zero ha hna h) (by simp)
    | cons e b =>
      obtain ⟨h1, h2⟩ := ha.head
      obtain ⟨h3, h4⟩ := hb.head
      have h5 : d + 65536 * val a = e + 65536 * val b := h
      have h6 : d = e := by omega
      have h7 : val a = val b := by omega
      rw [h6, ih ha.tail hb.tail (getLast_cons hna) (getLast_cons hnb) h7]

/-- what is left of a word behind so many digits is below that -/
def cap : Nat → Int
  | 0 => 18446744073709551616
  | 1 => 281474976710656
  | 2 => 4294967296
  | 3 => 65536
  | _ => 1
theorem cap_step {k : Nat} {n : Int} (h0 : 0 < n) (h : n < cap k) : n / 65536 < cap (k + 1) ∧ k ≤ 3 := by
  match k with
  | 0 => simp [cap] at *; omega
  | 1 => simp [cap] at *; omega
  | 2 => simp [cap] at *; omega
  | 3 => simp [cap] at *; omega
  | k + 4 => simp [cap] at h; omega
/-- what holds at the head of Great's loop -/
structure GInv (N : Int) (l : List Int) (x : Int) : Prop where
  cp : x < cap l.length
  dig : Dig l
  nor : x = 0 → Nor l
  sum : N = val l + pw l.length * x
theorem GInv.step {N x : Int} {l : List Int} (h : GInv N l x) (h0 : 0 < x) : GInv N (l ++ [x % 65536]) (x / 65536) := by
  have e := h.sum
  refine ⟨?_, h.dig.append (Dig.nil.cons (by omega) (by omega)), fun hz => ?_, ?_⟩
  · rw [List.length_append]
    exact (cap_step h0 h.cp).1
  · unfold Nor
    simp
    omega
  · rw [val_append, List.length_append]
    show N = val l + pw l.length * (x % 65536 + 65536 * 0) + pw (l.length + 1) * (x / 65536)
    show N = val l + pw l.length * (x % 65536 + 65536 * 0) + 65536 * pw l.length * (x / 65536)
    have e2 : pw l.length * x = pw l.length * (x % 65536 + 65536 * (x / 65536)) := by congr 1; omega
    rw [Int.mul_add] at e2
    have e3 : pw l.length * (65536 * (x / 65536)) = 65536 * pw l.length * (x / 65536) := by rw [← Int.mul_assoc, Int.mul_comm (pw _) 65536]
    rw [show x % 65536 + 65536 * 0 = x % 65536 from by omega]
    omega
theorem val_set {l : List Int} {j : Nat} (h : j < l.length) (x : Int) : val (l.set j x) = val l + pw j * (x - l.getD j 0) := by
  induction l generalizing j with
  | nil => simp at h
  | cons d l ih =>
    cases j with
    | zero => simp [val, pw]; omega
    | succ j =>
      have := ih (j := j) (by simpa using h)
      show d + 65536 * val (l.set j x) = d + 65536 * val l + 65536 * pw j * (x - (d :: l).getD (j + 1) 0)
      rw [this, Int.mul_add, Int.mul_assoc]
      simp [List.getD_cons_succ]
      omega
theorem Dig.set {l : List Int} (h : Dig l) (j : Nat) {x : Int} (h0 : 0 ≤ x) (h1 : x < 65536) : Dig (l.set j x) := fun y hy => by
  rcases List.mem_or_eq_of_mem_set hy with hy | rfl
  · exact h y hy
  · exact ⟨h0, h1⟩
theorem Dig.zeros (n : Nat) : Dig (List.replicate n 0) := fun x hx => by
  rw [List.eq_of_mem_replicate hx]; decide
theorem val_zeros (n : Nat) : val (List.replicate n 0) = 0 := by
  induction n with
  | zero => rfl
  | succ n ih => rw [List.replicate_succ]; simp [val, ih]
theorem val_take_succ {l : List Int} (k : Nat) : val (l.take (k + 1)) = val (l.take k) + pw k * l.getD k 0 := by
  rcases Nat.lt_or_ge k l.length with hk | hk
  · have e : l.take (k + 1) = l.take k ++ [l.getD k 0] := by
      rw [List.take_succ_eq_append_getElem hk, List.getD_eq_getElem?_getD, List.getElem?_eq_getElem hk]; rfl
    have hl : (l.take k).length = k := by rw [List.length_take]; omega
    rw [e, val_append, hl]; simp [val]
  · rw [List.take_of_length_le hk, List.take_of_length_le (by omega), List.getD_eq_getElem?_getD, List.getElem?_eq_none hk]
    simp
/-- a row of the product: at the head of the inner loop -/
structure Row (a b O0 : List Int) (i : Nat) (O : List Int) (cy : Int) (k : Nat) : Prop where
  dig : Dig O
  len : O.length = a.length + b.length + 1
  c0 : 0 ≤ cy
  c1 : cy < 65536
  sum : val O + pw (i + k) * cy = val O0 + pw i * (a.getD i 0 * val (b.take k))
theorem Row.step {a b O0 O : List Int} {i k : Nat} {cy : Int} (h : Row a b O0 i O cy k) (da : Dig a) (db : Dig b) (hi : i < a.length) (hk : k ≤ b.length) :
    let t := cy + O.getD (i + k) 0 + a.getD i 0 * b.getD k 0
    0 ≤ t ∧ t < 4294967296 ∧ Row a b O0 i (O.set (i + k) (t % 65536)) (t / 65536) (k + 1) := by
  intro t
  obtain ⟨a1, a2⟩ := da.getD i
  obtain ⟨b1, b2⟩ := db.getD k
  obtain ⟨o1, o2⟩ := h.dig.getD (i + k)
  have m1 : 0 ≤ a.getD i 0 * b.getD k 0 := Int.mul_nonneg a1 b1
  have m2 : a.getD i 0 * b.getD k 0 ≤ 65535 * 65535 := Int.mul_le_mul (by omega) (by omega) b1 (by decide)
  have c0 := h.c0
  have c1 := h.c1
  have t0 : 0 ≤ t := by show 0 ≤ cy + O.getD (i + k) 0 + a.getD i 0 * b.getD k 0; omega
  have t1 : t < 4294967296 := by show cy + O.getD (i + k) 0 + a.getD i 0 * b.getD k 0 < 4294967296; omega
  refine ⟨t0, t1, h.dig.set _ (by omega) (by omega), by rw [List.length_set]; exact h.len, by omega, by omega, ?_⟩
  rw [val_set (by rw [h.len]; omega), val_take_succ]
  have e := h.sum
  have e1 : pw (i + (k + 1)) = 65536 * pw (i + k) := rfl
  rw [e1]
  have e2 : pw (i + k) * (t % 65536 - O.getD (i + k) 0) + 65536 * pw (i + k) * (t / 65536) = pw (i + k) * (t - O.getD (i + k) 0) := by
    rw [Int.mul_comm 65536, Int.mul_assoc, ← Int.mul_add]
    congr 1; omega
  have e3 : t - O.getD (i + k) 0 = cy + a.getD i 0 * b.getD k 0 := by show cy + O.getD (i + k) 0 + a.getD i 0 * b.getD k 0 - O.getD (i + k) 0 = _; omega
  rw [e3, Int.mul_add] at e2
  have e4 : pw i * (a.getD i 0 * (val (b.take k) + pw k * b.getD k 0)) = pw i * (a.getD i 0 * val (b.take k)) + pw (i + k) * (a.getD i 0 * b.getD k 0) := by
    rw [pw_add, Int.mul_add, Int.mul_add]
    congr 1
    ac_rfl
  rw [e4]
  omega
/-- the product so far: at the head of the outer loop -/
structure Prd (a b : List Int) (i : Nat) (O : List Int) : Prop where
  dig : Dig O
  len : O.length = a.length + b.length + 1
  sum : val O = val (a.take i) * val b
theorem Prd.start (a b : List Int) : Prd a b 0 (List.replicate (a.length + b.length + 1) 0) :=
  ⟨Dig.zeros _, by simp, by rw [val_zeros]; simp [val]⟩
theorem Prd.row {a b O : List Int} {i : Nat} (h : Prd a b i O) : Row a b O i O 0 0 := ⟨h.dig, h.len, by decide, by decide, by simp [val]⟩
theorem Prd.next {a b O0 O : List Int} {i : Nat} {cy : Int} (h0 : Prd a b i O0) (da : Dig a) (db : Dig b) (hi : i < a.length) (h : Row a b O0 i O cy (b.length + 1)) : Prd a b (i + 1) O := by
  have e := h.sum
  rw [List.take_of_length_le (by omega : b.length ≤ b.length + 1), h0.sum] at e
  obtain ⟨v1, v2⟩ := val_bound (da.take i)
  obtain ⟨b1, b2⟩ := val_bound db
  obtain ⟨a1, a2⟩ := da.getD i
  have hl : (a.take i).length = i := by rw [List.length_take]; omega
  rw [hl] at v2
  have e1 : val (a.take i) * val b + pw i * (a.getD i 0 * val b) = val (a.take (i + 1)) * val b := by
    rw [val_take_succ, Int.add_mul, Int.mul_assoc]
  rw [e1] at e
  have hz : cy = 0 := by
    have h1 : val (a.take (i + 1)) < pw (i + 1) := by
      have := (val_bound (da.take (i + 1))).2
      rwa [show (a.take (i + 1)).length = i + 1 from by rw [List.length_take]; omega] at this
    have h2 : val (a.take (i + 1)) * val b < pw (i + 1) * pw b.length := by
      have p1 := pw_pos b.length
      have q1 : val (a.take (i + 1)) * val b ≤ val (a.take (i + 1)) * pw b.length := Int.mul_le_mul_of_nonneg_left (by omega) (val_bound (da.take (i + 1))).1
      have q2 : val (a.take (i + 1)) * pw b.length < pw (i + 1) * pw b.length := Int.mul_lt_mul_of_pos_right h1 p1
      omega
    rw [← pw_add, show i + 1 + b.length = i + (b.length + 1) from by omega] at h2
    have o1 := (val_bound h.dig).1
    have c0 := h.c0
    have p := pw_pos (i + (b.length + 1))
    rcases Int.lt_or_le 0 cy with hc | hc
    · have : pw (i + (b.length + 1)) * 1 ≤ pw (i + (b.length + 1)) * cy := Int.mul_le_mul_of_nonneg_left (by omega) (by omega)
      omega
    · omega
  rw [hz] at e
  exact ⟨h.dig, h.len, by omega⟩
theorem Prd.done {a b O : List Int} (h : Prd a b a.length O) : val O = val a * val b := by
  have := h.sum
  rwa [List.take_of_length_le (Nat.le_refl _)] at this
end Go.Proofs.YtkinchgjidpjnaaGreat.Gr
