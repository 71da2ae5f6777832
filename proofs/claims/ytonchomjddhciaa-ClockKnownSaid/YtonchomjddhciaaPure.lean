/- clock: the plain laws: sums that stop at the top, the greatest hand less the least one, what is past. -/
namespace Go.Proofs.Ytonchomjddhciaa.Clk

/-- Every number is a uint64. -/
def U (l : List Int) : Prop := ∀ x ∈ l, 0 ≤ x ∧ x ≤ 18446744073709551615

def nth (l : List Int) (k : Nat) : Int := l.getD k 0

theorem U.at {l : List Int} (h : U l) (k : Nat) : 0 ≤ nth l k ∧ nth l k ≤ 18446744073709551615 := by
  by_cases hk : k < l.length
  · have e : nth l k = l[k] := by simp [nth, List.getD, hk]
    rw [e]
    exact h _ (List.getElem_mem hk)
  · have e : nth l k = 0 := by simp [nth, List.getD, Nat.le_of_not_lt hk]
    rw [e]
    omega

theorem U.set {l : List Int} (h : U l) (k : Nat) (v : Int) (h0 : 0 ≤ v) (h1 : v ≤ 18446744073709551615) : U (l.set k v) := by
  intro x hx
  rcases List.mem_or_eq_of_mem_set hx with hx | rfl
  · exact h x hx
  · exact ⟨h0, h1⟩

theorem nth_set_self (l : List Int) (k : Nat) (v : Int) (hk : k < l.length) : nth (l.set k v) k = v := by simp [nth, List.getD, hk]
theorem nth_set_ne (l : List Int) (k j : Nat) (v : Int) (hk : k ≠ j) : nth (l.set k v) j = nth l j := by simp [nth, List.getD, List.getElem?_set_ne hk]

/-- The sum, or the top. -/
def sat (a b : Int) : Int := if a + b ≤ 18446744073709551615 then a + b else 18446744073709551615

theorem sat_bd {a b : Int} (h0 : 0 ≤ a) (h1 : 0 ≤ b) : 0 ≤ sat a b ∧ sat a b ≤ 18446744073709551615 := by unfold sat; split <;> omega
theorem sat_ge {a b : Int} (h2 : a ≤ 18446744073709551615) (h1 : 0 ≤ b) : a ≤ sat a b := by unfold sat; split <;> omega

def sumTo (l : List Int) : Nat → Int
  | 0 => 0
  | k + 1 => sat (sumTo l k) (nth l k)

theorem sumTo_bd {l : List Int} (h : U l) (k : Nat) : 0 ≤ sumTo l k ∧ sumTo l k ≤ 18446744073709551615 := by
  induction k with
  | zero => simp [sumTo]
  | succ k ih => exact sat_bd ih.1 (h.at k).1

theorem sumTo_top {l : List Int} (h : U l) {k : Nat} (hk : sumTo l k = 18446744073709551615) (m : Nat) : sumTo l (k + m) = 18446744073709551615 := by
  induction m with
  | zero => exact hk
  | succ m ih =>
    show sat (sumTo l (k + m)) (nth l (k + m)) = _
    rw [ih]
    have := (h.at (k + m)).1
    unfold sat
    split <;> omega

theorem sumTo_over {l : List Int} (h : U l) {k n : Nat} (hk : k < n) (ho : 18446744073709551615 < sumTo l k + nth l k) : sumTo l n = 18446744073709551615 := by
  have e : sumTo l (k + 1) = 18446744073709551615 := by show sat _ _ = _; unfold sat; rw [if_neg (by omega)]
  have := sumTo_top h e (n - (k + 1))
  rwa [show k + 1 + (n - (k + 1)) = n by omega] at this

theorem sumTo_step {l : List Int} {k : Nat} (ho : sumTo l k + nth l k ≤ 18446744073709551615) : sumTo l (k + 1) = sumTo l k + nth l k := by
  show sat _ _ = _; unfold sat; rw [if_pos ho]

def mxTo (l : List Int) : Nat → Int
  | 0 => nth l 0
  | k + 1 => if mxTo l k < nth l k then nth l k else mxTo l k
def mnTo (l : List Int) : Nat → Int
  | 0 => nth l 0
  | k + 1 => if nth l k < mnTo l k then nth l k else mnTo l k

theorem mxTo_bd {l : List Int} (h : U l) (k : Nat) : 0 ≤ mxTo l k ∧ mxTo l k ≤ 18446744073709551615 := by
  induction k with
  | zero => exact h.at 0
  | succ k ih => unfold mxTo; split; exact h.at k; exact ih
theorem mnTo_bd {l : List Int} (h : U l) (k : Nat) : 0 ≤ mnTo l k ∧ mnTo l k ≤ 18446744073709551615 := by
  induction k with
  | zero => exact h.at 0
  | succ k ih => unfold mnTo; split; exact h.at k; exact ih

theorem mxTo_ge (l : List Int) (k i : Nat) (hi : i < k) : nth l i ≤ mxTo l k := by
  induction k with
  | zero => omega
  | succ k ih =>
    unfold mxTo
    by_cases e : i = k
    · subst e; split <;> omega
    · have := ih (by omega); split <;> omega
theorem mnTo_le (l : List Int) (k i : Nat) (hi : i < k) : mnTo l k ≤ nth l i := by
  induction k with
  | zero => omega
  | succ k ih =>
    unfold mnTo
    by_cases e : i = k
    · subst e; split <;> omega
    · have := ih (by omega); split <;> omega
theorem mxTo_at (l : List Int) (k : Nat) : ∃ i, (i < k ∨ i = 0) ∧ mxTo l k = nth l i := by
  induction k with
  | zero => exact ⟨0, .inr rfl, rfl⟩
  | succ k ih =>
    unfold mxTo
    split
    · exact ⟨k, .inl (by omega), rfl⟩
    · obtain ⟨i, hi, e⟩ := ih; exact ⟨i, by omega, e⟩
theorem mnTo_at (l : List Int) (k : Nat) : ∃ i, (i < k ∨ i = 0) ∧ mnTo l k = nth l i := by
  induction k with
  | zero => exact ⟨0, .inr rfl, rfl⟩
  | succ k ih =>
    unfold mnTo
    split
    · exact ⟨k, .inl (by omega), rfl⟩
    · obtain ⟨i, hi, e⟩ := ih; exact ⟨i, by omega, e⟩

theorem mnTo_le_mxTo (l : List Int) (k : Nat) : mnTo l k ≤ mxTo l k := by
  cases k with
  | zero => exact Int.le_refl _
  | succ k => exact Int.le_trans (mnTo_le l (k + 1) k (by omega)) (mxTo_ge l (k + 1) k (by omega))

/-- The greatest hand less the least one; 0 of none. -/
def skew (l : List Int) : Int := if l.length = 0 then 0 else mxTo l l.length - mnTo l l.length

theorem skew_nonneg (l : List Int) : 0 ≤ skew l := by
  unfold skew
  split
  · omega
  · have := mnTo_le_mxTo l l.length; omega

theorem skew_bd {l : List Int} (h : U l) : 0 ≤ skew l ∧ skew l ≤ 18446744073709551615 := by
  refine ⟨skew_nonneg l, ?_⟩
  unfold skew
  split
  · omega
  · have h1 := mxTo_bd h l.length; have h2 := mnTo_bd h l.length; omega

theorem skew_ge (l : List Int) (i k : Nat) (hi : i < l.length) (hk : k < l.length) : nth l i - nth l k ≤ skew l := by
  unfold skew
  rw [if_neg (by omega)]
  have h1 := mxTo_ge l l.length i hi
  have h2 := mnTo_le l l.length k hk
  omega

/-- The document's: of any two the greatest difference. -/
def rowTo (l : List Int) (i : Nat) (n : Int) : Nat → Int
  | 0 => n
  | k + 1 => if nth l k ≤ nth l i then max (rowTo l i n k) (nth l i - nth l k) else rowTo l i n k
def refTo (l : List Int) : Nat → Int
  | 0 => 0
  | i + 1 => rowTo l i (refTo l i) l.length

theorem rowTo_ge (l : List Int) (i : Nat) (n : Int) (k : Nat) : n ≤ rowTo l i n k := by
  induction k with
  | zero => exact Int.le_refl _
  | succ k ih => unfold rowTo; split <;> omega
theorem rowTo_all (l : List Int) (i : Nat) (n : Int) (hn : 0 ≤ n) (k j : Nat) (hj : j < k) : nth l i - nth l j ≤ rowTo l i n k := by
  induction k with
  | zero => omega
  | succ k ih =>
    have hg := rowTo_ge l i n k
    unfold rowTo
    by_cases e : j = k
    · subst e; split <;> omega
    · have := ih (by omega); split <;> omega
theorem rowTo_le (l : List Int) (i : Nat) (n : Int) (hi : i < l.length) (hn : n ≤ skew l) (k : Nat) (hk : k ≤ l.length) : rowTo l i n k ≤ skew l := by
  induction k with
  | zero => exact hn
  | succ k ih =>
    have := ih (by omega)
    have := skew_ge l i k hi (by omega)
    unfold rowTo
    split <;> omega
theorem refTo_bd (l : List Int) (i : Nat) (hi : i ≤ l.length) : 0 ≤ refTo l i ∧ refTo l i ≤ skew l := by
  induction i with
  | zero => exact ⟨Int.le_refl _, skew_nonneg l⟩
  | succ i ih =>
    have h := ih (by omega)
    exact ⟨Int.le_trans h.1 (rowTo_ge l i _ _), rowTo_le l i _ (by omega) h.2 _ (Nat.le_refl _)⟩
theorem refTo_mono (l : List Int) (i m : Nat) : refTo l i ≤ refTo l (i + m) := by
  induction m with
  | zero => exact Int.le_refl _
  | succ m ih => exact Int.le_trans ih (rowTo_ge l (i + m) _ _)
theorem refTo_all (l : List Int) (i j : Nat) (hi : i < l.length) (hj : j < l.length) : nth l i - nth l j ≤ refTo l l.length := by
  have h1 : nth l i - nth l j ≤ refTo l (i + 1) := rowTo_all l i _ (refTo_bd l i (by omega)).1 _ j hj
  have h2 := refTo_mono l (i + 1) (l.length - (i + 1))
  rw [show i + 1 + (l.length - (i + 1)) = l.length by omega] at h2
  omega
theorem refTo_skew (l : List Int) : refTo l l.length = skew l := by
  have h := refTo_bd l l.length (Nat.le_refl _)
  by_cases e : l.length = 0
  · have : skew l = 0 := by unfold skew; rw [if_pos e]
    omega
  · obtain ⟨i, hi, ei⟩ := mxTo_at l l.length
    obtain ⟨j, hj, ej⟩ := mnTo_at l l.length
    have := refTo_all l i j (by omega) (by omega)
    have e2 : skew l = nth l i - nth l j := by unfold skew; rw [if_neg e, ei, ej]
    omega

/-- What is past. -/
def past (c u s : Int) : Bool := decide (u + s ≤ 18446744073709551615) && decide (u + s < c)

theorem past_mono {c c' u s : Int} (h : past c u s = true) (hc : c ≤ c') : past c' u s = true := by
  unfold past at *
  simp only [Bool.and_eq_true, decide_eq_true_eq] at *
  omega
theorem past_after {c u s : Int} (h : past c u s = true) (hs : 0 ≤ s) : u < c := by
  unfold past at h
  simp only [Bool.and_eq_true, decide_eq_true_eq] at h
  omega
theorem past_all {l : List Int} {p i : Nat} {u s : Int} (h : past (nth l p) u s = true) (hw : skew l ≤ s) (hp : p < l.length) (hi : i < l.length) : u < nth l i := by
  have := skew_ge l p i hp hi
  unfold past at h
  simp only [Bool.and_eq_true, decide_eq_true_eq] at h
  omega
end Go.Proofs.Ytonchomjddhciaa.Clk
