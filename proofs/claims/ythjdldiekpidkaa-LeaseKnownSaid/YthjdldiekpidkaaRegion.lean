/- A region that draws its order, told by facts: if each operation, where those that it waits for have left what their facts say, leaves what its own fact says, and no fact is lost as memory grows, then behind the region all facts hold, whatever the order. -/
import Derived.Orders
import Derived.Tactics
import Derived.Below
namespace Go.Proofs.Ythjdldiekpidkaa.Reg
open Go.RowKit
section
variable {P : Program} {ops : Array Oper} {Q : Exit → Act → World → Prop}

/-- What follows, in the place of the region's normal end. -/
def QK (K : Act → World → Prop) (Q : Exit → Act → World → Prop) : Exit → Act → World → Prop
  | .normal, a, w => K a w
  | e, a, w => Q e a w

theorem Oper.wp_QK {o : Oper} {a : Act} {w : World} {K : Act → World → Prop} (h : o.wp P a w K (QK K Q)) : o.wp P a w K Q := by
  unfold Oper.wp at *
  generalize (execOp a.eval o).run P w = r at *
  cases r with
  | ok n w' => cases n <;> exact h
  | halt x w' => cases x <;> exact h

theorem wpOp_of_list {i : Nat} {o : Oper} {K : Act → World → Prop} {a : Act} {w : World} (hi : ops[i]? = some o) (h : wpList P ops (QK K Q) [o] a w) : wpOp P ops Q i K a w := by
  unfold wpOp
  simp only [hi]
  have h' : if Region.wanted o (yielded ops a.tmps) then o.wp P a w K (QK K Q) ∨ (o.asks P a w ∧ LetsOut (QK K Q)) else K (a.put o.dst undef) w := h
  by_cases hw : Region.wanted o (yielded ops a.tmps) = true
  · rw [if_pos hw] at h' ⊢
    exact h'.imp Oper.wp_QK id
  · rw [if_neg hw] at h' ⊢
    exact h'

/-- The operations that operation i waits for. -/
def depsOf (ops : Array Oper) (i : Nat) : List Nat := match ops[i]? with
  | some o => (o.after.toList.filter (Region.binds .any)).map (·.on)
  | none => []

/-- Every operation waits for earlier ones alone. -/
def inOrder (ops : Array Oper) : Bool := (List.range ops.size).all fun i => (depsOf ops i).all fun j => decide (j < i)

theorem inOrder_spec (h : inOrder ops = true) {i : Nat} {o : Oper} (ho : ops[i]? = some o) {e : Edge} (he : e ∈ o.after) (hb : Region.binds .any e = true) : e.on < i := by
  have hi : i < ops.size := (Array.getElem?_eq_some_iff.1 ho).1
  unfold inOrder at h
  rw [List.all_eq_true] at h
  have h1 := h i (List.mem_range.2 hi)
  rw [List.all_eq_true] at h1
  refine of_decide_eq_true (h1 e.on ?_)
  unfold depsOf
  rw [ho]
  exact List.mem_map.2 ⟨e, List.mem_filter.2 ⟨Array.mem_toList_iff.2 he, hb⟩, rfl⟩

/-- What has not come up yet. -/
def rest (ops : Array Oper) (listed : Array Bool) : List Nat := (List.range ops.size).filter fun i => !listed.getD i true

theorem rest_set (listed : Array Bool) (i : Nat) (hi : listed.getD i true = false) : rest ops (listed.setIfInBounds i true) = (rest ops listed).filter fun j => decide (j ≠ i) := by
  unfold rest
  rw [List.filter_filter]
  refine List.filter_congr fun j _ => ?_
  by_cases e : i = j
  · subst e
    rcases Nat.lt_or_ge i listed.size with h | h
    · simp [h]
    · simp [Array.getElem?_eq_none h] at hi
  · rw [getD_set_ne true e]
    have : ¬ (j = i) := fun h => e h.symm
    simp [this]

theorem rest_less (listed : Array Bool) (i : Nat) (hi : listed.getD i true = false) (hs : i < ops.size) : (rest ops (listed.setIfInBounds i true)).length < (rest ops listed).length := by
  rw [rest_set listed i hi]
  refine List.length_filter_lt_length_iff_exists.2 ⟨i, ?_, by simp⟩
  exact List.mem_filter.2 ⟨List.mem_range.2 hs, by simp only [hi]; rfl⟩

theorem all_listed (h : inOrder ops = true) (listed : Array Bool) (hr : Region.ready .any ops listed = []) (hsz : listed.size = ops.size) : ∀ i, i < ops.size → listed.getD i false = true := by
  intro i
  induction i using Nat.strongRecOn with
  | _ i ih =>
    intro hi
    by_cases e : listed.getD i true = false
    · exfalso
      have hm : i ∈ Region.ready .any ops listed := by
        refine mem_ready.2 ⟨e, ops[i], Array.getElem?_eq_getElem hi, fun ed he hb => ?_⟩
        have hlt := inOrder_spec h (Array.getElem?_eq_getElem hi) he hb
        exact ih ed.on hlt (by omega)
      rw [hr] at hm
      cases hm
    · have hl : i < listed.size := by omega
      simp [hl] at e ⊢
      exact e

def upd (x : Nat → Value) (d : Nat) (v : Value) : Nat → Value := fun s => if s = d then v else x s

/-- What one operation owes. -/
def Owes (P : Program) (ops : Array Oper) (Q : Exit → Act → World → Prop) (fr : (Nat → Value) → Act) (dst : Nat → Nat) (G : World → Prop) (F : Nat → Value → World → Prop) (i : Nat) : Prop :=
  ∀ o, ops[i]? = some o → ∀ (x : Nat → Value) (w : World), G w → (∀ j, (depsOf ops i).contains j = true → F j (x (dst j)) w) →
    wpList P ops (QK (fun a' w' => ∃ v, a' = fr (upd x (dst i) v) ∧ G w' ∧ Below w.heap.size w w' ∧ F i v w') Q) [o] (fr x) w

theorem walk {fr : (Nat → Value) → Act} {dst : Nat → Nat} {G : World → Prop} {F : Nat → Value → World → Prop} (hord : inOrder ops = true)
    (hinj : ∀ i j, i < ops.size → j < ops.size → dst i = dst j → i = j)
    (stable : ∀ j v w w', Below w.heap.size w w' → F j v w → F j v w')
    (hstep : ∀ i, i < ops.size → Owes P ops Q fr dst G F i)
    (hend : ∀ x w, G w → (∀ i, i < ops.size → F i (x (dst i)) w) → Q .normal (fr x) w) :
    ∀ (fuel : Nat) (listed : Array Bool) (x : Nat → Value) (w : World), listed.size = ops.size → (rest ops listed).length ≤ fuel → G w → (∀ j, j < ops.size → listed.getD j false = true → F j (x (dst j)) w) →
      wpAny P .any ops Q fuel listed (fr x) w := by
  intro fuel
  have fin : ∀ (listed : Array Bool) (x : Nat → Value) (w : World), listed.size = ops.size → G w → (∀ j, j < ops.size → listed.getD j false = true → F j (x (dst j)) w) → Region.ready .any ops listed = [] → Q .normal (fr x) w :=
    fun listed x w hsz hG hF hr => hend x w hG fun i hi => hF i hi (all_listed hord listed hr hsz i hi)
  induction fuel with
  | zero =>
    intro listed x w hsz hl hG hF
    have hr : Region.ready .any ops listed = [] := by
      have h0 : rest ops listed = [] := List.eq_nil_of_length_eq_zero (by omega)
      apply List.eq_nil_iff_forall_not_mem.2
      intro i hi
      have h1 := (mem_ready.1 hi).1
      obtain ⟨o, ho, _⟩ := (mem_ready.1 hi).2
      have h2 : i ∈ rest ops listed := List.mem_filter.2 ⟨List.mem_range.2 (Array.getElem?_eq_some_iff.1 ho).1, by simp only [h1]; rfl⟩
      rw [h0] at h2
      cases h2
    exact ⟨hr, fin listed x w hsz hG hF hr⟩
  | succ fuel ih =>
    intro listed x w hsz hl hG hF
    refine ⟨fun hr => fin listed x w hsz hG hF hr, fun i hi => ?_⟩
    obtain ⟨h0, o, ho, hdone⟩ := mem_ready.1 hi
    have his : i < ops.size := (Array.getElem?_eq_some_iff.1 ho).1
    refine wpOp_of_list ho ?_
    have hs := hstep i his o ho x w hG fun j hj => by
      unfold depsOf at hj
      rw [ho] at hj
      simp only [List.contains_eq_mem, List.mem_map, List.mem_filter, decide_eq_true_eq] at hj
      obtain ⟨e, ⟨he, hb⟩, rfl⟩ := hj
      have hlt := inOrder_spec hord ho (Array.mem_toList_iff.1 he) hb
      exact hF e.on (by omega) (hdone e (Array.mem_toList_iff.1 he) hb)
    have mono : ∀ {K K' : Act → World → Prop}, (∀ a w, K a w → K' a w) → wpList P ops (QK K Q) [o] (fr x) w → wpList P ops (QK K' Q) [o] (fr x) w := by
      intro K K' hk h
      have h' : if Region.wanted o (yielded ops (fr x).tmps) then o.wp P (fr x) w K (QK K Q) ∨ (o.asks P (fr x) w ∧ LetsOut (QK K Q)) else K ((fr x).put o.dst undef) w := h
      show if Region.wanted o (yielded ops (fr x).tmps) then o.wp P (fr x) w K' (QK K' Q) ∨ (o.asks P (fr x) w ∧ LetsOut (QK K' Q)) else K' ((fr x).put o.dst undef) w
      by_cases hw : Region.wanted o (yielded ops (fr x).tmps) = true
      · rw [if_pos hw] at h' ⊢
        refine h'.imp (fun h1 => ?_) id
        have h2 : o.wp P (fr x) w K' Q := Oper.wp_mono hk (Oper.wp_QK h1)
        unfold Oper.wp at h2 ⊢
        generalize (execOp (fr x).eval o).run P w = r at *
        cases r with
        | ok n w' => cases n <;> exact h2
        | halt y w' => cases y <;> exact h2
      · rw [if_neg hw] at h' ⊢
        exact hk _ _ h'
    refine mono ?_ hs
    rintro a' w' ⟨v, rfl, hG', hb, hFi⟩
    refine ih (listed.setIfInBounds i true) (upd x (dst i) v) w' (by simpa using hsz) (by have := rest_less (ops := ops) listed i h0 his; omega) hG' ?_
    intro j hj hlj
    by_cases e : i = j
    · subst e
      have : upd x (dst i) v (dst i) = v := by simp [upd]
      rw [this]; exact hFi
    · have hne : dst j ≠ dst i := fun h => e (hinj j i hj his h).symm
      have : upd x (dst i) v (dst j) = x (dst j) := by simp [upd, hne]
      rw [this]
      rw [getD_set_ne false e] at hlj
      exact stable j _ w w' hb (hF j hj hlj)

/-- **The region.** -/
theorem region {fr : (Nat → Value) → Act} {dst : Nat → Nat} (G : World → Prop) (F : Nat → Value → World → Prop) {id : Nat} {a : Act} {w : World} (x : Nat → Value) (ha : a = fr x) (hm : P.follows .mixedOrders = true) (hord : inOrder ops = true)
    (hinj : ∀ i j, i < ops.size → j < ops.size → dst i = dst j → i = j)
    (stable : ∀ j v w w', Below w.heap.size w w' → F j v w → F j v w')
    (hG : G w.drew)
    (hstep : ∀ i, i < ops.size → Owes P ops Q fr dst G F i)
    (hend : ∀ x w, G w → (∀ i, i < ops.size → F i (x (dst i)) w) → Q .normal (fr x) w) : (Code.region id ops true).wp P Q a w := by
  subst ha
  refine wp_region_any hm (walk hord hinj stable hstep hend _ _ x w.drew (by simp) ?_ hG (fun j hj hl => ?_))
  · unfold rest
    exact Nat.le_trans (List.length_filter_le _ _) (by simp)
  · simp [hj] at hl
end
end Go.Proofs.Ythjdldiekpidkaa.Reg
