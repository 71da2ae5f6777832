/- As Reg.region, for regions that also write: the invariant knows which operations have come. -/
import Derived.Test.YthjdldiekpidkaaRegion
namespace Go.Proofs.Ythjdldiekpidkaa.Reg
open Go.RowKit
section
variable {P : Program} {ops : Array Oper} {Q : Exit → Act → World → Prop}

/-- Which operations have come, with one more. -/
def come (L : Nat → Bool) (i : Nat) : Nat → Bool := fun j => if j = i then true else L j

theorem come_set (listed : Array Bool) (i : Nat) (hi : i < listed.size) : (fun j => (listed.setIfInBounds i true).getD j false) = come (fun j => listed.getD j false) i := by
  funext j
  unfold come
  by_cases h : j = i
  · subst h; simp [hi]
  · rw [if_neg h, getD_set_ne false (fun e => h e.symm)]

/-- What one operation owes; the invariant knows which operations have come. -/
def Owes2 (P : Program) (ops : Array Oper) (Q : Exit → Act → World → Prop) (fr : (Nat → Value) → Act) (dst : Nat → Nat) (G : (Nat → Bool) → World → Prop) (F : Nat → Value → Prop) (i : Nat) : Prop :=
  ∀ o, ops[i]? = some o → ∀ (L : Nat → Bool) (x : Nat → Value) (w : World), L i = false → G L w → (∀ j, (depsOf ops i).contains j = true → L j = true ∧ F j (x (dst j))) →
    wpList P ops (QK (fun a' w' => ∃ v, a' = fr (upd x (dst i) v) ∧ G (come L i) w' ∧ F i v) Q) [o] (fr x) w

theorem walk2 {fr : (Nat → Value) → Act} {dst : Nat → Nat} {G : (Nat → Bool) → World → Prop} {F : Nat → Value → Prop} (hord : inOrder ops = true)
    (hinj : ∀ i j, i < ops.size → j < ops.size → dst i = dst j → i = j)
    (hstep : ∀ i, i < ops.size → Owes2 P ops Q fr dst G F i)
    (hend : ∀ L x w, G L w → (∀ i, i < ops.size → L i = true ∧ F i (x (dst i))) → Q .normal (fr x) w) :
    ∀ (fuel : Nat) (listed : Array Bool) (x : Nat → Value) (w : World), listed.size = ops.size → (rest ops listed).length ≤ fuel → G (fun j => listed.getD j false) w → (∀ j, j < ops.size → listed.getD j false = true → F j (x (dst j))) →
      wpAny P .any ops Q fuel listed (fr x) w := by
  intro fuel
  have fin : ∀ (listed : Array Bool) (x : Nat → Value) (w : World), listed.size = ops.size → G (fun j => listed.getD j false) w → (∀ j, j < ops.size → listed.getD j false = true → F j (x (dst j))) → Region.ready .any ops listed = [] → Q .normal (fr x) w :=
    fun listed x w hsz hG hF hr => hend _ x w hG fun i hi => ⟨all_listed hord listed hr hsz i hi, hF i hi (all_listed hord listed hr hsz i hi)⟩
  induction fuel with
  | zero =>
    intro listed x w hsz hl hG hF
    have hr : Region.ready .any ops listed = [] := by
      have h0 : rest ops listed = [] := List.eq_nil_of_length_eq_zero (by omega)
      apply List.eq_nil_iff_forall_not_mem.2
      intro i hi
      have h1 := (mem_ready.1 hi).1
      obtain ⟨o, ho, _⟩ := (mem_ready.1 hi).2
      have h2 : i ∈ rest ops listed := List.mem_filter.2 ⟨List.mem_range.2 (Array.getElem?_eq_some_iff.1 ho).1, by simp only [h1]; rfl⟩
      rw [h0] at h2
      cases h2
    exact ⟨hr, fin listed x w hsz hG hF hr⟩
  | succ fuel ih =>
    intro listed x w hsz hl hG hF
    refine ⟨fun hr => fin listed x w hsz hG hF hr, fun i hi => ?_⟩
    obtain ⟨h0, o, ho, hdone⟩ := mem_ready.1 hi
    have his : i < ops.size := (Array.getElem?_eq_some_iff.1 ho).1
    refine wpOp_of_list ho ?_
    have h00 : listed.getD i false = false := by
      have hl : i < listed.size := by omega
      simp [hl] at h0 ⊢
      exact h0
    have hs := hstep i his o ho (fun j => listed.getD j false) x w h00 hG fun j hj => by
      unfold depsOf at hj
      rw [ho] at hj
      simp only [List.contains_eq_mem, List.mem_map, List.mem_filter, decide_eq_true_eq] at hj
      obtain ⟨e, ⟨he, hb⟩, rfl⟩ := hj
      have hlt := inOrder_spec hord ho (Array.mem_toList_iff.1 he) hb
      exact ⟨hdone e (Array.mem_toList_iff.1 he) hb, hF e.on (by omega) (hdone e (Array.mem_toList_iff.1 he) hb)⟩
    have mono : ∀ {K K' : Act → World → Prop}, (∀ a w, K a w → K' a w) → wpList P ops (QK K Q) [o] (fr x) w → wpList P ops (QK K' Q) [o] (fr x) w := by
      intro K K' hk h
      have h' : if Region.wanted o (yielded ops (fr x).tmps) then o.wp P (fr x) w K (QK K Q) ∨ (o.asks P (fr x) w ∧ LetsOut (QK K Q)) else K ((fr x).put o.dst undef) w := h
      show if Region.wanted o (yielded ops (fr x).tmps) then o.wp P (fr x) w K' (QK K' Q) ∨ (o.asks P (fr x) w ∧ LetsOut (QK K' Q)) else K' ((fr x).put o.dst undef) w
      by_cases hw : Region.wanted o (yielded ops (fr x).tmps) = true
      · rw [if_pos hw] at h' ⊢
        refine h'.imp (fun h1 => ?_) id
        have h2 : o.wp P (fr x) w K' Q := Oper.wp_mono hk (Oper.wp_QK h1)
        unfold Oper.wp at h2 ⊢
        generalize (execOp (fr x).eval o).run P w = r at *
        cases r with
        | ok n w' => cases n <;> exact h2
        | halt y w' => cases y <;> exact h2
      · rw [if_neg hw] at h' ⊢
        exact hk _ _ h'
    refine mono ?_ hs
    rintro a' w' ⟨v, rfl, hG', hFi⟩
    refine ih (listed.setIfInBounds i true) (upd x (dst i) v) w' (by simpa using hsz) (by have := rest_less (ops := ops) listed i h0 his; omega) (by rw [come_set listed i (by omega)]; exact hG') ?_
    intro j hj hlj
    by_cases e : i = j
    · subst e
      have : upd x (dst i) v (dst i) = v := by simp [upd]
      rw [this]; exact hFi
    · have hne : dst j ≠ dst i := fun h => e (hinj j i hj his h).symm
      have : upd x (dst i) v (dst j) = x (dst j) := by simp [upd, hne]
      rw [this]
      rw [getD_set_ne false e] at hlj
      exact hF j hj hlj

/-- **The region, its invariant knowing what has come.** -/
theorem region2 {fr : (Nat → Value) → Act} {dst : Nat → Nat} (G : (Nat → Bool) → World → Prop) (F : Nat → Value → Prop) {id : Nat} {a : Act} {w : World} (x : Nat → Value) (ha : a = fr x) (hm : P.follows .mixedOrders = true) (hord : inOrder ops = true)
    (hinj : ∀ i j, i < ops.size → j < ops.size → dst i = dst j → i = j)
    (hG : G (fun _ => false) w.drew)
    (hstep : ∀ i, i < ops.size → Owes2 P ops Q fr dst G F i)
    (hend : ∀ L x w, G L w → (∀ i, i < ops.size → L i = true ∧ F i (x (dst i))) → Q .normal (fr x) w) : (Code.region id ops true).wp P Q a w := by
  subst ha
  refine wp_region_any hm (walk2 hord hinj hstep hend _ _ x w.drew (by simp) ?_ ?_ (fun j hj hl => ?_))
  · unfold rest
    exact Nat.le_trans (List.length_filter_le _ _) (by simp)
  · have e : (fun j => (Array.replicate ops.size false).getD j false) = fun _ => false := by
      funext j
      by_cases h : j < ops.size <;> simp [h]
    rw [e]
    exact hG
  · simp [hj] at hl
end
end Go.Proofs.Ythjdldiekpidkaa.Reg
