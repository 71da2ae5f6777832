/- Literals that make memory, as one step of the walk: slices of structs among them. -/
import Derived.Test.YthjdldiekpidkaaPlx0
import Derived.Great.BuildSlice
namespace Go.Proofs.Ythjdldiekpidkaa
open Go.RowKit Go.Proofs.YthjdldiekpidkaaW.PrintWords Go.Proofs.YthjdldiekpidkaaW.PrintLast Go.Proofs.YthjdldiekpidkaaW.PrintMore
open Pl
set_option linter.unusedVariables false

theorem lit_event {P : Program} {ops : Array Oper} {rest : List Oper} {o : Oper} {a : Act} {Q : Exit → Act → World → Prop} {W : World} (hgd : o.guard = none) {N : Tmp} (_hd : o.dst = some N) (cs : Array Value) (t : TypeId) (n : Nat)
    (hrun : (execOp a.eval o).run P W = .ok (.value (.slice (some ⟨W.heap.size, 0, none⟩) n n)) (W.alloc (.cells cs t (0, 0))))
    (h : ∀ g, W.heap.size ≤ g → ∀ w1, w1.heap[g]? = some (.cells cs t (0, 0)) → Below W.heap.size W w1 → wpList P ops Q rest (a.put o.dst (.slice (some ⟨g, 0, none⟩) n n)) w1) : wpList P ops Q (o :: rest) a W :=
  Kd.event_run hgd hrun (h _ (Nat.le_refl _) _ (blk_new W _) (below_alloc (Below.refl _ _) _))

/-- The same, of a guarded operation whose guard says yes. -/
theorem lit_event_g {P : Program} {ops : Array Oper} {rest : List Oper} {o : Oper} {a : Act} {Q : Exit → Act → World → Prop} {W : World} {N : Tmp} (_hd : o.dst = some N) (hw : Region.wanted o (yielded ops a.tmps) = true) (cs : Array Value) (t : TypeId) (n : Nat)
    (hrun : (execOp a.eval o).run P W = .ok (.value (.slice (some ⟨W.heap.size, 0, none⟩) n n)) (W.alloc (.cells cs t (0, 0))))
    (h : ∀ g, W.heap.size ≤ g → ∀ w1, w1.heap[g]? = some (.cells cs t (0, 0)) → Below W.heap.size W w1 → wpList P ops Q rest (a.put o.dst (.slice (some ⟨g, 0, none⟩) n n)) w1) : wpList P ops Q (o :: rest) a W := by
  refine Go.BigFrame.wpList_want hw fun K hK => ?_
  unfold Oper.wp
  rw [hrun]
  exact hK _ _ (h _ (Nat.le_refl _) _ (blk_new W _) (below_alloc (Below.refl _ _) _))


theorem build_runN {P : Program} {o : Oper} {a : Act} {W : World} {z : Value} {b s : Nat} (t e : TypeId) (len : Nat) (cells : Array Value) (hinfo : (P.info? e).map (fun i => (i.zero, i.size, i.bytes)) = some (some z, s, b)) (hu : P.underlying t = some (.slice e)) (parts : Array (Nat × Operand)) (ho : o.op = .buildSlice t len parts) (h0 : 0 < len * s) (h1 : len * s ≤ 2 ^ 24)
    (vals : List (Nat × Value)) (hf : Instr.fill (fun i => some (i * s, s)) ((Array.range (len * s)).map (z.cells[· % z.cells.size]!)) vals = some cells) (hv : (parts.map fun (i, x) => (i, a.eval x)).toList = vals) :
    (execOp a.eval o).run P W = .ok (.value (.slice (some ⟨W.heap.size, 0, none⟩) len len)) (W.alloc (.cells cells e (0, 0))) := by
  obtain ⟨i, hi, hz⟩ := Option.map_eq_some_iff.1 hinfo
  simp only [Prod.mk.injEq] at hz
  obtain ⟨z1, z2, _⟩ := hz
  unfold execOp
  simp only [ho, Sem.run_bind, run_buildSlice W t e len _ cells i z hu hi z1 (by rw [z2]; omega) (by rw [z2]; omega) (by rw [z2, hv]; exact hf), Result.andThen_ok]
  rfl

def cells24 (x : S24) : List Value := [.int .u64 x.f0, .int .u64 x.f1, .int .u64 x.f2, .int .u64 x.f3, .bool x.f4]
def cells43 (x : S43) : List Value := [.int .i64 x.f0, .int .u64 x.f1, .int .u64 x.f2, .int .u64 x.f3]

theorem C_leases3 {w : World} {g : Nat} {fr : Nat × Nat} {cs : Array Value} (x y z : S24) (h : w.heap[g]? = some (.cells cs 24 fr)) (hc : cs.toList = cells24 x ++ (cells24 y ++ cells24 z)) :
    Kd.C k24 w (some ⟨g, 0, none⟩) [x, y, z].length [x, y, z] := by
  have hcell : ∀ i, w.cell? ⟨g, i, none⟩ = cs[i]? := fun i => cell_of_row w g i cs 24 fr h
  have hl : ∀ i, cs[i]? = (cells24 x ++ (cells24 y ++ cells24 z))[i]? := fun i => by rw [← hc, Array.getElem?_toList]
  refine ⟨rfl, by simp, fun _ => ⟨_, rfl, fun j p hj => ?_⟩⟩
  match j, hj with
  | 0, hj =>
    simp at hj; subst hj
    refine ⟨cells24 x, rfl, k24_mk w x, fun i u hu => ?_⟩
    match i, hu with
    | 0, hu | 1, hu | 2, hu | 3, hu | 4, hu => rw [← hu]; exact (hcell _).trans (hl _)
    | i + 5, hu => simp [cells24] at hu
  | 1, hj =>
    simp at hj; subst hj
    refine ⟨cells24 y, rfl, k24_mk w y, fun i u hu => ?_⟩
    match i, hu with
    | 0, hu | 1, hu | 2, hu | 3, hu | 4, hu => rw [← hu]; exact (hcell _).trans (hl _)
    | i + 5, hu => simp [cells24] at hu
  | 2, hj =>
    simp at hj; subst hj
    refine ⟨cells24 z, rfl, k24_mk w z, fun i u hu => ?_⟩
    match i, hu with
    | 0, hu | 1, hu | 2, hu | 3, hu | 4, hu => rw [← hu]; exact (hcell _).trans (hl _)
    | i + 5, hu => simp [cells24] at hu
  | j + 3, hj => simp at hj

theorem C_acts3 {w : World} {g : Nat} {fr : Nat × Nat} {cs : Array Value} (x y z : S43) (h : w.heap[g]? = some (.cells cs 43 fr)) (hc : cs.toList = cells43 x ++ (cells43 y ++ cells43 z)) :
    Kd.C k43 w (some ⟨g, 0, none⟩) [x, y, z].length [x, y, z] := by
  have hcell : ∀ i, w.cell? ⟨g, i, none⟩ = cs[i]? := fun i => cell_of_row w g i cs 43 fr h
  have hl : ∀ i, cs[i]? = (cells43 x ++ (cells43 y ++ cells43 z))[i]? := fun i => by rw [← hc, Array.getElem?_toList]
  refine ⟨rfl, by simp, fun _ => ⟨_, rfl, fun j p hj => ?_⟩⟩
  match j, hj with
  | 0, hj =>
    simp at hj; subst hj
    refine ⟨cells43 x, rfl, k43_mk w x, fun i u hu => ?_⟩
    match i, hu with
    | 0, hu | 1, hu | 2, hu | 3, hu => rw [← hu]; exact (hcell _).trans (hl _)
    | i + 4, hu => simp [cells43] at hu
  | 1, hj =>
    simp at hj; subst hj
    refine ⟨cells43 y, rfl, k43_mk w y, fun i u hu => ?_⟩
    match i, hu with
    | 0, hu | 1, hu | 2, hu | 3, hu => rw [← hu]; exact (hcell _).trans (hl _)
    | i + 4, hu => simp [cells43] at hu
  | 2, hj =>
    simp at hj; subst hj
    refine ⟨cells43 z, rfl, k43_mk w z, fun i u hu => ?_⟩
    match i, hu with
    | 0, hu | 1, hu | 2, hu | 3, hu => rw [← hu]; exact (hcell _).trans (hl _)
    | i + 4, hu => simp [cells43] at hu
  | j + 3, hj => simp at hj
end Go.Proofs.Ythjdldiekpidkaa
