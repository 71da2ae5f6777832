/- clock: literals that make memory, as one step of the walk. -/
import Derived.Test.YtonchomjddhciaaTwo
import Derived.Great.BuildSlice
namespace Go.Proofs.Ytonchomjddhciaa.Clk
open Go.RowKit Go.Proofs.YtonchomjddhciaaW.PrintWords Go.Proofs.YtonchomjddhciaaW.PrintLast Go.Proofs.YtonchomjddhciaaW.PrintMore
set_option linter.unusedVariables false

theorem info37 : (Try.prog.info? 37).map (fun i => (i.zero, i.size, i.bytes)) = some (some (.agg #[.int .i64 0, .int .u64 0]), 2, 16) := by kernel_rfl

theorem lit_event {P : Program} {ops : Array Oper} {rest : List Oper} {o : Oper} {a : Act} {Q : Exit → Act → World → Prop} {W : World} (hgd : o.guard = none) {N : Tmp} (_hd : o.dst = some N) (cs : Array Value) (t : TypeId) (n : Nat)
    (hrun : (execOp a.eval o).run P W = .ok (.value (.slice (some ⟨W.heap.size, 0, none⟩) n n)) (W.alloc (.cells cs t (0, 0))))
    (h : ∀ g, W.heap.size ≤ g → ∀ w1, w1.heap[g]? = some (.cells cs t (0, 0)) → Below W.heap.size W w1 → wpList P ops Q rest (a.put o.dst (.slice (some ⟨g, 0, none⟩) n n)) w1) : wpList P ops Q (o :: rest) a W :=
  Kd.event_run hgd hrun (h _ (Nat.le_refl _) _ (blk_new W _) (below_alloc (Below.refl _ _) _))

/-- The same, of a guarded operation whose guard says yes. -/
theorem lit_event_g {P : Program} {ops : Array Oper} {rest : List Oper} {o : Oper} {a : Act} {Q : Exit → Act → World → Prop} {W : World} {N : Tmp} (_hd : o.dst = some N) (hw : Region.wanted o (yielded ops a.tmps) = true) (cs : Array Value) (t : TypeId) (n : Nat)
    (hrun : (execOp a.eval o).run P W = .ok (.value (.slice (some ⟨W.heap.size, 0, none⟩) n n)) (W.alloc (.cells cs t (0, 0))))
    (h : ∀ g, W.heap.size ≤ g → ∀ w1, w1.heap[g]? = some (.cells cs t (0, 0)) → Below W.heap.size W w1 → wpList P ops Q rest (a.put o.dst (.slice (some ⟨g, 0, none⟩) n n)) w1) : wpList P ops Q (o :: rest) a W := by
  refine Go.BigFrame.wpList_want hw fun K hK => ?_
  unfold Oper.wp
  rw [hrun]
  exact hK _ _ (h _ (Nat.le_refl _) _ (blk_new W _) (below_alloc (Below.refl _ _) _))

theorem build_runN {P : Program} {o : Oper} {a : Act} {W : World} {z : Value} {b s : Nat} (t e : TypeId) (len : Nat) (cells : Array Value) (hinfo : (P.info? e).map (fun i => (i.zero, i.size, i.bytes)) = some (some z, s, b)) (hu : P.underlying t = some (.slice e)) (parts : Array (Nat × Operand)) (ho : o.op = .buildSlice t len parts) (h0 : 0 < len * s) (h1 : len * s ≤ 2 ^ 24)
    (vals : List (Nat × Value)) (hf : Instr.fill (fun i => some (i * s, s)) ((Array.range (len * s)).map (z.cells[· % z.cells.size]!)) vals = some cells) (hv : (parts.map fun (i, x) => (i, a.eval x)).toList = vals) :
    (execOp a.eval o).run P W = .ok (.value (.slice (some ⟨W.heap.size, 0, none⟩) len len)) (W.alloc (.cells cells e (0, 0))) := by
  obtain ⟨i, hi, hz⟩ := Option.map_eq_some_iff.1 hinfo
  simp only [Prod.mk.injEq] at hz
  obtain ⟨z1, z2, _⟩ := hz
  unfold execOp
  simp only [ho, Sem.run_bind, run_buildSlice W t e len _ cells i z hu hi z1 (by rw [z2]; omega) (by rw [z2]; omega) (by rw [z2, hv]; exact hf), Result.andThen_ok]
  rfl

theorem fillU2 (x y : Int) : Instr.fill (fun i => some (i * 1, 1)) ((Array.range (2 * 1)).map ((Value.int .u64 0).cells[· % (Value.int .u64 0).cells.size]!)) [(0, Value.int .u64 x), (1, Value.int .u64 y)] = some #[Value.int .u64 x, Value.int .u64 y] := by kernel_rfl
theorem fillU3 (x y z : Int) : Instr.fill (fun i => some (i * 1, 1)) ((Array.range (3 * 1)).map ((Value.int .u64 0).cells[· % (Value.int .u64 0).cells.size]!)) [(0, Value.int .u64 x), (1, Value.int .u64 y), (2, Value.int .u64 z)] = some #[Value.int .u64 x, Value.int .u64 y, Value.int .u64 z] := by kernel_rfl
theorem fillU7 (a b c d e f g : Int) : Instr.fill (fun i => some (i * 1, 1)) ((Array.range (7 * 1)).map ((Value.int .u64 0).cells[· % (Value.int .u64 0).cells.size]!)) [(0, Value.int .u64 a), (1, Value.int .u64 b), (2, Value.int .u64 c), (3, Value.int .u64 d), (4, Value.int .u64 e), (5, Value.int .u64 f), (6, Value.int .u64 g)] = some #[Value.int .u64 a, Value.int .u64 b, Value.int .u64 c, Value.int .u64 d, Value.int .u64 e, Value.int .u64 f, Value.int .u64 g] := by kernel_rfl
theorem fillA2 (p x q y : Int) : Instr.fill (fun i => some (i * 2, 2)) ((Array.range (2 * 2)).map ((Value.agg #[.int .i64 0, .int .u64 0]).cells[· % (Value.agg #[.int .i64 0, .int .u64 0]).cells.size]!)) [(0, Value.agg #[.int .i64 p, .int .u64 x]), (1, Value.agg #[.int .i64 q, .int .u64 y])] = some #[Value.int .i64 p, Value.int .u64 x, Value.int .i64 q, Value.int .u64 y] := by kernel_rfl

theorem rd_blk {w : World} {g : Nat} (l : List Int) {cs : Array Value} (h : w.heap[g]? = some (.cells cs 22 (0, 0))) (hc : cs.toList = nums .u64 l) (hl : l.length ≤ 9223372036854775807) : Rd w (some ⟨g, 0, none⟩) l := by
  refine ⟨rfl, hl, fun _ => ⟨_, rfl, fun j hj => ?_⟩⟩
  rw [add_plain, blk_cell h, ← Array.getElem?_toList, hc]
  simp [nums, List.getD, hj]

theorem rdA_blk {w : World} {g : Nat} (p x q y : Int) (h : w.heap[g]? = some (.cells #[.int .i64 p, .int .u64 x, .int .i64 q, .int .u64 y] 37 (0, 0))) : RdA w (some ⟨g, 0, none⟩) [(p, x), (q, y)] := by
  refine ⟨by simp, fun _ => ⟨_, rfl, fun j hj => ?_⟩⟩
  rw [add_plain, add_plain, blk_cell h, blk_cell h]
  match j, hj with
  | 0, _ => exact ⟨rfl, rfl⟩
  | 1, _ => exact ⟨rfl, rfl⟩

theorem ua_two {p x q y : Int} (hx0 : 0 ≤ x) (hx1 : x ≤ 18446744073709551615) (hy0 : 0 ≤ y) (hy1 : y ≤ 18446744073709551615) : UA [(p, x), (q, y)] := by
  intro j
  match j with
  | 0 => exact ⟨hx0, hx1⟩
  | 1 => exact ⟨hy0, hy1⟩
  | j + 2 => simp [actB]
theorem u_two {x y : Int} (hx0 : 0 ≤ x) (hx1 : x ≤ 18446744073709551615) (hy0 : 0 ≤ y) (hy1 : y ≤ 18446744073709551615) : U [x, y] := by
  intro z hz; simp at hz; rcases hz with rfl | rfl <;> omega
theorem u_three {x y t : Int} (hx0 : 0 ≤ x) (hx1 : x ≤ 18446744073709551615) (hy0 : 0 ≤ y) (hy1 : y ≤ 18446744073709551615) (ht0 : 0 ≤ t) (ht1 : t ≤ 18446744073709551615) : U [x, y, t] := by
  intro z hz; simp at hz; rcases hz with rfl | rfl | rfl <;> omega
end Go.Proofs.Ytonchomjddhciaa.Clk
