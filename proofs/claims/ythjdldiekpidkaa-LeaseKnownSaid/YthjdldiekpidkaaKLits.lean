/- lease: the literals of LeaseKnown, and the laws at them. -/
import Derived.Test.YthjdldiekpidkaaLits
import Derived.Test.YthjdldiekpidkaaTellsRow
import Derived.Test.YthjdldiekpidkaaClocks
import Derived.Test.YthjdldiekpidkaaChg
import Derived.Test.YthjdldiekpidkaaFen
import Derived.Test.YthjdldiekpidkaaRegion2
namespace Go.Proofs.Ythjdldiekpidkaa
open Go.RowKit Go.Proofs.YthjdldiekpidkaaW.PrintWords Go.Proofs.YthjdldiekpidkaaW.PrintLast Go.Proofs.YthjdldiekpidkaaW.PrintMore
open Pl
set_option linter.unusedVariables false
set_option linter.unusedSimpArgs false

theorem kinfo22 : (Try.prog.info? 22).map (fun i => (i.zero, i.size, i.bytes)) = some (some (.int .u64 0), 1, 8) := by kernel_rfl
theorem kinfo24 : (Try.prog.info? 24).map (fun i => (i.zero, i.size, i.bytes)) = some (some (.agg #[.int .u64 0, .int .u64 0, .int .u64 0, .int .u64 0, .bool false]), 5, 40) := by kernel_rfl
theorem kinfo43 : (Try.prog.info? 43).map (fun i => (i.zero, i.size, i.bytes)) = some (some (.agg #[.int .i64 0, .int .u64 0, .int .u64 0, .int .u64 0]), 4, 32) := by kernel_rfl

theorem fillU8 (a b c d e f g h : Int) : Instr.fill (fun i => some (i * 1, 1)) ((Array.range (8 * 1)).map ((Value.int .u64 0).cells[· % (Value.int .u64 0).cells.size]!)) [(0, Value.int .u64 a), (1, Value.int .u64 b), (2, Value.int .u64 c), (3, Value.int .u64 d), (4, Value.int .u64 e), (5, Value.int .u64 f), (6, Value.int .u64 g), (7, Value.int .u64 h)] = some #[Value.int .u64 a, Value.int .u64 b, Value.int .u64 c, Value.int .u64 d, Value.int .u64 e, Value.int .u64 f, Value.int .u64 g, Value.int .u64 h] := by kernel_rfl
theorem fillL3 (a0 a1 a2 a3 b0 b1 b2 b3 c0 c1 c2 c3 : Int) (a4 b4 c4 : Bool) : Instr.fill (fun i => some (i * 5, 5)) ((Array.range (3 * 5)).map ((Value.agg #[.int .u64 0, .int .u64 0, .int .u64 0, .int .u64 0, .bool false]).cells[· % (Value.agg #[.int .u64 0, .int .u64 0, .int .u64 0, .int .u64 0, .bool false]).cells.size]!)) [(0, Value.agg #[.int .u64 a0, .int .u64 a1, .int .u64 a2, .int .u64 a3, .bool a4]), (1, Value.agg #[.int .u64 b0, .int .u64 b1, .int .u64 b2, .int .u64 b3, .bool b4]), (2, Value.agg #[.int .u64 c0, .int .u64 c1, .int .u64 c2, .int .u64 c3, .bool c4])] = some #[.int .u64 a0, .int .u64 a1, .int .u64 a2, .int .u64 a3, .bool a4, .int .u64 b0, .int .u64 b1, .int .u64 b2, .int .u64 b3, .bool b4, .int .u64 c0, .int .u64 c1, .int .u64 c2, .int .u64 c3, .bool c4] := by kernel_rfl
theorem fillA3 (a0 a1 a2 a3 b0 b1 b2 b3 c0 c1 c2 c3 : Int) : Instr.fill (fun i => some (i * 4, 4)) ((Array.range (3 * 4)).map ((Value.agg #[.int .i64 0, .int .u64 0, .int .u64 0, .int .u64 0]).cells[· % (Value.agg #[.int .i64 0, .int .u64 0, .int .u64 0, .int .u64 0]).cells.size]!)) [(0, Value.agg #[.int .i64 a0, .int .u64 a1, .int .u64 a2, .int .u64 a3]), (1, Value.agg #[.int .i64 b0, .int .u64 b1, .int .u64 b2, .int .u64 b3]), (2, Value.agg #[.int .i64 c0, .int .u64 c1, .int .u64 c2, .int .u64 c3])] = some #[.int .i64 a0, .int .u64 a1, .int .u64 a2, .int .u64 a3, .int .i64 b0, .int .u64 b1, .int .u64 b2, .int .u64 b3, .int .i64 c0, .int .u64 c1, .int .u64 c2, .int .u64 c3] := by kernel_rfl

/-- A number that fits. -/
structure Fit (x : Int) : Prop where
  lo : 0 ≤ x
  hi : x ≤ 18446744073709551615
theorem Fit.wf {x : Int} (h : Fit x) : (Lit.int .u64 x).wf = true := Bool.and_eq_true_iff.2 ⟨decide_eq_true h.lo, decide_eq_true h.hi⟩
theorem Fit.both {x : Int} (h : Fit x) : 0 ≤ x ∧ x ≤ 18446744073709551615 := ⟨h.lo, h.hi⟩
theorem fit0 : Fit 0 := ⟨by decide, by decide⟩
theorem fit1 : Fit 1 := ⟨by decide, by decide⟩
theorem fit2 : Fit 2 := ⟨by decide, by decide⟩
theorem fit9 : Fit 9 := ⟨by decide, by decide⟩

def nth (l : List Int) (k : Nat) : Int := l.getD k 0
/-- A slice that is read. -/
abbrev Rd (w : World) (A : Option Addr) (l : List Int) : Prop := ReadsInt w .u64 A l.length l
theorem Rd.val {w : World} {A : Option Addr} {l : List Int} (h : Rd w A l) (k : Nat) (hk : k < l.length) : ∃ ad, A = some ad ∧ w.cell? (ad.add k) = some (.int .u64 (nth l k)) := by
  obtain ⟨ad, e, hc⟩ := h.2.2 (by omega)
  exact ⟨ad, e, hc k hk⟩
theorem rd_blk {w : World} {g : Nat} (l : List Int) {cs : Array Value} (h : w.heap[g]? = some (.cells cs 22 (0, 0))) (hc : cs.toList = nums .u64 l) (hl : l.length ≤ 9223372036854775807) : Rd w (some ⟨g, 0, none⟩) l := by
  refine ⟨rfl, hl, fun _ => ⟨_, rfl, fun j hj => ?_⟩⟩
  rw [add_plain, blk_cell h, ← Array.getElem?_toList, hc]
  simp [nums, List.getD, hj]

def vals : List Int := [0, 1, 2, 9, 10, 11, 18446744073709551614, 18446744073709551615]
theorem vals_fit (i : Nat) (hi : i < 8) : Fit (nth vals i) := by
  match i, hi with
  | 0, _ | 1, _ | 2, _ | 3, _ | 4, _ | 5, _ | 6, _ | 7, _ => exact ⟨by decide, by decide⟩

theorem fits_mk {c b a : Int} (bl : Bool) (hc : Fit c) (hb : Fit b) (ha : Fit a) : Fits ⟨c, 1, b, a, bl⟩ := ⟨hc.both, fit1.both, hb.both, ha.both⟩
theorem tells_lit {c b a : Int} (bl : Bool) (p q r s t : Int) (w : World) (hc : Fit c) (hb : Fit b) (ha : Fit a) (hp : Fit p) (hq : Fit q) :
    Calls Try.prog 3 #[.agg #[.int .u64 c, .int .u64 1, .int .u64 b, .int .u64 a, .bool bl], .int .u64 p, .int .u64 q, .int .u64 r, .int .u64 s, .int .u64 t] w fun e w' => e = .returned (.bool true) ∧ Below w.heap.size w w' :=
  tells_row ⟨c, 1, b, a, bl⟩ p q r s t w (fits_mk bl hc hb ha) hp.wf hq.wf
theorem clocks_lit {c b a : Int} (bl : Bool) (p q r : Int) (w : World) (hc : Fit c) (hb : Fit b) (ha : Fit a) (hp : Fit p) (hq : Fit q) (hr : Fit r) :
    Calls Try.prog 4 #[.agg #[.int .u64 c, .int .u64 1, .int .u64 b, .int .u64 a, .bool bl], .int .u64 p, .int .u64 q, .int .u64 r] w fun e w' => e = .returned (.bool true) ∧ Below w.heap.size w w' :=
  clocks_row ⟨c, 1, b, a, bl⟩ p q r w (fits_mk bl hc hb ha) hp.wf hq.wf hr.wf
theorem changes_lit {c b a : Int} (bl : Bool) (p q r : Int) {g : Nat} {x y z : S24} (w : World) (hc : Fit c) (hb : Fit b) (ha : Fit a) (hC : Kd.C k24 w (some ⟨g, 0, none⟩) [x, y, z].length [x, y, z]) :
    Calls Try.prog 6 #[.agg #[.int .u64 c, .int .u64 1, .int .u64 b, .int .u64 a, .bool bl], .int .u64 p, .int .u64 q, .int .u64 r, .slice (some ⟨g, 0, none⟩) 3 3] w fun e w' => e = .returned (.bool true) ∧ Below w.heap.size w w' :=
  changes_row ⟨c, 1, b, a, bl⟩ (some ⟨g, 0, none⟩) [x, y, z] 3 p q r w (fits_mk bl hc hb ha) hC (Nat.le_refl _)
theorem fences_lit {c b a : Int} (bl : Bool) (p q r : Int) {g : Nat} {i k n : Nat} (w : World) (hc : Fit c) (hb : Fit b) (ha : Fit a) (hi : i < 8) (hk : k < 8) (hn : n < 8)
    (hC : Kd.C k43 w (some ⟨g, 0, none⟩) [(⟨(n : Int), 1, b, c⟩ : S43), ⟨(k : Int), 2, 0, 0⟩, ⟨(i : Int), 1, b, 0⟩].length [(⟨(n : Int), 1, b, c⟩ : S43), ⟨(k : Int), 2, 0, 0⟩, ⟨(i : Int), 1, b, 0⟩]) :
    Calls Try.prog 5 #[.agg #[.int .u64 c, .int .u64 1, .int .u64 b, .int .u64 a, .bool bl], .slice (some ⟨g, 0, none⟩) 3 3, .int .u64 p, .int .u64 q, .int .u64 r] w fun e w' => e = .returned (.bool true) ∧ Below w.heap.size w w' := by
  refine fences_row ⟨c, 1, b, a, bl⟩ (some ⟨g, 0, none⟩) [(⟨(n : Int), 1, b, c⟩ : S43), ⟨(k : Int), 2, 0, 0⟩, ⟨(i : Int), 1, b, 0⟩] 3 p q r w (fits_mk bl hc hb ha) ?_ hC (Nat.le_refl _)
  intro y hy
  simp at hy
  rcases hy with rfl | rfl | rfl
  · exact ⟨⟨by show _ ≤ ((_ : Nat) : Int); omega, by show ((_ : Nat) : Int) ≤ _; omega⟩, fit1.both, hb.both, hc.both⟩
  · exact ⟨⟨by show _ ≤ ((_ : Nat) : Int); omega, by show ((_ : Nat) : Int) ≤ _; omega⟩, fit2.both, fit0.both, fit0.both⟩
  · exact ⟨⟨by show _ ≤ ((_ : Nat) : Int); omega, by show ((_ : Nat) : Int) ≤ _; omega⟩, fit1.both, hb.both, fit0.both⟩
theorem last_none (w : World) : Calls Try.prog 27 #[.slice none 0 0] w fun e w' => e = .returned (.agg #[Value.int .u64 0, .int .u64 0, .int .u64 0, .int .u64 0, .bool false]) ∧ Below w.heap.size w w' :=
  last_walk none [] 0 w (Kd.C_nil _ _) (Nat.le_refl _) (by simp)

/-- What region 12 keeps: whether the lease is made, and written. -/
structure G12 (wr : World) (c b a : Int) (L : Nat → Bool) (w : World) : Prop where
  below : Below wr.heap.size wr w
  order : L 21 = true → L 20 = true
  size : L 20 = false → w.heap.size = wr.heap.size
  made : L 20 = true → L 21 = false → w.heap[wr.heap.size]? = some (.cells #[Value.int .u64 0, .int .u64 0, .int .u64 0, .int .u64 0, .bool false] 24 (0, 0))
  put : L 21 = true → ∃ bl : Bool, w.heap[wr.heap.size]? = some (.cells #[Value.int .u64 c, .int .u64 1, .int .u64 b, .int .u64 a, .bool bl] 24 (0, 0))
theorem come_ne {L : Nat → Bool} {i j : Nat} (h : j ≠ i) : Reg.come L i j = L j := by unfold Reg.come; rw [if_neg h]
theorem come_self (L : Nat → Bool) (i : Nat) : Reg.come L i i = true := by unfold Reg.come; rw [if_pos rfl]
theorem G12.same {wr w : World} {c b a : Int} {L : Nat → Bool} (h : G12 wr c b a L w) (i : Nat) (h0 : 20 ≠ i) (h1 : 21 ≠ i) : G12 wr c b a (Reg.come L i) w := by
  refine ⟨h.below, ?_, ?_, ?_, ?_⟩
  · rw [come_ne h0, come_ne h1]; exact h.order
  · rw [come_ne h0]; exact h.size
  · rw [come_ne h0, come_ne h1]; exact h.made
  · rw [come_ne h1]; exact h.put
theorem G12.alloc {wr w w1 : World} {c b a : Int} {L : Nat → Bool} (h : G12 wr c b a L w) (hL : L 20 = false) {g : Nat} (hg : g = w.heap.size) (hbox : w1.heap[g]? = some (.cells #[Value.int .u64 0, .int .u64 0, .int .u64 0, .int .u64 0, .bool false] 24 (0, 0))) (hb : Below w.heap.size w w1) : g = wr.heap.size ∧ G12 wr c b a (Reg.come L 20) w1 := by
  have e : g = wr.heap.size := hg.trans (h.size hL)
  subst e
  refine ⟨rfl, below_step h.below hb, fun _ => come_self _ _, fun h0 => ?_, fun _ _ => hbox, fun h1 => ?_⟩
  · rw [come_self] at h0; cases h0
  · rw [come_ne (by decide)] at h1
    rw [h.order h1] at hL
    cases hL
end Go.Proofs.Ythjdldiekpidkaa
