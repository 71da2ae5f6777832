/- ClockSums' walk: numbers are added, and it is told what is past, as the document says; every row that can be read. -/
import Derived.Test.YtonchomjddhciaaWorks
namespace Go.Proofs.Ytonchomjddhciaa.Clk
open Go.RowKit Go.Proofs.YtonchomjddhciaaW.PrintWords Go.Proofs.YtonchomjddhciaaW.PrintLast Go.Proofs.YtonchomjddhciaaW.PrintMore
set_option linter.unusedVariables false
set_option linter.unusedSimpArgs false

set_option maxHeartbeats 1000000 in
theorem sums_walk (A : Option Addr) (cap : Nat) (l : List Int) (c u s : Int) (w : World) (hr : Rd w A l) (hu : U l) (hu0 : 0 ≤ u) (hu1 : u ≤ 18446744073709551615) (hs0 : 0 ≤ s) (hs1 : s ≤ 18446744073709551615) :
    Calls Try.prog 6 #[.slice A l.length cap, .int .u64 c, .int .u64 u, .int .u64 s] w (Right w) := by
  have HS := sum_calls A cap l w hr hu
  have HR := rsum_calls A cap l w hr hu
  have HP := Aside0.mk (past_calls c u s w hu0 hu1 hs0 hs1)
  have HQ := Aside0.mk (rpast_calls c u s w hu0 hu1 hs0 hs1)
  have hm := hr.2.1
  generalize sumTo l l.length = x at HS HR
  generalize past c u s = y at HP HQ
  have HS := Aside0.mk HS
  have HR := Aside0.mk HR
  have HB := Aside0.mk (Below.refl w.heap.size w)
  clear hr hu hu0 hu1 hs0 hs1
  by_cases h : 20 < l.length
  · have c0 : decide (20 < (l.length : Int)) = true := decide_eq_true (by omega)
    have c1 : decide (20 < l.length) = true := decide_eq_true h
    clear h
    go_enter Try.func6, Try.ntmps6
    go_wp2_with (go_at_call 13; (with_reducible refine (works_calls _).mono ?_); rintro e w6 ⟨rfl, hb⟩; have HB := Aside0.mk (below_step HB.out hb); clear hb)
    go_ret
    exact ⟨rfl, HB.out⟩
  · have c0 : decide (20 < (l.length : Int)) = false := decide_eq_false (by omega)
    have c1 : decide (20 < l.length) = false := decide_eq_false h
    have c2 : (x == x) = true := by simp
    have c3 : (y == y) = true := by simp
    clear h
    go_enter Try.func6, Try.ntmps6
    go_wp2_with (first
      | (go_at_call 19; (with_reducible refine HS.out.mono ?_); rintro e w1 ⟨rfl, rfl⟩)
      | (go_at_call 20; (with_reducible refine HR.out.mono ?_); rintro e w1 ⟨rfl, rfl⟩)
      | (go_at_call 21; (with_reducible refine HP.out.mono ?_); rintro e w1 ⟨rfl, rfl⟩)
      | (go_at_call 22; (with_reducible refine HQ.out.mono ?_); rintro e w1 ⟨rfl, rfl⟩)
      | (go_at_call 13; (with_reducible refine (works_calls _).mono ?_); rintro e w6 ⟨rfl, hb⟩; have HB := Aside0.mk (below_step HB.out hb); clear hb))
    go_ret
    exact ⟨rfl, HB.out⟩

theorem wf_row {z : List Int} (h : ∀ n ∈ z, (Lit.int .u64 n).wf = true) (n : Nat) : U (z.take n) := fun x hx => wf_u64 (h x (List.mem_of_mem_take hx))

/-- What the row hands over of a slice of numbers. -/
theorem open_row {a : Option Addr} {len cap : Nat} {z : List Int} {w : World}
    (h : (a = none ∧ len = 0 ∧ cap = 0 ∧ z = []) ∨ ∃ x, a = some x ∧ len ≤ cap ∧ cap ≤ maxLen ∧ z.length = cap ∧ (∀ i, i < z.length → w.cell? (x.add i) = some (.int .u64 (z.getD i 0))) ∧ ∀ n ∈ z, (Lit.int .u64 n).wf = true) :
    ∃ l : List Int, len = l.length ∧ Rd w a l ∧ U l := by
  rcases h with ⟨rfl, rfl, rfl, rfl⟩ | ⟨x, rfl, h1, h2, h3, h4, h5⟩
  · exact ⟨[], rfl, ⟨rfl, by simp, fun h => absurd h (by simp)⟩, fun x hx => by cases hx⟩
  · have e : (z.take len).length = len := by rw [List.length_take]; omega
    refine ⟨z.take len, e.symm, ⟨rfl, by rw [e]; unfold maxLen at h2; omega, fun _ => ⟨x, rfl, fun j hj => ?_⟩⟩, wf_row h5 len⟩
    rw [e] at hj
    rw [h4 j (by omega)]
    simp [List.getD, List.getElem?_take, hj]

theorem sums_row (a0 : Option Addr) (len0 cap0 : Nat) (z0 : List Int) (a1 a2 a3 : Int) (w : World)
    (w0 : (a0 = none ∧ len0 = 0 ∧ cap0 = 0 ∧ z0 = []) ∨ ∃ x, a0 = some x ∧ len0 ≤ cap0 ∧ cap0 ≤ maxLen ∧ z0.length = cap0 ∧ (∀ i, i < z0.length → w.cell? (x.add i) = some (.int .u64 (z0.getD i 0))) ∧ ∀ n ∈ z0, (Lit.int .u64 n).wf = true)
    (w2 : (Lit.int .u64 a2).wf = true) (w3 : (Lit.int .u64 a3).wf = true) : Calls Try.prog 6 #[.slice a0 len0 cap0, .int .u64 a1, .int .u64 a2, .int .u64 a3] w (Right w) := by
  obtain ⟨l, rfl, hr, hu⟩ := open_row w0
  exact sums_walk a0 cap0 l a1 a2 a3 w hr hu (wf_u64 w2).1 (wf_u64 w2).2 (wf_u64 w3).1 (wf_u64 w3).2
end Go.Proofs.Ytonchomjddhciaa.Clk
