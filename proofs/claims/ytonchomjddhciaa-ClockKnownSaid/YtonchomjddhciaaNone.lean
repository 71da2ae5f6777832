/- ClockNone's walk: clocks that are not there answer so; every place, every number. -/
import Derived.Test.YtonchomjddhciaaWorks
namespace Go.Proofs.Ytonchomjddhciaa.Clk
open Go.RowKit Go.Proofs.YtonchomjddhciaaW.PrintWords Go.Proofs.YtonchomjddhciaaW.PrintLast Go.Proofs.YtonchomjddhciaaW.PrintMore
set_option linter.unusedVariables false
set_option linter.unusedSimpArgs false

set_option maxHeartbeats 1000000 in
theorem none_walk (p b : Int) (w : World) (hb0 : 0 ≤ b) : Calls Try.prog 3 #[.int .i64 p, .int .u64 b] w (Right w) := by
  have HW := fun w => within_none b w hb0
  have HB := Aside0.mk (Below.refl w.heap.size w)
  go_enter Try.func3, Try.ntmps3
  go_wp2_with (first
    | (go_at_call 8; (with_reducible refine (tick_none _ _ _).mono ?_); rintro e w1 ⟨rfl, rfl⟩)
    | (go_at_call 9; (with_reducible refine (read_none _ _).mono ?_); rintro e w2 ⟨rfl, rfl⟩)
    | (go_at_call 10; (with_reducible refine (hands_none _).mono ?_); rintro e w3 ⟨rfl, rfl⟩)
    | (go_at_call 11; (with_reducible refine (skew_none _).mono ?_); rintro e w4 ⟨rfl, hb⟩; have HB := Aside0.mk (below_step HB.out hb); clear hb)
    | (go_at_call 12; (with_reducible refine (HW _).mono ?_); rintro e w5 ⟨rfl, hb⟩; have HB := Aside0.mk (below_step HB.out hb); clear hb)
    | (go_at_call 13; (with_reducible refine (works_calls _).mono ?_); rintro e w6 ⟨rfl, hb⟩; have HB := Aside0.mk (below_step HB.out hb); clear hb))
  go_ret
  exact ⟨rfl, HB.out⟩
end Go.Proofs.Ytonchomjddhciaa.Clk
