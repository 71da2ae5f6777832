/- clock: the chapter's examples; what a call leaves of clocks that are not its own. -/
import Derived.Test.YtonchomjddhciaaSkew
namespace Go.Proofs.Ytonchomjddhciaa.Clk
open Go.RowKit Go.Proofs.YtonchomjddhciaaW.PrintWords Go.Proofs.YtonchomjddhciaaW.PrintLast Go.Proofs.YtonchomjddhciaaW.PrintMore
set_option linter.unusedVariables false
set_option linter.unusedSimpArgs false

theorem u597 : U [5, 9, 7] := by intro x hx; simp at hx; rcases hx with rfl | rfl | rfl <;> omega
theorem wk_of (w : World) : Calls Try.prog 16 #[.slice (some ⟨w.heap.size, 0, none⟩) 3 3] (w.alloc (.cells #[.int .u64 5, .int .u64 9, .int .u64 7] 22)) (Made (w.alloc (.cells #[.int .u64 5, .int .u64 9, .int .u64 7] 22)) [5, 9, 7]) :=
  of_calls _ 3 [5, 9, 7] _ (rd_lit w [5, 9, 7] (by simp)) (by simp)
theorem wk_skew {b g : Nat} {A : Option Addr} {c : Nat} {w : World} (hk : Ck w g (.slice A 3 c)) (ho : Ow w b (.slice A 3 c) [5, 9, 7]) :
    Calls Try.prog 11 #[.pointer (some ⟨g, 0, none⟩)] w fun e w' => e = .returned (.int .u64 4) ∧ Below w.heap.size w w' :=
  skew_calls g A c [5, 9, 7] w hk (Ow.rd' ho).2 (by simp) u597
theorem wk_with3 {b g : Nat} {A : Option Addr} {c : Nat} {w : World} (hk : Ck w g (.slice A 3 c)) (ho : Ow w b (.slice A 3 c) [5, 9, 7]) :
    Calls Try.prog 12 #[.pointer (some ⟨g, 0, none⟩), .int .u64 3] w fun e w' => e = .returned (.bool false) ∧ Below w.heap.size w w' :=
  within_calls g A c [5, 9, 7] 3 w hk (Ow.rd' ho).2 (by simp) u597
theorem wk_with4 {b g : Nat} {A : Option Addr} {c : Nat} {w : World} (hk : Ck w g (.slice A 3 c)) (ho : Ow w b (.slice A 3 c) [5, 9, 7]) :
    Calls Try.prog 12 #[.pointer (some ⟨g, 0, none⟩), .int .u64 4] w fun e w' => e = .returned (.bool true) ∧ Below w.heap.size w w' :=
  within_calls g A c [5, 9, 7] 4 w hk (Ow.rd' ho).2 (by simp) u597
theorem wk_tick0 {b g h c : Nat} {w : World} (hk : Ck w g (.slice (some ⟨h, 0, none⟩) 3 c)) (ho : Ow w b (.slice (some ⟨h, 0, none⟩) 3 c) [5, 9, 7]) :
    Calls Try.prog 8 #[.pointer (some ⟨g, 0, none⟩), .int .i64 0, .int .u64 18446744073709551615] w (Ticked w b h (.slice (some ⟨h, 0, none⟩) 3 c) [18446744073709551615, 9, 7]) :=
  tick_in g h c [5, 9, 7] 0 b 18446744073709551615 w hk ho (by simp) u597 (by decide) (by decide)
theorem wk_tick3 {g : Nat} {A : Option Addr} {c : Nat} {w : World} (hk : Ck w g (.slice A 3 c)) :
    Calls Try.prog 8 #[.pointer (some ⟨g, 0, none⟩), .int .i64 3, .int .u64 1] w fun e w' => e = .returned (.int .i64 2) ∧ w = w' :=
  tick_out g A 3 c 3 1 w hk (by decide) (by decide)
theorem wk_read {b g : Nat} {A : Option Addr} {c : Nat} {w : World} (hk : Ck w g (.slice A 3 c)) (ho : Ow w b (.slice A 3 c) [18446744073709551615, 9, 7]) :
    Calls Try.prog 9 #[.pointer (some ⟨g, 0, none⟩), .int .i64 0] w fun e w' => e = .returned (.int .u64 18446744073709551615) ∧ w = w' :=
  read_in g A c [18446744073709551615, 9, 7] 0 w hk (Ow.rd' ho).2 (by simp)
theorem wk_past1 (w : World) : Calls Try.prog 21 #[.int .u64 11, .int .u64 5, .int .u64 5] w fun e w' => e = .returned (.bool true) ∧ w = w' := past_calls 11 5 5 w (by decide) (by decide) (by decide) (by decide)
theorem wk_past2 (w : World) : Calls Try.prog 21 #[.int .u64 10, .int .u64 5, .int .u64 5] w fun e w' => e = .returned (.bool false) ∧ w = w' := past_calls 10 5 5 w (by decide) (by decide) (by decide) (by decide)
theorem wk_past3 (w : World) : Calls Try.prog 21 #[.int .u64 18446744073709551615, .int .u64 18446744073709551615, .int .u64 1] w fun e w' => e = .returned (.bool false) ∧ w = w' := past_calls 18446744073709551615 18446744073709551615 1 w (by decide) (by decide) (by decide) (by decide)

theorem blk_ne_own {w : World} {b g h n c : Nat} {v : Value} {l : List Int} (hk : Ck w g v) (ho : Ow w b (.slice (some ⟨h, 0, none⟩) n c) l) : some g ≠ some h := own_ne ho hk (by decide)

def Right (w : World) (e : Ending) (w' : World) : Prop := e = .returned (.bool true) ∧ Below w.heap.size w w'

set_option maxHeartbeats 1000000 in
theorem works_calls (w : World) : Calls Try.prog 13 #[] w (Right w) := by
  go_enter Try.func13, Try.ntmps13
  go_wp2_with (first
    | (go_at_call 16; (with_reducible refine (wk_of _).mono ?_); rintro e w1 ⟨g, v, rfl, hg, hk, ho, hb⟩; have HB := Aside0.mk (below_step (below_alloc (Below.refl w.heap.size w) _) hb); obtain ⟨A1, c1, rfl, _⟩ := Ow.rd ho; obtain ⟨h, rfl, _, hbh, _⟩ := Ow.form ho (by simp); have HK := Aside0.mk hk; have HO := Aside0.mk ho; have HH := Aside0.mk (show w.heap.size ≤ h by simp at hbh; omega); have HN := Aside0.mk (blk_ne_own HK.out HO.out); clear hg hk ho hb hbh)
    | (go_at_call 11; have HS := wk_skew HK.out HO.out; (with_reducible refine HS.mono ?_); clear HS; rintro e w2 ⟨rfl, hb⟩; have HB := Aside0.mk (below_step HB.out hb); have HK := Aside0.mk (blk_below HK.out hb); have HO := Aside0.mk (pw_own_below HO.out hb); clear hb)
    | (go_at_call 12; have HS := wk_with3 HK.out HO.out; (with_reducible refine HS.mono ?_); clear HS; rintro e w3 ⟨rfl, hb⟩; have HB := Aside0.mk (below_step HB.out hb); have HK := Aside0.mk (blk_below HK.out hb); have HO := Aside0.mk (pw_own_below HO.out hb); clear hb)
    | (go_at_call 12; have HS := wk_with4 HK.out HO.out; (with_reducible refine HS.mono ?_); clear HS; rintro e w4 ⟨rfl, hb⟩; have HB := Aside0.mk (below_step HB.out hb); have HK := Aside0.mk (blk_below HK.out hb); have HO := Aside0.mk (pw_own_below HO.out hb); clear hb)
    | (go_at_call 8; have HS := wk_tick0 HK.out HO.out; (with_reducible refine HS.mono ?_); clear HS; rintro e w5 ⟨rfl, ho, hg⟩; have HB := Aside0.mk (pw_below_grown HB.out _ HB.out.size hg (fun k hk => by cases hk; exact HH.out)); have HK := Aside0.mk (blk_grown HK.out hg HN.out); have HO := Aside0.mk ho; clear ho hg)
    | (go_at_call 9; have HS := wk_read HK.out HO.out; (with_reducible refine HS.mono ?_); clear HS; rintro e w6 ⟨rfl, rfl⟩)
    | (go_at_call 8; have HS := wk_tick3 HK.out; (with_reducible refine HS.mono ?_); clear HS; rintro e w7 ⟨rfl, rfl⟩)
    | (go_at_call 21; (with_reducible first | refine (wk_past1 _).mono ?_ | refine (wk_past2 _).mono ?_ | refine (wk_past3 _).mono ?_); rintro e w8 ⟨rfl, rfl⟩))
  go_ret
  exact ⟨rfl, HB.out⟩
end Go.Proofs.Ytonchomjddhciaa.Clk
