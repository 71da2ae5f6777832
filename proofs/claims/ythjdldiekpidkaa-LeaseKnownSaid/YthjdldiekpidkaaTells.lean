import Derived.Test.YthjdldiekpidkaaPlx1
import Derived.Test.YthjdldiekpidkaaWorks
import Derived.Test.YthjdldiekpidkaaRegion
namespace Go.Proofs.Ythjdldiekpidkaa
open Go.RowKit Go.Proofs.YthjdldiekpidkaaW.PrintWords Go.Proofs.YthjdldiekpidkaaW.PrintLast Go.Proofs.YthjdldiekpidkaaW.PrintMore
open Pl
set_option linter.unusedVariables false
set_option linter.unusedSimpArgs false

def TellsFact (a0_0 a0_1 a0_2 a0_3 : Int) (a0_4 : Bool) (a1 a2 a3 a4 a5 tp te : Int) (ov ow : Bool) (fe un : Int) (g6 g13 : Nat) (k_ : Nat) (v : Value) : Prop :=
  match k_ with
  | 0 => v = Value.int .u64 tp
  | 1 => v = Value.int .u64 tp
  | 2 => v = Value.bool true
  | 3 => v = Value.bool true
  | 4 => v = Value.int .i64 te
  | 5 => v = Value.int .i64 te
  | 6 => v = Value.bool true
  | 7 => v = Value.bool true
  | 8 => v = Value.bool true
  | 9 => v = Value.agg #[Value.int .u64 a0_0, Value.int .u64 a0_1, Value.int .u64 a0_2, Value.int .u64 a0_3, Value.bool a0_4]
  | 10 => v = Value.int .u64 a1
  | 11 => v = Value.int .u64 a2
  | 12 => v = Value.bool ov
  | 13 => v = Value.agg #[Value.int .u64 a0_0, Value.int .u64 a0_1, Value.int .u64 a0_2, Value.int .u64 a0_3, Value.bool a0_4]
  | 14 => v = Value.int .u64 a1
  | 15 => v = Value.int .u64 a2
  | 16 => v = Value.bool ov
  | 17 => v = Value.bool true
  | 18 => v = Value.bool true
  | 19 => v = Value.bool true
  | 20 => v = Value.agg #[Value.int .u64 a0_0, Value.int .u64 a0_1, Value.int .u64 a0_2, Value.int .u64 a0_3, Value.bool a0_4]
  | 21 => v = Value.int .u64 a3
  | 22 => v = Value.int .u64 a4
  | 23 => v = Value.int .u64 a5
  | 24 => v = Value.bool ow
  | 25 => v = Value.agg #[Value.int .u64 a0_0, Value.int .u64 a0_1, Value.int .u64 a0_2, Value.int .u64 a0_3, Value.bool a0_4]
  | 26 => v = Value.int .u64 a3
  | 27 => v = Value.int .u64 a4
  | 28 => v = Value.int .u64 a5
  | 29 => v = Value.bool ow
  | 30 => v = Value.bool true
  | 31 => v = Value.bool true
  | 32 => v = Value.bool true
  | 33 => v = Value.agg #[Value.int .u64 a0_0, Value.int .u64 a0_1, Value.int .u64 a0_2, Value.int .u64 a0_3, Value.bool a0_4]
  | 34 => v = Value.int .u64 a3
  | 35 => v = Value.int .u64 a4
  | 36 => v = Value.int .u64 a5
  | 37 => v = Value.int .i64 fe
  | 38 => v = Value.agg #[Value.int .u64 a0_0, Value.int .u64 a0_1, Value.int .u64 a0_2, Value.int .u64 a0_3, Value.bool a0_4]
  | 39 => v = Value.int .u64 a3
  | 40 => v = Value.int .u64 a4
  | 41 => v = Value.int .u64 a5
  | 42 => v = Value.int .i64 fe
  | 43 => v = Value.bool true
  | 44 => v = Value.bool true
  | 45 => v = Value.bool true
  | 46 => v = Value.int .u64 a1
  | 47 => v = Value.int .u64 a2
  | 48 => v = Value.int .u64 un
  | 49 => v = Value.int .u64 a1
  | 50 => v = Value.int .u64 a2
  | 51 => v = Value.int .u64 un
  | 52 => v = Value.bool true
  | 53 => v = Value.bool true
  | 54 => v = Value.bool true
  | 55 => v = Value.bool true
  | 56 => v = Value.bool true
  | 57 => v = Value.bool true
  | _ => True
def TellsDst : Nat → Nat := fun i => [34, 35, 36, 37, 38, 39, 40, 41, 42, 43, 44, 45, 46, 47, 48, 49, 50, 51, 52, 53, 54, 55, 56, 57, 58, 59, 60, 61, 62, 63, 64, 65, 66, 67, 68, 69, 70, 71, 72, 73, 74, 75, 76, 77, 78, 79, 80, 81, 82, 83, 84, 85, 86, 87, 88, 89, 90, 12].getD i 0
theorem TellsDst_inj : ∀ i j, i < 58 → j < 58 → TellsDst i = TellsDst j → i = j := by
  intro i j hi hj h
  have : ∀ a b : Fin 58, TellsDst a = TellsDst b → a = b := by decide +kernel
  have h2 := this ⟨i, hi⟩ ⟨j, hj⟩ h
  exact Fin.mk.inj_iff.1 h2

set_option maxHeartbeats 4000000 in
set_option maxRecDepth 100000 in
theorem tells_walk (a0_0 a0_1 a0_2 a0_3 : Int) (a0_4 : Bool) (a1 a2 a3 a4 a5 tp te : Int) (ov ow : Bool) (fe un : Int) (w : World)
    (hT1 : Aside0 (lease_Lease_Try.f a0_0 a0_1 a0_2 a0_3 a0_4 a1 a2 = some (tp, te))) (hT2 : Aside0 (chartroomref13_Try.f a0_0 a0_1 a0_2 a0_3 a0_4 a1 a2 = some (tp, te)))
    (hO1 : Aside0 (lease_Lease_Over.f a0_0 a0_1 a0_2 a0_3 a0_4 a1 a2 = some ov)) (hO2 : Aside0 (chartroomref13_Over.f a0_0 a0_1 a0_2 a0_3 a0_4 a1 a2 = some ov))
    (hW1 : Aside0 (lease_Lease_Owns.f a0_0 a0_1 a0_2 a0_3 a0_4 a3 a4 a5 = some ow)) (hW2 : Aside0 (chartroomref13_Owns.f a0_0 a0_1 a0_2 a0_3 a0_4 a3 a4 a5 = some ow))
    (hF1 : Aside0 (lease_Lease_Fence.f a0_0 a0_1 a0_2 a0_3 a0_4 a3 a4 a5 = some fe)) (hF2 : Aside0 (chartroomref13_Fence.f a0_0 a0_1 a0_2 a0_3 a0_4 a3 a4 a5 = some fe))
    (hU1 : Aside0 (lease_Until.f a1 a2 = some un)) (hU2 : Aside0 (chartroomref13_Until.f a1 a2 = some un)) :
    Calls Try.prog 3 #[.agg #[Value.int .u64 a0_0, Value.int .u64 a0_1, Value.int .u64 a0_2, Value.int .u64 a0_3, Value.bool a0_4], .int .u64 a1, .int .u64 a2, .int .u64 a3, .int .u64 a4, .int .u64 a5] w fun e w' => e = .returned (.bool true) ∧ Below w.heap.size w w' := by
  have hu24 := Try.underlying24
  have hu25 := Try.underlying25
  have HB := Aside0.mk (Below.refl w.heap.size w)
  go_enter Try.func3, Try.ntmps3
  go_upto_region 4 with (first | ((with_reducible refine gate_dst (N := 6) rfl ?_); refine box_event ?hg (N := 6) ?hd (cs := #[Value.int .u64 a0_0, Value.int .u64 a0_1, Value.int .u64 a0_2, Value.int .u64 a0_3, Value.bool a0_4]) (t := 24) ?hr ?_; (case hd => rfl); (case hg => rfl); (case hr => first | (go_simp; done) | (go_simp; rfl)); intro g6 hg w6 hbox hb; have HB := Aside0.mk (below_step HB.out hb); have H6 := Aside0.mk hbox; have hcz6_0 : w6.cell? ⟨g6, 0, none⟩ = some (Value.int .u64 a0_0) := (blk_cell H6.out 0).trans rfl; have hcz6_1 : w6.cell? ⟨g6, 1, none⟩ = some (Value.int .u64 a0_1) := (blk_cell H6.out 1).trans rfl; have hcz6_2 : w6.cell? ⟨g6, 2, none⟩ = some (Value.int .u64 a0_2) := (blk_cell H6.out 2).trans rfl; have hcz6_3 : w6.cell? ⟨g6, 3, none⟩ = some (Value.int .u64 a0_3) := (blk_cell H6.out 3).trans rfl; have hcz6_4 : w6.cell? ⟨g6, 4, none⟩ = some (Value.bool a0_4) := (blk_cell H6.out 4).trans rfl; clear hbox hb hg) | ((with_reducible refine gate_dst (N := 13) rfl ?_); refine box_event ?hg (N := 13) ?hd (cs := #[.int .u64 0, .int .u64 0, .int .u64 0, .int .u64 0, .bool false]) (t := 25) ?hr ?_; (case hd => rfl); (case hg => rfl); (case hr => first | (go_simp; done) | (go_simp; rfl)); intro g13 hg w13 hbox hb; have HG13 := Aside0.mk (show w.heap.size ≤ g13 by rw [hg]; exact below_size HB.out); have HN := Aside0.mk (show g6 ≠ g13 by rw [hg]; exact Nat.ne_of_lt (blk_lt H6.out)); clear hcz6_0 hcz6_1 hcz6_2 hcz6_3 hcz6_4; have H6 := Aside0.mk (blk_below H6.out hb); have HB := Aside0.mk (below_step HB.out hb); have H13 := Aside0.mk hbox; have hcz6_0 : w13.cell? ⟨g6, 0, none⟩ = some (Value.int .u64 a0_0) := (blk_cell H6.out 0).trans rfl; have hcz6_1 : w13.cell? ⟨g6, 1, none⟩ = some (Value.int .u64 a0_1) := (blk_cell H6.out 1).trans rfl; have hcz6_2 : w13.cell? ⟨g6, 2, none⟩ = some (Value.int .u64 a0_2) := (blk_cell H6.out 2).trans rfl; have hcz6_3 : w13.cell? ⟨g6, 3, none⟩ = some (Value.int .u64 a0_3) := (blk_cell H6.out 3).trans rfl; have hcz6_4 : w13.cell? ⟨g6, 4, none⟩ = some (Value.bool a0_4) := (blk_cell H6.out 4).trans rfl; clear hbox hb hg) | ((with_reducible refine gate_ (.store 25 (.tmp 13) (.tmp 19)) rfl ?_); refine storeN_event (g := g13) (new := #[Value.int .u64 a0_0, Value.int .u64 a0_1, Value.int .u64 a0_2, Value.int .u64 a0_3, Value.bool a0_4]) rfl rfl rfl ?ha ?hx H13.out ?ht rfl ?h1 ?_; (case ha => rfl); (case hx => rfl); (case ht => kernel_rfl); (case h1 => simp [Value.oneCell']); intro W1 hW hfar hbel; clear hcz6_0 hcz6_1 hcz6_2 hcz6_3 hcz6_4; have HB := Aside0.mk (hbel w HB.out HG13.out); have H6 := Aside0.mk ((hfar g6 HN.out).trans H6.out); have H13 := Aside0.mk hW; clear hW hfar hbel; have hcz6_0 : W1.cell? ⟨g6, 0, none⟩ = some (Value.int .u64 a0_0) := (blk_cell H6.out 0).trans rfl; have hcz6_1 : W1.cell? ⟨g6, 1, none⟩ = some (Value.int .u64 a0_1) := (blk_cell H6.out 1).trans rfl; have hcz6_2 : W1.cell? ⟨g6, 2, none⟩ = some (Value.int .u64 a0_2) := (blk_cell H6.out 2).trans rfl; have hcz6_3 : W1.cell? ⟨g6, 3, none⟩ = some (Value.int .u64 a0_3) := (blk_cell H6.out 3).trans rfl; have hcz6_4 : W1.cell? ⟨g6, 4, none⟩ = some (Value.bool a0_4) := (blk_cell H6.out 4).trans rfl; have hcz13_0 : W1.cell? ⟨g13, 0, none⟩ = some (Value.int .u64 a0_0) := (blk_cell H13.out 0).trans rfl; have hcz13_1 : W1.cell? ⟨g13, 1, none⟩ = some (Value.int .u64 a0_1) := (blk_cell H13.out 1).trans rfl; have hcz13_2 : W1.cell? ⟨g13, 2, none⟩ = some (Value.int .u64 a0_2) := (blk_cell H13.out 2).trans rfl; have hcz13_3 : W1.cell? ⟨g13, 3, none⟩ = some (Value.int .u64 a0_3) := (blk_cell H13.out 3).trans rfl; have hcz13_4 : W1.cell? ⟨g13, 4, none⟩ = some (Value.bool a0_4) := (blk_cell H13.out 4).trans rfl) | (go_at_call 8; (with_reducible refine (chartroomlaw13_ref.calls a0_0 a0_1 a0_2 a0_3 a0_4 a0_0 a0_1 a0_2 a0_3 a0_4 _ rfl).mono ?_); rintro e1 v8 ⟨rfl, hb⟩; have HB := Aside0.mk (below_step HB.out hb); clear hcz6_0 hcz6_1 hcz6_2 hcz6_3 hcz6_4; have H6 := Aside0.mk (blk_below H6.out hb); clear hb; have hcz6_0 : v8.cell? ⟨g6, 0, none⟩ = some (Value.int .u64 a0_0) := (blk_cell H6.out 0).trans rfl; have hcz6_1 : v8.cell? ⟨g6, 1, none⟩ = some (Value.int .u64 a0_1) := (blk_cell H6.out 1).trans rfl; have hcz6_2 : v8.cell? ⟨g6, 2, none⟩ = some (Value.int .u64 a0_2) := (blk_cell H6.out 2).trans rfl; have hcz6_3 : v8.cell? ⟨g6, 3, none⟩ = some (Value.int .u64 a0_3) := (blk_cell H6.out 3).trans rfl; have hcz6_4 : v8.cell? ⟨g6, 4, none⟩ = some (Value.bool a0_4) := (blk_cell H6.out 4).trans rfl) | (go_at_call 9; (with_reducible refine (lease_Lease_Try.calls a0_0 a0_1 a0_2 a0_3 a0_4 a1 a2 tp te _ hT1.out).mono ?_); rintro e1 v9 ⟨rfl, hb⟩; have HB := Aside0.mk (below_step HB.out hb); clear hcz6_0 hcz6_1 hcz6_2 hcz6_3 hcz6_4; clear hcz13_0 hcz13_1 hcz13_2 hcz13_3 hcz13_4; have H6 := Aside0.mk (blk_below H6.out hb); have H13 := Aside0.mk (blk_below H13.out hb); clear hb; have hcz6_0 : v9.cell? ⟨g6, 0, none⟩ = some (Value.int .u64 a0_0) := (blk_cell H6.out 0).trans rfl; have hcz6_1 : v9.cell? ⟨g6, 1, none⟩ = some (Value.int .u64 a0_1) := (blk_cell H6.out 1).trans rfl; have hcz6_2 : v9.cell? ⟨g6, 2, none⟩ = some (Value.int .u64 a0_2) := (blk_cell H6.out 2).trans rfl; have hcz6_3 : v9.cell? ⟨g6, 3, none⟩ = some (Value.int .u64 a0_3) := (blk_cell H6.out 3).trans rfl; have hcz6_4 : v9.cell? ⟨g6, 4, none⟩ = some (Value.bool a0_4) := (blk_cell H6.out 4).trans rfl; have hcz13_0 : v9.cell? ⟨g13, 0, none⟩ = some (Value.int .u64 a0_0) := (blk_cell H13.out 0).trans rfl; have hcz13_1 : v9.cell? ⟨g13, 1, none⟩ = some (Value.int .u64 a0_1) := (blk_cell H13.out 1).trans rfl; have hcz13_2 : v9.cell? ⟨g13, 2, none⟩ = some (Value.int .u64 a0_2) := (blk_cell H13.out 2).trans rfl; have hcz13_3 : v9.cell? ⟨g13, 3, none⟩ = some (Value.int .u64 a0_3) := (blk_cell H13.out 3).trans rfl; have hcz13_4 : v9.cell? ⟨g13, 4, none⟩ = some (Value.bool a0_4) := (blk_cell H13.out 4).trans rfl) | (go_at_call 10; (with_reducible refine (chartroomref13_Try.calls a0_0 a0_1 a0_2 a0_3 a0_4 a1 a2 tp te _ hT2.out).mono ?_); rintro e1 v10 ⟨rfl, hb⟩; have HB := Aside0.mk (below_step HB.out hb); clear hcz6_0 hcz6_1 hcz6_2 hcz6_3 hcz6_4; clear hcz13_0 hcz13_1 hcz13_2 hcz13_3 hcz13_4; have H6 := Aside0.mk (blk_below H6.out hb); have H13 := Aside0.mk (blk_below H13.out hb); clear hb; have hcz6_0 : v10.cell? ⟨g6, 0, none⟩ = some (Value.int .u64 a0_0) := (blk_cell H6.out 0).trans rfl; have hcz6_1 : v10.cell? ⟨g6, 1, none⟩ = some (Value.int .u64 a0_1) := (blk_cell H6.out 1).trans rfl; have hcz6_2 : v10.cell? ⟨g6, 2, none⟩ = some (Value.int .u64 a0_2) := (blk_cell H6.out 2).trans rfl; have hcz6_3 : v10.cell? ⟨g6, 3, none⟩ = some (Value.int .u64 a0_3) := (blk_cell H6.out 3).trans rfl; have hcz6_4 : v10.cell? ⟨g6, 4, none⟩ = some (Value.bool a0_4) := (blk_cell H6.out 4).trans rfl; have hcz13_0 : v10.cell? ⟨g13, 0, none⟩ = some (Value.int .u64 a0_0) := (blk_cell H13.out 0).trans rfl; have hcz13_1 : v10.cell? ⟨g13, 1, none⟩ = some (Value.int .u64 a0_1) := (blk_cell H13.out 1).trans rfl; have hcz13_2 : v10.cell? ⟨g13, 2, none⟩ = some (Value.int .u64 a0_2) := (blk_cell H13.out 2).trans rfl; have hcz13_3 : v10.cell? ⟨g13, 3, none⟩ = some (Value.int .u64 a0_3) := (blk_cell H13.out 3).trans rfl; have hcz13_4 : v10.cell? ⟨g13, 4, none⟩ = some (Value.bool a0_4) := (blk_cell H13.out 4).trans rfl))
  obtain ⟨wr, rfl⟩ : ∃ z : World, z = v10 := ⟨_, rfl⟩
  refine Reg.region (fr := (fun x : Nat → Value => (⟨#[Value.agg #[Value.int .u64 a0_0, Value.int .u64 a0_1, Value.int .u64 a0_2, Value.int .u64 a0_3, Value.bool a0_4], Value.int .u64 a1, Value.int .u64 a2, Value.int .u64 a3, Value.int .u64 a4, Value.int .u64 a5, Value.pointer (some ⟨g6, 0, none⟩), undef, undef, undef, undef, undef, x 12, Value.pointer (some ⟨g13, 0, none⟩), Value.int .u64 tp, Value.int .i64 te, Value.int .u64 tp, Value.int .i64 te, Value.agg #[Value.int .u64 a0_0, Value.int .u64 a0_1, Value.int .u64 a0_2, Value.int .u64 a0_3, Value.bool a0_4], Value.agg #[Value.int .u64 a0_0, Value.int .u64 a0_1, Value.int .u64 a0_2, Value.int .u64 a0_3, Value.bool a0_4], Value.tuple #[.int .u64 tp, .int .i64 te], Value.agg #[Value.int .u64 a0_0, Value.int .u64 a0_1, Value.int .u64 a0_2, Value.int .u64 a0_3, Value.bool a0_4], Value.int .u64 a1, Value.int .u64 a2, Value.tuple #[.int .u64 tp, .int .i64 te], Value.int .u64 tp, Value.int .i64 te, Value.tuple #[.int .u64 tp, .int .i64 te], Value.agg #[Value.int .u64 a0_0, Value.int .u64 a0_1, Value.int .u64 a0_2, Value.int .u64 a0_3, Value.bool a0_4], Value.int .u64 a1, Value.int .u64 a2, Value.tuple #[.int .u64 tp, .int .i64 te], Value.int .u64 tp, Value.int .i64 te, x 34, x 35, x 36, x 37, x 38, x 39, x 40, x 41, x 42, x 43, x 44, x 45, x 46, x 47, x 48, x 49, x 50, x 51, x 52, x 53, x 54, x 55, x 56, x 57, x 58, x 59, x 60, x 61, x 62, x 63, x 64, x 65, x 66, x 67, x 68, x 69, x 70, x 71, x 72, x 73, x 74, x 75, x 76, x 77, x 78, x 79, x 80, x 81, x 82, x 83, x 84, x 85, x 86, x 87, x 88, x 89, x 90], []⟩ : Act))) (dst := TellsDst) (fun w' => Below wr.heap.size wr w') (fun i v _ => TellsFact a0_0 a0_1 a0_2 a0_3 a0_4 a1 a2 a3 a4 a5 tp te ov ow fe un g6 g13 i v) (fun s_ => if s_ = 12 then Value.bool false else undef) rfl (by kernel_rfl) (by kernel_rfl) ?inj ?stable ?inv ?step ?fin
  case inj => exact fun i j hi hj h => TellsDst_inj i j hi hj h
  case stable => exact fun _ _ _ _ _ h => h
  case inv => exact below_drew1 (Below.refl _ _)
  case fin =>
    intro x w' hG hF
    have hz : x 12 = Value.bool true := hF 57 (by decide)
    have HW := Aside0.mk (show Below wr.heap.size wr w' from hG)
    dsimp only []
    rw [hz]
    go_wp2
    go_ret
    exact ⟨rfl, below_step HB.out HW.out⟩
  case step =>
    intro i_ hi
    have hi2 : i_ < 58 := hi
    have hi3 : i_ = 0 ∨ i_ = 1 ∨ i_ = 2 ∨ i_ = 3 ∨ i_ = 4 ∨ i_ = 5 ∨ i_ = 6 ∨ i_ = 7 ∨ i_ = 8 ∨ i_ = 9 ∨ i_ = 10 ∨ i_ = 11 ∨ i_ = 12 ∨ i_ = 13 ∨ i_ = 14 ∨ i_ = 15 ∨ i_ = 16 ∨ i_ = 17 ∨ i_ = 18 ∨ i_ = 19 ∨ i_ = 20 ∨ i_ = 21 ∨ i_ = 22 ∨ i_ = 23 ∨ i_ = 24 ∨ i_ = 25 ∨ i_ = 26 ∨ i_ = 27 ∨ i_ = 28 ∨ i_ = 29 ∨ i_ = 30 ∨ i_ = 31 ∨ i_ = 32 ∨ i_ = 33 ∨ i_ = 34 ∨ i_ = 35 ∨ i_ = 36 ∨ i_ = 37 ∨ i_ = 38 ∨ i_ = 39 ∨ i_ = 40 ∨ i_ = 41 ∨ i_ = 42 ∨ i_ = 43 ∨ i_ = 44 ∨ i_ = 45 ∨ i_ = 46 ∨ i_ = 47 ∨ i_ = 48 ∨ i_ = 49 ∨ i_ = 50 ∨ i_ = 51 ∨ i_ = 52 ∨ i_ = 53 ∨ i_ = 54 ∨ i_ = 55 ∨ i_ = 56 ∨ i_ = 57 := by omega
    clear hi hi2
    rcases hi3 with rfl | rfl | rfl | rfl | rfl | rfl | rfl | rfl | rfl | rfl | rfl | rfl | rfl | rfl | rfl | rfl | rfl | rfl | rfl | rfl | rfl | rfl | rfl | rfl | rfl | rfl | rfl | rfl | rfl | rfl | rfl | rfl | rfl | rfl | rfl | rfl | rfl | rfl | rfl | rfl | rfl | rfl | rfl | rfl | rfl | rfl | rfl | rfl | rfl | rfl | rfl | rfl | rfl | rfl | rfl | rfl | rfl | rfl
    · intro o ho x w' hG hd
      injection ho with ho
      subst ho
      have hW : Below wr.heap.size wr w' := hG
      dsimp only []
      go_wp2
      exact ⟨Value.int .u64 tp, (by simp [Reg.upd, TellsDst]), hW, Below.refl _ _, rfl⟩
    · intro o ho x w' hG hd
      injection ho with ho
      subst ho
      have hW : Below wr.heap.size wr w' := hG
      dsimp only []
      go_wp2
      exact ⟨Value.int .u64 tp, (by simp [Reg.upd, TellsDst]), hW, Below.refl _ _, rfl⟩
    · intro o ho x w' hG hd
      injection ho with ho
      subst ho
      have hW : Below wr.heap.size wr w' := hG
      have h0 : x 34 = Value.int .u64 tp := hd 0 rfl
      have h1 : x 35 = Value.int .u64 tp := hd 1 rfl
      dsimp only []
      go_wp2
      exact ⟨Value.bool true, (by simp [Reg.upd, TellsDst, h0, h1]), hW, Below.refl _ _, rfl⟩
    · intro o ho x w' hG hd
      injection ho with ho
      subst ho
      have hW : Below wr.heap.size wr w' := hG
      have h2 : x 36 = Value.bool true := hd 2 rfl
      dsimp only []
      go_wp2
      exact ⟨Value.bool true, (by simp [Reg.upd, TellsDst, h2]), hW, Below.refl _ _, rfl⟩
    · intro o ho x w' hG hd
      injection ho with ho
      subst ho
      have hW : Below wr.heap.size wr w' := hG
      have h3 : x 37 = Value.bool true := hd 3 rfl
      dsimp only []
      go_wp2
      exact ⟨Value.int .i64 te, (by simp [Reg.upd, TellsDst, h3]), hW, Below.refl _ _, rfl⟩
    · intro o ho x w' hG hd
      injection ho with ho
      subst ho
      have hW : Below wr.heap.size wr w' := hG
      have h3 : x 37 = Value.bool true := hd 3 rfl
      dsimp only []
      go_wp2
      exact ⟨Value.int .i64 te, (by simp [Reg.upd, TellsDst, h3]), hW, Below.refl _ _, rfl⟩
    · intro o ho x w' hG hd
      injection ho with ho
      subst ho
      have hW : Below wr.heap.size wr w' := hG
      have h3 : x 37 = Value.bool true := hd 3 rfl
      have h4 : x 38 = Value.int .i64 te := hd 4 rfl
      have h5 : x 39 = Value.int .i64 te := hd 5 rfl
      dsimp only []
      go_wp2
      exact ⟨Value.bool true, (by simp [Reg.upd, TellsDst, h3, h4, h5]), hW, Below.refl _ _, rfl⟩
    · intro o ho x w' hG hd
      injection ho with ho
      subst ho
      have hW : Below wr.heap.size wr w' := hG
      have h3 : x 37 = Value.bool true := hd 3 rfl
      have h6 : x 40 = Value.bool true := hd 6 rfl
      dsimp only []
      go_wp2
      exact ⟨Value.bool true, (by simp [Reg.upd, TellsDst, h3, h6]), hW, Below.refl _ _, rfl⟩
    · intro o ho x w' hG hd
      injection ho with ho
      subst ho
      have hW : Below wr.heap.size wr w' := hG
      have h7 : x 41 = Value.bool true := hd 7 rfl
      dsimp only []
      go_wp2
      exact ⟨Value.bool true, (by simp [Reg.upd, TellsDst, h7]), hW, Below.refl _ _, rfl⟩
    · intro o ho x w' hG hd
      injection ho with ho
      subst ho
      have hW : Below wr.heap.size wr w' := hG
      have h8 : x 42 = Value.bool true := hd 8 rfl
      have hB_ := blk_below H6.out hW
      have hcz0 : w'.cell? ⟨g6, 0, none⟩ = some (Value.int .u64 a0_0) := (blk_cell hB_ 0).trans rfl
      have hcz1 : w'.cell? ⟨g6, 1, none⟩ = some (Value.int .u64 a0_1) := (blk_cell hB_ 1).trans rfl
      have hcz2 : w'.cell? ⟨g6, 2, none⟩ = some (Value.int .u64 a0_2) := (blk_cell hB_ 2).trans rfl
      have hcz3 : w'.cell? ⟨g6, 3, none⟩ = some (Value.int .u64 a0_3) := (blk_cell hB_ 3).trans rfl
      have hcz4 : w'.cell? ⟨g6, 4, none⟩ = some (Value.bool a0_4) := (blk_cell hB_ 4).trans rfl
      clear hB_
      dsimp only []
      go_wp2
      exact ⟨_, (by simp [Reg.upd, TellsDst, h8]), hW, Below.refl _ _, rfl⟩
    · intro o ho x w' hG hd
      injection ho with ho
      subst ho
      have hW : Below wr.heap.size wr w' := hG
      have h8 : x 42 = Value.bool true := hd 8 rfl
      dsimp only []
      go_wp2
      exact ⟨Value.int .u64 a1, (by simp [Reg.upd, TellsDst, h8]), hW, Below.refl _ _, rfl⟩
    · intro o ho x w' hG hd
      injection ho with ho
      subst ho
      have hW : Below wr.heap.size wr w' := hG
      have h8 : x 42 = Value.bool true := hd 8 rfl
      dsimp only []
      go_wp2
      exact ⟨Value.int .u64 a2, (by simp [Reg.upd, TellsDst, h8]), hW, Below.refl _ _, rfl⟩
    · intro o ho x w' hG hd
      injection ho with ho
      subst ho
      have hW : Below wr.heap.size wr w' := hG
      have h8 : x 42 = Value.bool true := hd 8 rfl
      have h9 : x 43 = Value.agg #[Value.int .u64 a0_0, Value.int .u64 a0_1, Value.int .u64 a0_2, Value.int .u64 a0_3, Value.bool a0_4] := hd 9 rfl
      have h10 : x 44 = Value.int .u64 a1 := hd 10 rfl
      have h11 : x 45 = Value.int .u64 a2 := hd 11 rfl
      dsimp only []
      go_wp2_with (go_at_call 11; (with_reducible refine (lease_Lease_Over.calls a0_0 a0_1 a0_2 a0_3 a0_4 a1 a2 ov _ hO1.out).mono ?_); rintro e1 w1 ⟨rfl, hb⟩)
      exact ⟨_, (by simp [Reg.upd, TellsDst, h8, h9, h10, h11]), below_step hW hb, hb, rfl⟩
    · intro o ho x w' hG hd
      injection ho with ho
      subst ho
      have hW : Below wr.heap.size wr w' := hG
      have h8 : x 42 = Value.bool true := hd 8 rfl
      have hB_ := blk_below H13.out hW
      have hcz0 : w'.cell? ⟨g13, 0, none⟩ = some (Value.int .u64 a0_0) := (blk_cell hB_ 0).trans rfl
      have hcz1 : w'.cell? ⟨g13, 1, none⟩ = some (Value.int .u64 a0_1) := (blk_cell hB_ 1).trans rfl
      have hcz2 : w'.cell? ⟨g13, 2, none⟩ = some (Value.int .u64 a0_2) := (blk_cell hB_ 2).trans rfl
      have hcz3 : w'.cell? ⟨g13, 3, none⟩ = some (Value.int .u64 a0_3) := (blk_cell hB_ 3).trans rfl
      have hcz4 : w'.cell? ⟨g13, 4, none⟩ = some (Value.bool a0_4) := (blk_cell hB_ 4).trans rfl
      clear hB_
      dsimp only []
      go_wp2
      exact ⟨_, (by simp [Reg.upd, TellsDst, h8]), hW, Below.refl _ _, rfl⟩
    · intro o ho x w' hG hd
      injection ho with ho
      subst ho
      have hW : Below wr.heap.size wr w' := hG
      have h8 : x 42 = Value.bool true := hd 8 rfl
      dsimp only []
      go_wp2
      exact ⟨Value.int .u64 a1, (by simp [Reg.upd, TellsDst, h8]), hW, Below.refl _ _, rfl⟩
    · intro o ho x w' hG hd
      injection ho with ho
      subst ho
      have hW : Below wr.heap.size wr w' := hG
      have h8 : x 42 = Value.bool true := hd 8 rfl
      dsimp only []
      go_wp2
      exact ⟨Value.int .u64 a2, (by simp [Reg.upd, TellsDst, h8]), hW, Below.refl _ _, rfl⟩
    · intro o ho x w' hG hd
      injection ho with ho
      subst ho
      have hW : Below wr.heap.size wr w' := hG
      have h8 : x 42 = Value.bool true := hd 8 rfl
      have h13 : x 47 = Value.agg #[Value.int .u64 a0_0, Value.int .u64 a0_1, Value.int .u64 a0_2, Value.int .u64 a0_3, Value.bool a0_4] := hd 13 rfl
      have h14 : x 48 = Value.int .u64 a1 := hd 14 rfl
      have h15 : x 49 = Value.int .u64 a2 := hd 15 rfl
      dsimp only []
      go_wp2_with (go_at_call 12; (with_reducible refine (chartroomref13_Over.calls a0_0 a0_1 a0_2 a0_3 a0_4 a1 a2 ov _ hO2.out).mono ?_); rintro e1 w1 ⟨rfl, hb⟩)
      exact ⟨_, (by simp [Reg.upd, TellsDst, h8, h13, h14, h15]), below_step hW hb, hb, rfl⟩
    · intro o ho x w' hG hd
      injection ho with ho
      subst ho
      have hW : Below wr.heap.size wr w' := hG
      have h8 : x 42 = Value.bool true := hd 8 rfl
      have h12 : x 46 = Value.bool ov := hd 12 rfl
      have h16 : x 50 = Value.bool ov := hd 16 rfl
      dsimp only []
      go_wp2
      exact ⟨Value.bool true, (by simp [Reg.upd, TellsDst, h8, h12, h16]), hW, Below.refl _ _, rfl⟩
    · intro o ho x w' hG hd
      injection ho with ho
      subst ho
      have hW : Below wr.heap.size wr w' := hG
      have h8 : x 42 = Value.bool true := hd 8 rfl
      have h17 : x 51 = Value.bool true := hd 17 rfl
      dsimp only []
      go_wp2
      exact ⟨Value.bool true, (by simp [Reg.upd, TellsDst, h8, h17]), hW, Below.refl _ _, rfl⟩
    · intro o ho x w' hG hd
      injection ho with ho
      subst ho
      have hW : Below wr.heap.size wr w' := hG
      have h18 : x 52 = Value.bool true := hd 18 rfl
      dsimp only []
      go_wp2
      exact ⟨Value.bool true, (by simp [Reg.upd, TellsDst, h18]), hW, Below.refl _ _, rfl⟩
    · intro o ho x w' hG hd
      injection ho with ho
      subst ho
      have hW : Below wr.heap.size wr w' := hG
      have h19 : x 53 = Value.bool true := hd 19 rfl
      have hB_ := blk_below H6.out hW
      have hcz0 : w'.cell? ⟨g6, 0, none⟩ = some (Value.int .u64 a0_0) := (blk_cell hB_ 0).trans rfl
      have hcz1 : w'.cell? ⟨g6, 1, none⟩ = some (Value.int .u64 a0_1) := (blk_cell hB_ 1).trans rfl
      have hcz2 : w'.cell? ⟨g6, 2, none⟩ = some (Value.int .u64 a0_2) := (blk_cell hB_ 2).trans rfl
      have hcz3 : w'.cell? ⟨g6, 3, none⟩ = some (Value.int .u64 a0_3) := (blk_cell hB_ 3).trans rfl
      have hcz4 : w'.cell? ⟨g6, 4, none⟩ = some (Value.bool a0_4) := (blk_cell hB_ 4).trans rfl
      clear hB_
      dsimp only []
      go_wp2
      exact ⟨_, (by simp [Reg.upd, TellsDst, h19]), hW, Below.refl _ _, rfl⟩
    · intro o ho x w' hG hd
      injection ho with ho
      subst ho
      have hW : Below wr.heap.size wr w' := hG
      have h19 : x 53 = Value.bool true := hd 19 rfl
      dsimp only []
      go_wp2
      exact ⟨Value.int .u64 a3, (by simp [Reg.upd, TellsDst, h19]), hW, Below.refl _ _, rfl⟩
    · intro o ho x w' hG hd
      injection ho with ho
      subst ho
      have hW : Below wr.heap.size wr w' := hG
      have h19 : x 53 = Value.bool true := hd 19 rfl
      dsimp only []
      go_wp2
      exact ⟨Value.int .u64 a4, (by simp [Reg.upd, TellsDst, h19]), hW, Below.refl _ _, rfl⟩
    · intro o ho x w' hG hd
      injection ho with ho
      subst ho
      have hW : Below wr.heap.size wr w' := hG
      have h19 : x 53 = Value.bool true := hd 19 rfl
      dsimp only []
      go_wp2
      exact ⟨Value.int .u64 a5, (by simp [Reg.upd, TellsDst, h19]), hW, Below.refl _ _, rfl⟩
    · intro o ho x w' hG hd
      injection ho with ho
      subst ho
      have hW : Below wr.heap.size wr w' := hG
      have h19 : x 53 = Value.bool true := hd 19 rfl
      have h20 : x 54 = Value.agg #[Value.int .u64 a0_0, Value.int .u64 a0_1, Value.int .u64 a0_2, Value.int .u64 a0_3, Value.bool a0_4] := hd 20 rfl
      have h21 : x 55 = Value.int .u64 a3 := hd 21 rfl
      have h22 : x 56 = Value.int .u64 a4 := hd 22 rfl
      have h23 : x 57 = Value.int .u64 a5 := hd 23 rfl
      dsimp only []
      go_wp2_with (go_at_call 13; (with_reducible refine (lease_Lease_Owns.calls a0_0 a0_1 a0_2 a0_3 a0_4 a3 a4 a5 ow _ hW1.out).mono ?_); rintro e1 w1 ⟨rfl, hb⟩)
      exact ⟨_, (by simp [Reg.upd, TellsDst, h19, h20, h21, h22, h23]), below_step hW hb, hb, rfl⟩
    · intro o ho x w' hG hd
      injection ho with ho
      subst ho
      have hW : Below wr.heap.size wr w' := hG
      have h19 : x 53 = Value.bool true := hd 19 rfl
      have hB_ := blk_below H13.out hW
      have hcz0 : w'.cell? ⟨g13, 0, none⟩ = some (Value.int .u64 a0_0) := (blk_cell hB_ 0).trans rfl
      have hcz1 : w'.cell? ⟨g13, 1, none⟩ = some (Value.int .u64 a0_1) := (blk_cell hB_ 1).trans rfl
      have hcz2 : w'.cell? ⟨g13, 2, none⟩ = some (Value.int .u64 a0_2) := (blk_cell hB_ 2).trans rfl
      have hcz3 : w'.cell? ⟨g13, 3, none⟩ = some (Value.int .u64 a0_3) := (blk_cell hB_ 3).trans rfl
      have hcz4 : w'.cell? ⟨g13, 4, none⟩ = some (Value.bool a0_4) := (blk_cell hB_ 4).trans rfl
      clear hB_
      dsimp only []
      go_wp2
      exact ⟨_, (by simp [Reg.upd, TellsDst, h19]), hW, Below.refl _ _, rfl⟩
    · intro o ho x w' hG hd
      injection ho with ho
      subst ho
      have hW : Below wr.heap.size wr w' := hG
      have h19 : x 53 = Value.bool true := hd 19 rfl
      dsimp only []
      go_wp2
      exact ⟨Value.int .u64 a3, (by simp [Reg.upd, TellsDst, h19]), hW, Below.refl _ _, rfl⟩
    · intro o ho x w' hG hd
      injection ho with ho
      subst ho
      have hW : Below wr.heap.size wr w' := hG
      have h19 : x 53 = Value.bool true := hd 19 rfl
      dsimp only []
      go_wp2
      exact ⟨Value.int .u64 a4, (by simp [Reg.upd, TellsDst, h19]), hW, Below.refl _ _, rfl⟩
    · intro o ho x w' hG hd
      injection ho with ho
      subst ho
      have hW : Below wr.heap.size wr w' := hG
      have h19 : x 53 = Value.bool true := hd 19 rfl
      dsimp only []
      go_wp2
      exact ⟨Value.int .u64 a5, (by simp [Reg.upd, TellsDst, h19]), hW, Below.refl _ _, rfl⟩
    · intro o ho x w' hG hd
      injection ho with ho
      subst ho
      have hW : Below wr.heap.size wr w' := hG
      have h19 : x 53 = Value.bool true := hd 19 rfl
      have h25 : x 59 = Value.agg #[Value.int .u64 a0_0, Value.int .u64 a0_1, Value.int .u64 a0_2, Value.int .u64 a0_3, Value.bool a0_4] := hd 25 rfl
      have h26 : x 60 = Value.int .u64 a3 := hd 26 rfl
      have h27 : x 61 = Value.int .u64 a4 := hd 27 rfl
      have h28 : x 62 = Value.int .u64 a5 := hd 28 rfl
      dsimp only []
      go_wp2_with (go_at_call 14; (with_reducible refine (chartroomref13_Owns.calls a0_0 a0_1 a0_2 a0_3 a0_4 a3 a4 a5 ow _ hW2.out).mono ?_); rintro e1 w1 ⟨rfl, hb⟩)
      exact ⟨_, (by simp [Reg.upd, TellsDst, h19, h25, h26, h27, h28]), below_step hW hb, hb, rfl⟩
    · intro o ho x w' hG hd
      injection ho with ho
      subst ho
      have hW : Below wr.heap.size wr w' := hG
      have h19 : x 53 = Value.bool true := hd 19 rfl
      have h24 : x 58 = Value.bool ow := hd 24 rfl
      have h29 : x 63 = Value.bool ow := hd 29 rfl
      dsimp only []
      go_wp2
      exact ⟨Value.bool true, (by simp [Reg.upd, TellsDst, h19, h24, h29]), hW, Below.refl _ _, rfl⟩
    · intro o ho x w' hG hd
      injection ho with ho
      subst ho
      have hW : Below wr.heap.size wr w' := hG
      have h19 : x 53 = Value.bool true := hd 19 rfl
      have h30 : x 64 = Value.bool true := hd 30 rfl
      dsimp only []
      go_wp2
      exact ⟨Value.bool true, (by simp [Reg.upd, TellsDst, h19, h30]), hW, Below.refl _ _, rfl⟩
    · intro o ho x w' hG hd
      injection ho with ho
      subst ho
      have hW : Below wr.heap.size wr w' := hG
      have h31 : x 65 = Value.bool true := hd 31 rfl
      dsimp only []
      go_wp2
      exact ⟨Value.bool true, (by simp [Reg.upd, TellsDst, h31]), hW, Below.refl _ _, rfl⟩
    · intro o ho x w' hG hd
      injection ho with ho
      subst ho
      have hW : Below wr.heap.size wr w' := hG
      have h32 : x 66 = Value.bool true := hd 32 rfl
      have hB_ := blk_below H6.out hW
      have hcz0 : w'.cell? ⟨g6, 0, none⟩ = some (Value.int .u64 a0_0) := (blk_cell hB_ 0).trans rfl
      have hcz1 : w'.cell? ⟨g6, 1, none⟩ = some (Value.int .u64 a0_1) := (blk_cell hB_ 1).trans rfl
      have hcz2 : w'.cell? ⟨g6, 2, none⟩ = some (Value.int .u64 a0_2) := (blk_cell hB_ 2).trans rfl
      have hcz3 : w'.cell? ⟨g6, 3, none⟩ = some (Value.int .u64 a0_3) := (blk_cell hB_ 3).trans rfl
      have hcz4 : w'.cell? ⟨g6, 4, none⟩ = some (Value.bool a0_4) := (blk_cell hB_ 4).trans rfl
      clear hB_
      dsimp only []
      go_wp2
      exact ⟨_, (by simp [Reg.upd, TellsDst, h32]), hW, Below.refl _ _, rfl⟩
    · intro o ho x w' hG hd
      injection ho with ho
      subst ho
      have hW : Below wr.heap.size wr w' := hG
      have h32 : x 66 = Value.bool true := hd 32 rfl
      dsimp only []
      go_wp2
      exact ⟨Value.int .u64 a3, (by simp [Reg.upd, TellsDst, h32]), hW, Below.refl _ _, rfl⟩
    · intro o ho x w' hG hd
      injection ho with ho
      subst ho
      have hW : Below wr.heap.size wr w' := hG
      have h32 : x 66 = Value.bool true := hd 32 rfl
      dsimp only []
      go_wp2
      exact ⟨Value.int .u64 a4, (by simp [Reg.upd, TellsDst, h32]), hW, Below.refl _ _, rfl⟩
    · intro o ho x w' hG hd
      injection ho with ho
      subst ho
      have hW : Below wr.heap.size wr w' := hG
      have h32 : x 66 = Value.bool true := hd 32 rfl
      dsimp only []
      go_wp2
      exact ⟨Value.int .u64 a5, (by simp [Reg.upd, TellsDst, h32]), hW, Below.refl _ _, rfl⟩
    · intro o ho x w' hG hd
      injection ho with ho
      subst ho
      have hW : Below wr.heap.size wr w' := hG
      have h32 : x 66 = Value.bool true := hd 32 rfl
      have h33 : x 67 = Value.agg #[Value.int .u64 a0_0, Value.int .u64 a0_1, Value.int .u64 a0_2, Value.int .u64 a0_3, Value.bool a0_4] := hd 33 rfl
      have h34 : x 68 = Value.int .u64 a3 := hd 34 rfl
      have h35 : x 69 = Value.int .u64 a4 := hd 35 rfl
      have h36 : x 70 = Value.int .u64 a5 := hd 36 rfl
      dsimp only []
      go_wp2_with (go_at_call 15; (with_reducible refine (lease_Lease_Fence.calls a0_0 a0_1 a0_2 a0_3 a0_4 a3 a4 a5 fe _ hF1.out).mono ?_); rintro e1 w1 ⟨rfl, hb⟩)
      exact ⟨_, (by simp [Reg.upd, TellsDst, h32, h33, h34, h35, h36]), below_step hW hb, hb, rfl⟩
    · intro o ho x w' hG hd
      injection ho with ho
      subst ho
      have hW : Below wr.heap.size wr w' := hG
      have h32 : x 66 = Value.bool true := hd 32 rfl
      have hB_ := blk_below H13.out hW
      have hcz0 : w'.cell? ⟨g13, 0, none⟩ = some (Value.int .u64 a0_0) := (blk_cell hB_ 0).trans rfl
      have hcz1 : w'.cell? ⟨g13, 1, none⟩ = some (Value.int .u64 a0_1) := (blk_cell hB_ 1).trans rfl
      have hcz2 : w'.cell? ⟨g13, 2, none⟩ = some (Value.int .u64 a0_2) := (blk_cell hB_ 2).trans rfl
      have hcz3 : w'.cell? ⟨g13, 3, none⟩ = some (Value.int .u64 a0_3) := (blk_cell hB_ 3).trans rfl
      have hcz4 : w'.cell? ⟨g13, 4, none⟩ = some (Value.bool a0_4) := (blk_cell hB_ 4).trans rfl
      clear hB_
      dsimp only []
      go_wp2
      exact ⟨_, (by simp [Reg.upd, TellsDst, h32]), hW, Below.refl _ _, rfl⟩
    · intro o ho x w' hG hd
      injection ho with ho
      subst ho
      have hW : Below wr.heap.size wr w' := hG
      have h32 : x 66 = Value.bool true := hd 32 rfl
      dsimp only []
      go_wp2
      exact ⟨Value.int .u64 a3, (by simp [Reg.upd, TellsDst, h32]), hW, Below.refl _ _, rfl⟩
    · intro o ho x w' hG hd
      injection ho with ho
      subst ho
      have hW : Below wr.heap.size wr w' := hG
      have h32 : x 66 = Value.bool true := hd 32 rfl
      dsimp only []
      go_wp2
      exact ⟨Value.int .u64 a4, (by simp [Reg.upd, TellsDst, h32]), hW, Below.refl _ _, rfl⟩
    · intro o ho x w' hG hd
      injection ho with ho
      subst ho
      have hW : Below wr.heap.size wr w' := hG
      have h32 : x 66 = Value.bool true := hd 32 rfl
      dsimp only []
      go_wp2
      exact ⟨Value.int .u64 a5, (by simp [Reg.upd, TellsDst, h32]), hW, Below.refl _ _, rfl⟩
    · intro o ho x w' hG hd
      injection ho with ho
      subst ho
      have hW : Below wr.heap.size wr w' := hG
      have h32 : x 66 = Value.bool true := hd 32 rfl
      have h38 : x 72 = Value.agg #[Value.int .u64 a0_0, Value.int .u64 a0_1, Value.int .u64 a0_2, Value.int .u64 a0_3, Value.bool a0_4] := hd 38 rfl
      have h39 : x 73 = Value.int .u64 a3 := hd 39 rfl
      have h40 : x 74 = Value.int .u64 a4 := hd 40 rfl
      have h41 : x 75 = Value.int .u64 a5 := hd 41 rfl
      dsimp only []
      go_wp2_with (go_at_call 16; (with_reducible refine (chartroomref13_Fence.calls a0_0 a0_1 a0_2 a0_3 a0_4 a3 a4 a5 fe _ hF2.out).mono ?_); rintro e1 w1 ⟨rfl, hb⟩)
      exact ⟨_, (by simp [Reg.upd, TellsDst, h32, h38, h39, h40, h41]), below_step hW hb, hb, rfl⟩
    · intro o ho x w' hG hd
      injection ho with ho
      subst ho
      have hW : Below wr.heap.size wr w' := hG
      have h32 : x 66 = Value.bool true := hd 32 rfl
      have h37 : x 71 = Value.int .i64 fe := hd 37 rfl
      have h42 : x 76 = Value.int .i64 fe := hd 42 rfl
      dsimp only []
      go_wp2
      exact ⟨Value.bool true, (by simp [Reg.upd, TellsDst, h32, h37, h42]), hW, Below.refl _ _, rfl⟩
    · intro o ho x w' hG hd
      injection ho with ho
      subst ho
      have hW : Below wr.heap.size wr w' := hG
      have h32 : x 66 = Value.bool true := hd 32 rfl
      have h43 : x 77 = Value.bool true := hd 43 rfl
      dsimp only []
      go_wp2
      exact ⟨Value.bool true, (by simp [Reg.upd, TellsDst, h32, h43]), hW, Below.refl _ _, rfl⟩
    · intro o ho x w' hG hd
      injection ho with ho
      subst ho
      have hW : Below wr.heap.size wr w' := hG
      have h44 : x 78 = Value.bool true := hd 44 rfl
      dsimp only []
      go_wp2
      exact ⟨Value.bool true, (by simp [Reg.upd, TellsDst, h44]), hW, Below.refl _ _, rfl⟩
    · intro o ho x w' hG hd
      injection ho with ho
      subst ho
      have hW : Below wr.heap.size wr w' := hG
      have h45 : x 79 = Value.bool true := hd 45 rfl
      dsimp only []
      go_wp2
      exact ⟨Value.int .u64 a1, (by simp [Reg.upd, TellsDst, h45]), hW, Below.refl _ _, rfl⟩
    · intro o ho x w' hG hd
      injection ho with ho
      subst ho
      have hW : Below wr.heap.size wr w' := hG
      have h45 : x 79 = Value.bool true := hd 45 rfl
      dsimp only []
      go_wp2
      exact ⟨Value.int .u64 a2, (by simp [Reg.upd, TellsDst, h45]), hW, Below.refl _ _, rfl⟩
    · intro o ho x w' hG hd
      injection ho with ho
      subst ho
      have hW : Below wr.heap.size wr w' := hG
      have h45 : x 79 = Value.bool true := hd 45 rfl
      have h46 : x 80 = Value.int .u64 a1 := hd 46 rfl
      have h47 : x 81 = Value.int .u64 a2 := hd 47 rfl
      dsimp only []
      go_wp2_with (go_at_call 17; (with_reducible refine (lease_Until.calls a1 a2 un _ hU1.out).mono ?_); rintro e1 w1 ⟨rfl, hb⟩ ; replace hb := hb.below)
      exact ⟨_, (by simp [Reg.upd, TellsDst, h45, h46, h47]), below_step hW hb, hb, rfl⟩
    · intro o ho x w' hG hd
      injection ho with ho
      subst ho
      have hW : Below wr.heap.size wr w' := hG
      have h45 : x 79 = Value.bool true := hd 45 rfl
      dsimp only []
      go_wp2
      exact ⟨Value.int .u64 a1, (by simp [Reg.upd, TellsDst, h45]), hW, Below.refl _ _, rfl⟩
    · intro o ho x w' hG hd
      injection ho with ho
      subst ho
      have hW : Below wr.heap.size wr w' := hG
      have h45 : x 79 = Value.bool true := hd 45 rfl
      dsimp only []
      go_wp2
      exact ⟨Value.int .u64 a2, (by simp [Reg.upd, TellsDst, h45]), hW, Below.refl _ _, rfl⟩
    · intro o ho x w' hG hd
      injection ho with ho
      subst ho
      have hW : Below wr.heap.size wr w' := hG
      have h45 : x 79 = Value.bool true := hd 45 rfl
      have h49 : x 83 = Value.int .u64 a1 := hd 49 rfl
      have h50 : x 84 = Value.int .u64 a2 := hd 50 rfl
      dsimp only []
      go_wp2_with (go_at_call 18; (with_reducible refine (chartroomref13_Until.calls a1 a2 un _ hU2.out).mono ?_); rintro e1 w1 ⟨rfl, hb⟩ ; replace hb := hb.below)
      exact ⟨_, (by simp [Reg.upd, TellsDst, h45, h49, h50]), below_step hW hb, hb, rfl⟩
    · intro o ho x w' hG hd
      injection ho with ho
      subst ho
      have hW : Below wr.heap.size wr w' := hG
      have h45 : x 79 = Value.bool true := hd 45 rfl
      have h48 : x 82 = Value.int .u64 un := hd 48 rfl
      have h51 : x 85 = Value.int .u64 un := hd 51 rfl
      dsimp only []
      go_wp2
      exact ⟨Value.bool true, (by simp [Reg.upd, TellsDst, h45, h48, h51]), hW, Below.refl _ _, rfl⟩
    · intro o ho x w' hG hd
      injection ho with ho
      subst ho
      have hW : Below wr.heap.size wr w' := hG
      have h45 : x 79 = Value.bool true := hd 45 rfl
      have h52 : x 86 = Value.bool true := hd 52 rfl
      dsimp only []
      go_wp2
      exact ⟨Value.bool true, (by simp [Reg.upd, TellsDst, h45, h52]), hW, Below.refl _ _, rfl⟩
    · intro o ho x w' hG hd
      injection ho with ho
      subst ho
      have hW : Below wr.heap.size wr w' := hG
      have h53 : x 87 = Value.bool true := hd 53 rfl
      dsimp only []
      go_wp2
      exact ⟨Value.bool true, (by simp [Reg.upd, TellsDst, h53]), hW, Below.refl _ _, rfl⟩
    · intro o ho x w' hG hd
      injection ho with ho
      subst ho
      have hW : Below wr.heap.size wr w' := hG
      have h54 : x 88 = Value.bool true := hd 54 rfl
      dsimp only []
      go_wp2_with (go_at_call 19; (with_reducible refine (chartroomlaw13_works.calls  true _ rfl).mono ?_); rintro e1 w1 ⟨rfl, hb⟩)
      exact ⟨_, (by simp [Reg.upd, TellsDst, h54]), below_step hW hb, hb, rfl⟩
    · intro o ho x w' hG hd
      injection ho with ho
      subst ho
      have hW : Below wr.heap.size wr w' := hG
      have h54 : x 88 = Value.bool true := hd 54 rfl
      have h55 : x 89 = Value.bool true := hd 55 rfl
      dsimp only []
      go_wp2
      exact ⟨Value.bool true, (by simp [Reg.upd, TellsDst, h54, h55]), hW, Below.refl _ _, rfl⟩
    · intro o ho x w' hG hd
      injection ho with ho
      subst ho
      have hW : Below wr.heap.size wr w' := hG
      have h56 : x 90 = Value.bool true := hd 56 rfl
      dsimp only []
      go_wp2
      exact ⟨Value.bool true, (by simp [Reg.upd, TellsDst, h56]), hW, Below.refl _ _, rfl⟩
end Go.Proofs.Ythjdldiekpidkaa
