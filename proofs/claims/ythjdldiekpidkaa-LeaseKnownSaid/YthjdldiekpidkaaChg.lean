/- LeaseChanges: the walk. -/
import Derived.Test.YthjdldiekpidkaaPure2
import Derived.Test.YthjdldiekpidkaaOpen2
import Derived.Test.YthjdldiekpidkaaEq
import Derived.Test.YthjdldiekpidkaaWorks
import Derived.Test.YthjdldiekpidkaaRegion

namespace Go.Proofs.Ythjdldiekpidkaa
attribute [local go_sem high] eqA24 eqA25
open Go.RowKit Go.Proofs.YthjdldiekpidkaaW.PrintWords Go.Proofs.YthjdldiekpidkaaW.PrintLast Go.Proofs.YthjdldiekpidkaaW.PrintMore
open Pl
set_option linter.unusedVariables false
set_option linter.unusedSimpArgs false

theorem last_of_below (A : Option Addr) (l : List S24) (cap : Nat) (z : S24) (wr w : World) (hC : Kd.C k24 wr A l.length l) (hb : Below wr.heap.size wr w) (hcap : l.length ≤ cap) (hmax : l.length ≤ 1000000) (hz : z = lastAt l l.length) :
    Calls Try.prog 27 #[.slice A l.length cap] w fun e w' => e = .returned (.agg #[.int .u64 z.f0, .int .u64 z.f1, .int .u64 z.f2, .int .u64 z.f3, .bool z.f4]) ∧ Below w.heap.size w w' := by
  subst hz
  exact last_walk A l cap w (Kd.C_below hC hb) hcap hmax

theorem refLast_of_below (B : Option Addr) (l : List S24) (cap : Nat) (z : S24) (wr w : World) (hC : Kd.C k25 wr B (l.map to25).length (l.map to25)) (hb : Below wr.heap.size wr w) (hcap : l.length ≤ cap) (hmax : l.length ≤ 1000000) (hz : z = lastAt l l.length) :
    Calls Try.prog 28 #[.slice B l.length cap] w fun e w' => e = .returned (.agg #[.int .u64 z.f0, .int .u64 z.f1, .int .u64 z.f2, .int .u64 z.f3, .bool z.f4]) ∧ Below w.heap.size w w' := by
  subst hz
  have h := chartroomref13_Last.calls (l.length + 1) B cap (l.map to25) _ _ _ _ _ w (Kd.C_below hC hb) (by rw [List.length_map]; exact hcap) (refLast_is l hmax)
  rw [List.length_map] at h
  exact h

def ChgFact (x m z : S24) (A B : Option Addr) (l : List S24) (cap cap2 : Nat) (a1 a2 a3 e : Int) (g5 g13 g15 : Nat) (k_ : Nat) (v : Value) : Prop :=
  match k_ with
  | 0 => v = Value.agg #[Value.int .u64 m.f0, Value.int .u64 m.f1, Value.int .u64 m.f2, Value.int .u64 m.f3, Value.bool m.f4]
  | 1 => v = Value.agg #[Value.int .u64 m.f0, Value.int .u64 m.f1, Value.int .u64 m.f2, Value.int .u64 m.f3, Value.bool m.f4]
  | 2 => v = Value.agg #[Value.int .u64 m.f0, Value.int .u64 m.f1, Value.int .u64 m.f2, Value.int .u64 m.f3, Value.bool m.f4]
  | 3 => v = Value.bool true
  | 4 => v = Value.bool true
  | 5 => v = Value.int .i64 e
  | 6 => v = Value.int .i64 e
  | 7 => v = Value.bool true
  | 8 => v = Value.bool true
  | 9 => v = Value.bool true
  | 10 => v = Value.agg #[Value.int .u64 x.f0, Value.int .u64 x.f1, Value.int .u64 x.f2, Value.int .u64 x.f3, Value.bool x.f4]
  | 11 => v = Value.int .u64 a3
  | 12 => v = Value.agg #[Value.int .u64 x.f0, Value.int .u64 x.f1, Value.int .u64 x.f2, Value.int .u64 (mx x.f3 a3), Value.bool x.f4]
  | 13 => v = Value.agg #[Value.int .u64 x.f0, Value.int .u64 x.f1, Value.int .u64 x.f2, Value.int .u64 (mx x.f3 a3), Value.bool x.f4]
  | 14 => v = Value.agg #[Value.int .u64 x.f0, Value.int .u64 x.f1, Value.int .u64 x.f2, Value.int .u64 x.f3, Value.bool x.f4]
  | 15 => v = Value.agg #[Value.int .u64 x.f0, Value.int .u64 x.f1, Value.int .u64 x.f2, Value.int .u64 x.f3, Value.bool x.f4]
  | 16 => v = Value.int .u64 a3
  | 17 => v = Value.agg #[Value.int .u64 x.f0, Value.int .u64 x.f1, Value.int .u64 x.f2, Value.int .u64 (mx x.f3 a3), Value.bool x.f4]
  | 18 => v = Value.bool true
  | 19 => v = Value.bool true
  | 20 => v = Value.bool true
  | 21 => v = Value.agg #[Value.int .u64 x.f0, Value.int .u64 x.f1, Value.int .u64 x.f2, Value.int .u64 x.f3, Value.bool x.f4]
  | 22 => v = Value.agg #[Value.int .u64 x.f0, Value.int .u64 x.f1, Value.int .u64 x.f2, Value.int .u64 x.f3, Value.bool false]
  | 23 => v = Value.agg #[Value.int .u64 x.f0, Value.int .u64 x.f1, Value.int .u64 x.f2, Value.int .u64 x.f3, Value.bool false]
  | 24 => v = Value.agg #[Value.int .u64 x.f0, Value.int .u64 x.f1, Value.int .u64 x.f2, Value.int .u64 x.f3, Value.bool x.f4]
  | 25 => v = Value.agg #[Value.int .u64 x.f0, Value.int .u64 x.f1, Value.int .u64 x.f2, Value.int .u64 x.f3, Value.bool x.f4]
  | 26 => v = Value.agg #[Value.int .u64 x.f0, Value.int .u64 x.f1, Value.int .u64 x.f2, Value.int .u64 x.f3, Value.bool false]
  | 27 => v = Value.bool true
  | 28 => v = Value.bool true
  | 29 => v = Value.bool true
  | 30 => v = Value.slice A l.length cap
  | 31 => v = Value.agg #[Value.int .u64 z.f0, Value.int .u64 z.f1, Value.int .u64 z.f2, Value.int .u64 z.f3, Value.bool z.f4]
  | 32 => v = Value.agg #[Value.int .u64 z.f0, Value.int .u64 z.f1, Value.int .u64 z.f2, Value.int .u64 z.f3, Value.bool z.f4]
  | 33 => v = Value.slice B l.length cap2
  | 34 => v = Value.agg #[Value.int .u64 z.f0, Value.int .u64 z.f1, Value.int .u64 z.f2, Value.int .u64 z.f3, Value.bool z.f4]
  | 35 => v = Value.bool true
  | 36 => v = Value.bool true
  | 37 => v = Value.bool true
  | 38 => v = Value.bool true
  | 39 => v = Value.bool true
  | 40 => v = Value.bool true
  | _ => True
def ChgDst : Nat → Nat := fun i => [52, 53, 54, 55, 56, 57, 58, 59, 60, 61, 62, 63, 64, 65, 66, 67, 68, 69, 70, 71, 72, 73, 74, 75, 76, 77, 78, 79, 80, 81, 82, 83, 84, 85, 86, 87, 88, 89, 90, 91, 10].getD i 0
theorem ChgDst_inj : ∀ i j, i < 41 → j < 41 → ChgDst i = ChgDst j → i = j := by
  intro i j hi hj h
  have : ∀ a b : Fin 41, ChgDst a = ChgDst b → a = b := by decide +kernel
  have h2 := this ⟨i, hi⟩ ⟨j, hj⟩ h
  exact Fin.mk.inj_iff.1 h2

set_option maxHeartbeats 8000000 in
set_option maxRecDepth 100000 in
theorem changes_walk (x : S24) (A : Option Addr) (l : List S24) (cap : Nat) (a1 a2 a3 : Int) (w : World) (hx : Fits x) (hC : Kd.C k24 w A l.length l) (hcap : l.length ≤ cap) :
    Calls Try.prog 6 #[.agg #[Value.int .u64 x.f0, Value.int .u64 x.f1, Value.int .u64 x.f2, Value.int .u64 x.f3, Value.bool x.f4], .int .u64 a1, .int .u64 a2, .int .u64 a3, .slice A l.length cap] w fun e w' => e = .returned (.bool true) ∧ Below w.heap.size w w' := by
  have hu24 := Try.underlying24
  have hu25 := Try.underlying25
  have hu50 := Try.underlying50
  have hu51 := Try.underlying51
  have HC := Aside0.mk hC
  have HCAP := Aside0.mk hcap
  have HX := Aside0.mk hx
  clear hC hx
  have HB := Aside0.mk (Below.refl w.heap.size w)
  by_cases hbig : l.length > 20
  · have c1 : decide ((20 : Int) < l.length) = true := decide_eq_true (by omega)
    go_enter Try.func6, Try.ntmps6
    go_wp2_with (first | ((with_reducible refine gate_dst (N := 5) rfl ?_); refine box_event ?hg (N := 5) ?hd (cs := #[Value.int .u64 x.f0, Value.int .u64 x.f1, Value.int .u64 x.f2, Value.int .u64 x.f3, Value.bool x.f4]) (t := 24) ?hr ?_; (case hd => rfl); (case hg => rfl); (case hr => first | (go_simp; done) | (go_simp; rfl)); intro g5 hg w5 hbox hb; have HG5 := Aside0.mk (show w.heap.size ≤ g5 by rw [hg]; exact below_size HB.out); clear hg; have H5 := Aside0.mk hbox; clear hbox; have HB := Aside0.mk (below_step HB.out hb); clear hb) | (go_at_call 19; (with_reducible refine (chartroomlaw13_works.calls true _ rfl).mono ?_); rintro e1 w19 ⟨rfl, hb⟩; have HB := Aside0.mk (below_step HB.out hb); clear hb))
    go_ret
    exact ⟨rfl, HB.out⟩
  have c1 : decide ((20 : Int) < l.length) = false := decide_eq_false (by omega)
  have HMAX := Aside0.mk (show l.length ≤ 1000000 by omega)
  have H20 := Aside0.mk (show l.length ≤ 20 by omega)

  go_enter Try.func6, Try.ntmps6
  go_wp2_with ((with_reducible refine gate_dst (N := 5) rfl ?_); refine box_event ?hg (N := 5) ?hd (cs := #[Value.int .u64 x.f0, Value.int .u64 x.f1, Value.int .u64 x.f2, Value.int .u64 x.f3, Value.bool x.f4]) (t := 24) ?hr ?_; (case hd => rfl); (case hg => rfl); (case hr => first | (go_simp; done) | (go_simp; rfl)); intro g5 hg w5 hbox hb; have HG5 := Aside0.mk (show w.heap.size ≤ g5 by rw [hg]; exact below_size HB.out); clear hg; have H5 := Aside0.mk hbox; clear hbox; have HB := Aside0.mk (below_step HB.out hb); clear hb)

  go_loopg [11, 12] l.length (fun kq v11 v12 w' => ∃ i : Nat, v12 = .int .i64 (i : Int) ∧ Aside0 (i + kq = l.length) ∧ Aside0 (Kd.R k25 25 w' w.heap.size (fun _ => True) v11 ((l.take i).map to25)) ∧ Aside0 (w'.heap[g5]? = some (.cells #[Value.int .u64 x.f0, Value.int .u64 x.f1, Value.int .u64 x.f2, Value.int .u64 x.f3, Value.bool x.f4] 24 (0, 0))) ∧ Aside0 (Below w.heap.size w w'))
  case atStart => exact ⟨0, rfl, ⟨by omega⟩, ⟨Kd.R_nil _ _ _ _ _⟩, H5, HB⟩
  case round =>
    clear HB H5
    obtain ⟨i, rfl, HK, HO, H5, HB⟩ := hrel
    by_cases hlt : i < l.length
    · have c2 : decide ((i : Int) < l.length) = true := decide_eq_true (by omega)
      cases gk with
      | zero => exact absurd HK.out (by omega)
      | succ k1 =>
      obtain ⟨ad, rfl, hx0, hx1, hx2, hx3, hx4⟩ := at_T24 (Kd.C_below HC.out HB.out) (i : Int) (by omega) (by omega)
      rw [Int.toNat_natCast] at hx0 hx1 hx2 hx3 hx4
      have HY : Aside0 ((l.take (i + 1)).map to25 = (l.take i).map to25 ++ [(⟨(rd_T24 l ↑i).f0, (rd_T24 l ↑i).f1, (rd_T24 l ↑i).f2, (rd_T24 l ↑i).f3, (rd_T24 l ↑i).f4⟩ : S25)]) := ⟨by
        have e : rd_T24 l ↑i = l[i]'hlt := by unfold rd_T24; rw [Int.toNat_natCast, List.getD_eq_getElem?_getD, List.getElem?_eq_getElem hlt]; rfl
        rw [e, List.take_add_one, List.getElem?_eq_getElem hlt, List.map_append]
        rfl⟩
      have HLEN := Aside0.mk (show ((l.take i).map to25).length < 3518437208883 by rw [List.length_map, List.length_take]; have := H20.out; omega)
      generalize rd_T24 l ↑i = y at hx0 hx1 hx2 hx3 hx4 HY
      go_wp2_with (first | (go_at_call 8; (with_reducible refine (chartroomlaw13_ref.calls y.f0 y.f1 y.f2 y.f3 y.f4 y.f0 y.f1 y.f2 y.f3 y.f4 _ rfl).mono ?_); rintro e1 w15 ⟨rfl, hb⟩; have HO := Aside0.mk (Kd.R_below HO.out hb); have H5 := Aside0.mk (blk_below H5.out hb); have HB := Aside0.mk (below_step HB.out hb); clear hb) | ((with_reducible refine gate_builtin (b := .append) (xs := #[.tmp 27, .tmp 33]) rfl ?_); at_builtin; refine Kd.R_append k25 (w0 := w) w.heap.size rfl (.tmp 27) (.tmp 33) 51 25 (.agg #[(.int .u64 0), (.int .u64 0), (.int .u64 0), (.int .u64 0), (.bool false)]) 40 rfl Try.underlying51 info25 rfl (by decide) (by omega) u11 ((l.take i).map to25) (⟨y.f0, y.f1, y.f2, y.f3, y.f4⟩ : S25) [.int .u64 y.f0, .int .u64 y.f1, .int .u64 y.f2, .int .u64 y.f3, .bool y.f4] (fun _ => True) (fun _ => False) rfl rfl ?aP (fun _ hk => hk.elim) ?aF ?aO ?aB ?aS ?aL ?_; (case aP => exact k25_mkM _ _ _ (⟨y.f0, y.f1, y.f2, y.f3, y.f4⟩ : S25)); (case aB => exact HB.out); (case aF => exact (fun _ _ => trivial)); (case aO => exact HO.out); (case aS => exact (below_size HB.out)); (case aL => have := HLEN.out; omega); intro v140 w16 ho hb hg hat; rw [← HY.out] at ho; have H5 := Aside0.mk (blk_grown H5.out hg (Kd.R_ne HO.out H5.out (by decide))); have HB := Aside0.mk hb; have HO2 := Aside0.mk ho; clear HO; clear ho hb hg hat hx0 hx1 hx2 hx3 hx4))
      go_roundg k1
      case measure => omega
      case rel => exact ⟨i + 1, by have h20 := H20.out; go_num, ⟨by have := HK.out; omega⟩, HO2, H5, HB⟩
    · have c2 : decide ((i : Int) < l.length) = false := decide_eq_false (by omega)
      have e : i = l.length := by have := HK.out; omega
      subst e
      obtain ⟨B, cap2, rfl, hc2, hRB⟩ := Kd.R_reads HO.out
      have HRB0 := Aside0.mk hRB
      have el : ((l.take l.length).map to25).length = l.length := by rw [List.take_length, List.length_map]
      rw [el] at hc2 ⊢
      have HC2 := Aside0.mk hc2
      have HRB1 : Aside0 (Kd.C k25 wr B (l.map to25).length (l.map to25)) := ⟨by have h := HRB0.out; rw [List.take_length] at h; exact h⟩
      clear HO HRB0 hRB hc2 el hlt
      obtain ⟨m, e, hg1, hg2⟩ := grant_both x a1 a2 a3 HX.out.1
      have HG1 := Aside0.mk hg1
      have HG2 := Aside0.mk hg2
      have hRR := Aside0.mk (renew_ref x a3)
      obtain ⟨z, hz⟩ : ∃ z, z = lastAt l l.length := ⟨_, rfl⟩
      have HZ := Aside0.mk hz
      clear hg1 hg2 hz
      have HR := Aside0.mk (Below.refl wr.heap.size wr)
      have hcz5_0 : wr.cell? ⟨g5, 0, none⟩ = some (Value.int .u64 x.f0) := (blk_cell H5.out 0).trans rfl
      have hcz5_1 : wr.cell? ⟨g5, 1, none⟩ = some (Value.int .u64 x.f1) := (blk_cell H5.out 1).trans rfl
      have hcz5_2 : wr.cell? ⟨g5, 2, none⟩ = some (Value.int .u64 x.f2) := (blk_cell H5.out 2).trans rfl
      have hcz5_3 : wr.cell? ⟨g5, 3, none⟩ = some (Value.int .u64 x.f3) := (blk_cell H5.out 3).trans rfl
      have hcz5_4 : wr.cell? ⟨g5, 4, none⟩ = some (Value.bool x.f4) := (blk_cell H5.out 4).trans rfl
      go_upto_region 10 with (first | (go_at_call 21; (with_reducible refine (lease_Lease_Grant.calls x.f0 x.f1 x.f2 x.f3 x.f4 a1 a2 a3 m.f0 m.f1 m.f2 m.f3 m.f4 e _ HG1.out).mono ?_); rintro e1 w21 ⟨rfl, hb⟩; clear hcz5_0 hcz5_1 hcz5_2 hcz5_3 hcz5_4; have HB := Aside0.mk (below_step HB.out hb); have HR := Aside0.mk (below_step HR.out hb); have H5 := Aside0.mk (blk_below H5.out hb); have hcz5_0 : w21.cell? ⟨g5, 0, none⟩ = some (Value.int .u64 x.f0) := (blk_cell H5.out 0).trans rfl; have hcz5_1 : w21.cell? ⟨g5, 1, none⟩ = some (Value.int .u64 x.f1) := (blk_cell H5.out 1).trans rfl; have hcz5_2 : w21.cell? ⟨g5, 2, none⟩ = some (Value.int .u64 x.f2) := (blk_cell H5.out 2).trans rfl; have hcz5_3 : w21.cell? ⟨g5, 3, none⟩ = some (Value.int .u64 x.f3) := (blk_cell H5.out 3).trans rfl; have hcz5_4 : w21.cell? ⟨g5, 4, none⟩ = some (Value.bool x.f4) := (blk_cell H5.out 4).trans rfl; clear hb) | ((with_reducible refine gate_dst (N := 13) rfl ?_); refine box_event ?hg (N := 13) ?hd (cs := #[Value.int .u64 0, .int .u64 0, .int .u64 0, .int .u64 0, .bool false]) (t := 24) ?hr ?_; (case hd => rfl); (case hg => rfl); (case hr => first | (go_simp; done) | (go_simp; rfl)); intro g13 hg w13 hbox hb; have HG13_w := Aside0.mk (show w.heap.size ≤ g13 by rw [hg]; exact below_size HB.out); have HG13_wr := Aside0.mk (show wr.heap.size ≤ g13 by rw [hg]; exact below_size HR.out); have HN13_5 := Aside0.mk (show g5 ≠ g13 by rw [hg]; exact Nat.ne_of_lt (blk_lt H5.out)); clear hg; have H13 := Aside0.mk hbox; clear hbox; clear hcz5_0 hcz5_1 hcz5_2 hcz5_3 hcz5_4; have HB := Aside0.mk (below_step HB.out hb); have HR := Aside0.mk (below_step HR.out hb); have H5 := Aside0.mk (blk_below H5.out hb); have hcz5_0 : w13.cell? ⟨g5, 0, none⟩ = some (Value.int .u64 x.f0) := (blk_cell H5.out 0).trans rfl; have hcz5_1 : w13.cell? ⟨g5, 1, none⟩ = some (Value.int .u64 x.f1) := (blk_cell H5.out 1).trans rfl; have hcz5_2 : w13.cell? ⟨g5, 2, none⟩ = some (Value.int .u64 x.f2) := (blk_cell H5.out 2).trans rfl; have hcz5_3 : w13.cell? ⟨g5, 3, none⟩ = some (Value.int .u64 x.f3) := (blk_cell H5.out 3).trans rfl; have hcz5_4 : w13.cell? ⟨g5, 4, none⟩ = some (Value.bool x.f4) := (blk_cell H5.out 4).trans rfl; clear hb) | ((with_reducible refine gate_ (.store 24 (.tmp 13) (.tmp 41)) rfl ?_); refine storeN_event (g := g13) (new := #[Value.int .u64 m.f0, Value.int .u64 m.f1, Value.int .u64 m.f2, Value.int .u64 m.f3, Value.bool m.f4]) rfl rfl rfl ?ha ?hx H13.out ?ht rfl ?h1 ?_; (case ha => rfl); (case hx => rfl); (case ht => kernel_rfl); (case h1 => simp [Value.oneCell']); intro W13 hW hfar hbel; clear hcz5_0 hcz5_1 hcz5_2 hcz5_3 hcz5_4; have HB := Aside0.mk (hbel w HB.out HG13_w.out); have HR := Aside0.mk (hbel wr HR.out HG13_wr.out); have H5 := Aside0.mk ((hfar g5 HN13_5.out).trans H5.out); have H13 := Aside0.mk hW; clear hW hfar hbel; have hcz5_0 : W13.cell? ⟨g5, 0, none⟩ = some (Value.int .u64 x.f0) := (blk_cell H5.out 0).trans rfl; have hcz5_1 : W13.cell? ⟨g5, 1, none⟩ = some (Value.int .u64 x.f1) := (blk_cell H5.out 1).trans rfl; have hcz5_2 : W13.cell? ⟨g5, 2, none⟩ = some (Value.int .u64 x.f2) := (blk_cell H5.out 2).trans rfl; have hcz5_3 : W13.cell? ⟨g5, 3, none⟩ = some (Value.int .u64 x.f3) := (blk_cell H5.out 3).trans rfl; have hcz5_4 : W13.cell? ⟨g5, 4, none⟩ = some (Value.bool x.f4) := (blk_cell H5.out 4).trans rfl; have hcz13_0 : W13.cell? ⟨g13, 0, none⟩ = some (Value.int .u64 m.f0) := (blk_cell H13.out 0).trans rfl; have hcz13_1 : W13.cell? ⟨g13, 1, none⟩ = some (Value.int .u64 m.f1) := (blk_cell H13.out 1).trans rfl; have hcz13_2 : W13.cell? ⟨g13, 2, none⟩ = some (Value.int .u64 m.f2) := (blk_cell H13.out 2).trans rfl; have hcz13_3 : W13.cell? ⟨g13, 3, none⟩ = some (Value.int .u64 m.f3) := (blk_cell H13.out 3).trans rfl; have hcz13_4 : W13.cell? ⟨g13, 4, none⟩ = some (Value.bool m.f4) := (blk_cell H13.out 4).trans rfl) | (go_at_call 8; (with_reducible refine (chartroomlaw13_ref.calls x.f0 x.f1 x.f2 x.f3 x.f4 x.f0 x.f1 x.f2 x.f3 x.f4 _ rfl).mono ?_); rintro e1 w8 ⟨rfl, hb⟩; clear hcz5_0 hcz5_1 hcz5_2 hcz5_3 hcz5_4; clear hcz13_0 hcz13_1 hcz13_2 hcz13_3 hcz13_4; have HB := Aside0.mk (below_step HB.out hb); have HR := Aside0.mk (below_step HR.out hb); have H5 := Aside0.mk (blk_below H5.out hb); have H13 := Aside0.mk (blk_below H13.out hb); have hcz5_0 : w8.cell? ⟨g5, 0, none⟩ = some (Value.int .u64 x.f0) := (blk_cell H5.out 0).trans rfl; have hcz5_1 : w8.cell? ⟨g5, 1, none⟩ = some (Value.int .u64 x.f1) := (blk_cell H5.out 1).trans rfl; have hcz5_2 : w8.cell? ⟨g5, 2, none⟩ = some (Value.int .u64 x.f2) := (blk_cell H5.out 2).trans rfl; have hcz5_3 : w8.cell? ⟨g5, 3, none⟩ = some (Value.int .u64 x.f3) := (blk_cell H5.out 3).trans rfl; have hcz5_4 : w8.cell? ⟨g5, 4, none⟩ = some (Value.bool x.f4) := (blk_cell H5.out 4).trans rfl; have hcz13_0 : w8.cell? ⟨g13, 0, none⟩ = some (Value.int .u64 m.f0) := (blk_cell H13.out 0).trans rfl; have hcz13_1 : w8.cell? ⟨g13, 1, none⟩ = some (Value.int .u64 m.f1) := (blk_cell H13.out 1).trans rfl; have hcz13_2 : w8.cell? ⟨g13, 2, none⟩ = some (Value.int .u64 m.f2) := (blk_cell H13.out 2).trans rfl; have hcz13_3 : w8.cell? ⟨g13, 3, none⟩ = some (Value.int .u64 m.f3) := (blk_cell H13.out 3).trans rfl; have hcz13_4 : w8.cell? ⟨g13, 4, none⟩ = some (Value.bool m.f4) := (blk_cell H13.out 4).trans rfl; clear hb) | (go_at_call 24; (with_reducible refine (chartroomref13_Grant.calls x.f0 x.f1 x.f2 x.f3 x.f4 a1 a2 a3 m.f0 m.f1 m.f2 m.f3 m.f4 e _ HG2.out).mono ?_); rintro e1 w24 ⟨rfl, hb⟩; clear hcz5_0 hcz5_1 hcz5_2 hcz5_3 hcz5_4; clear hcz13_0 hcz13_1 hcz13_2 hcz13_3 hcz13_4; have HB := Aside0.mk (below_step HB.out hb); have HR := Aside0.mk (below_step HR.out hb); have H5 := Aside0.mk (blk_below H5.out hb); have H13 := Aside0.mk (blk_below H13.out hb); have hcz5_0 : w24.cell? ⟨g5, 0, none⟩ = some (Value.int .u64 x.f0) := (blk_cell H5.out 0).trans rfl; have hcz5_1 : w24.cell? ⟨g5, 1, none⟩ = some (Value.int .u64 x.f1) := (blk_cell H5.out 1).trans rfl; have hcz5_2 : w24.cell? ⟨g5, 2, none⟩ = some (Value.int .u64 x.f2) := (blk_cell H5.out 2).trans rfl; have hcz5_3 : w24.cell? ⟨g5, 3, none⟩ = some (Value.int .u64 x.f3) := (blk_cell H5.out 3).trans rfl; have hcz5_4 : w24.cell? ⟨g5, 4, none⟩ = some (Value.bool x.f4) := (blk_cell H5.out 4).trans rfl; have hcz13_0 : w24.cell? ⟨g13, 0, none⟩ = some (Value.int .u64 m.f0) := (blk_cell H13.out 0).trans rfl; have hcz13_1 : w24.cell? ⟨g13, 1, none⟩ = some (Value.int .u64 m.f1) := (blk_cell H13.out 1).trans rfl; have hcz13_2 : w24.cell? ⟨g13, 2, none⟩ = some (Value.int .u64 m.f2) := (blk_cell H13.out 2).trans rfl; have hcz13_3 : w24.cell? ⟨g13, 3, none⟩ = some (Value.int .u64 m.f3) := (blk_cell H13.out 3).trans rfl; have hcz13_4 : w24.cell? ⟨g13, 4, none⟩ = some (Value.bool m.f4) := (blk_cell H13.out 4).trans rfl; clear hb) | ((with_reducible refine gate_dst (N := 15) rfl ?_); refine box_event ?hg (N := 15) ?hd (cs := #[Value.int .u64 0, .int .u64 0, .int .u64 0, .int .u64 0, .bool false]) (t := 25) ?hr ?_; (case hd => rfl); (case hg => rfl); (case hr => first | (go_simp; done) | (go_simp; rfl)); intro g15 hg w15 hbox hb; have HG15_w := Aside0.mk (show w.heap.size ≤ g15 by rw [hg]; exact below_size HB.out); have HG15_wr := Aside0.mk (show wr.heap.size ≤ g15 by rw [hg]; exact below_size HR.out); have HN15_5 := Aside0.mk (show g5 ≠ g15 by rw [hg]; exact Nat.ne_of_lt (blk_lt H5.out)); have HN15_13 := Aside0.mk (show g13 ≠ g15 by rw [hg]; exact Nat.ne_of_lt (blk_lt H13.out)); clear hg; have H15 := Aside0.mk hbox; clear hbox; clear hcz5_0 hcz5_1 hcz5_2 hcz5_3 hcz5_4; clear hcz13_0 hcz13_1 hcz13_2 hcz13_3 hcz13_4; have HB := Aside0.mk (below_step HB.out hb); have HR := Aside0.mk (below_step HR.out hb); have H5 := Aside0.mk (blk_below H5.out hb); have H13 := Aside0.mk (blk_below H13.out hb); have hcz5_0 : w15.cell? ⟨g5, 0, none⟩ = some (Value.int .u64 x.f0) := (blk_cell H5.out 0).trans rfl; have hcz5_1 : w15.cell? ⟨g5, 1, none⟩ = some (Value.int .u64 x.f1) := (blk_cell H5.out 1).trans rfl; have hcz5_2 : w15.cell? ⟨g5, 2, none⟩ = some (Value.int .u64 x.f2) := (blk_cell H5.out 2).trans rfl; have hcz5_3 : w15.cell? ⟨g5, 3, none⟩ = some (Value.int .u64 x.f3) := (blk_cell H5.out 3).trans rfl; have hcz5_4 : w15.cell? ⟨g5, 4, none⟩ = some (Value.bool x.f4) := (blk_cell H5.out 4).trans rfl; have hcz13_0 : w15.cell? ⟨g13, 0, none⟩ = some (Value.int .u64 m.f0) := (blk_cell H13.out 0).trans rfl; have hcz13_1 : w15.cell? ⟨g13, 1, none⟩ = some (Value.int .u64 m.f1) := (blk_cell H13.out 1).trans rfl; have hcz13_2 : w15.cell? ⟨g13, 2, none⟩ = some (Value.int .u64 m.f2) := (blk_cell H13.out 2).trans rfl; have hcz13_3 : w15.cell? ⟨g13, 3, none⟩ = some (Value.int .u64 m.f3) := (blk_cell H13.out 3).trans rfl; have hcz13_4 : w15.cell? ⟨g13, 4, none⟩ = some (Value.bool m.f4) := (blk_cell H13.out 4).trans rfl; clear hb) | ((with_reducible refine gate_ (.store 25 (.tmp 15) (.tmp 50)) rfl ?_); refine storeN_event (g := g15) (new := #[Value.int .u64 m.f0, Value.int .u64 m.f1, Value.int .u64 m.f2, Value.int .u64 m.f3, Value.bool m.f4]) rfl rfl rfl ?ha ?hx H15.out ?ht rfl ?h1 ?_; (case ha => rfl); (case hx => rfl); (case ht => kernel_rfl); (case h1 => simp [Value.oneCell']); intro W15 hW hfar hbel; clear hcz5_0 hcz5_1 hcz5_2 hcz5_3 hcz5_4; clear hcz13_0 hcz13_1 hcz13_2 hcz13_3 hcz13_4; have HB := Aside0.mk (hbel w HB.out HG15_w.out); have HR := Aside0.mk (hbel wr HR.out HG15_wr.out); have H5 := Aside0.mk ((hfar g5 HN15_5.out).trans H5.out); have H13 := Aside0.mk ((hfar g13 HN15_13.out).trans H13.out); have H15 := Aside0.mk hW; clear hW hfar hbel; have hcz5_0 : W15.cell? ⟨g5, 0, none⟩ = some (Value.int .u64 x.f0) := (blk_cell H5.out 0).trans rfl; have hcz5_1 : W15.cell? ⟨g5, 1, none⟩ = some (Value.int .u64 x.f1) := (blk_cell H5.out 1).trans rfl; have hcz5_2 : W15.cell? ⟨g5, 2, none⟩ = some (Value.int .u64 x.f2) := (blk_cell H5.out 2).trans rfl; have hcz5_3 : W15.cell? ⟨g5, 3, none⟩ = some (Value.int .u64 x.f3) := (blk_cell H5.out 3).trans rfl; have hcz5_4 : W15.cell? ⟨g5, 4, none⟩ = some (Value.bool x.f4) := (blk_cell H5.out 4).trans rfl; have hcz13_0 : W15.cell? ⟨g13, 0, none⟩ = some (Value.int .u64 m.f0) := (blk_cell H13.out 0).trans rfl; have hcz13_1 : W15.cell? ⟨g13, 1, none⟩ = some (Value.int .u64 m.f1) := (blk_cell H13.out 1).trans rfl; have hcz13_2 : W15.cell? ⟨g13, 2, none⟩ = some (Value.int .u64 m.f2) := (blk_cell H13.out 2).trans rfl; have hcz13_3 : W15.cell? ⟨g13, 3, none⟩ = some (Value.int .u64 m.f3) := (blk_cell H13.out 3).trans rfl; have hcz13_4 : W15.cell? ⟨g13, 4, none⟩ = some (Value.bool m.f4) := (blk_cell H13.out 4).trans rfl; have hcz15_0 : W15.cell? ⟨g15, 0, none⟩ = some (Value.int .u64 m.f0) := (blk_cell H15.out 0).trans rfl; have hcz15_1 : W15.cell? ⟨g15, 1, none⟩ = some (Value.int .u64 m.f1) := (blk_cell H15.out 1).trans rfl; have hcz15_2 : W15.cell? ⟨g15, 2, none⟩ = some (Value.int .u64 m.f2) := (blk_cell H15.out 2).trans rfl; have hcz15_3 : W15.cell? ⟨g15, 3, none⟩ = some (Value.int .u64 m.f3) := (blk_cell H15.out 3).trans rfl; have hcz15_4 : W15.cell? ⟨g15, 4, none⟩ = some (Value.bool m.f4) := (blk_cell H15.out 4).trans rfl))
      obtain ⟨wq, rfl⟩ : ∃ z_ : World, z_ = W15 := ⟨_, rfl⟩
      have HLC := Aside0.mk (Kd.C_below HC.out HB.out)
      have HRB := Aside0.mk (Kd.C_below HRB1.out HR.out)
      refine Reg.region (fr := (fun x_ : Nat → Value => (⟨#[Value.agg #[Value.int .u64 x.f0, Value.int .u64 x.f1, Value.int .u64 x.f2, Value.int .u64 x.f3, Value.bool x.f4], Value.int .u64 a1, Value.int .u64 a2, Value.int .u64 a3, Value.slice A l.length cap, Value.pointer (some ⟨g5, 0, none⟩), undef, undef, undef, undef, x_ 10, Value.slice B l.length cap2, Value.int .i64 (l.length : Int), Value.pointer (some ⟨g13, 0, none⟩), Value.int .i64 e, Value.pointer (some ⟨g15, 0, none⟩), Value.int .i64 e, Value.slice A l.length cap, Value.int .i64 (l.length : Int), Value.bool false, undef, Value.int .i64 (l.length : Int), Value.slice A l.length cap, Value.int .i64 (l.length : Int), Value.bool false, u25, u26, u27, u28, u29, u30, u31, u32, u33, u34, Value.tuple #[Value.agg #[Value.int .u64 m.f0, Value.int .u64 m.f1, Value.int .u64 m.f2, Value.int .u64 m.f3, Value.bool m.f4], Value.int .i64 e], Value.agg #[Value.int .u64 x.f0, Value.int .u64 x.f1, Value.int .u64 x.f2, Value.int .u64 x.f3, Value.bool x.f4], Value.int .u64 a1, Value.int .u64 a2, Value.int .u64 a3, Value.tuple #[Value.agg #[Value.int .u64 m.f0, Value.int .u64 m.f1, Value.int .u64 m.f2, Value.int .u64 m.f3, Value.bool m.f4], Value.int .i64 e], Value.agg #[Value.int .u64 m.f0, Value.int .u64 m.f1, Value.int .u64 m.f2, Value.int .u64 m.f3, Value.bool m.f4], Value.int .i64 e, Value.tuple #[Value.agg #[Value.int .u64 m.f0, Value.int .u64 m.f1, Value.int .u64 m.f2, Value.int .u64 m.f3, Value.bool m.f4], Value.int .i64 e], Value.agg #[Value.int .u64 x.f0, Value.int .u64 x.f1, Value.int .u64 x.f2, Value.int .u64 x.f3, Value.bool x.f4], Value.agg #[Value.int .u64 x.f0, Value.int .u64 x.f1, Value.int .u64 x.f2, Value.int .u64 x.f3, Value.bool x.f4], Value.int .u64 a1, Value.int .u64 a2, Value.int .u64 a3, Value.tuple #[Value.agg #[Value.int .u64 m.f0, Value.int .u64 m.f1, Value.int .u64 m.f2, Value.int .u64 m.f3, Value.bool m.f4], Value.int .i64 e], Value.agg #[Value.int .u64 m.f0, Value.int .u64 m.f1, Value.int .u64 m.f2, Value.int .u64 m.f3, Value.bool m.f4], Value.int .i64 e, x_ 52, x_ 53, x_ 54, x_ 55, x_ 56, x_ 57, x_ 58, x_ 59, x_ 60, x_ 61, x_ 62, x_ 63, x_ 64, x_ 65, x_ 66, x_ 67, x_ 68, x_ 69, x_ 70, x_ 71, x_ 72, x_ 73, x_ 74, x_ 75, x_ 76, x_ 77, x_ 78, x_ 79, x_ 80, x_ 81, x_ 82, x_ 83, x_ 84, x_ 85, x_ 86, x_ 87, x_ 88, x_ 89, x_ 90, x_ 91], []⟩ : Act))) (dst := ChgDst) (fun w' => Below wq.heap.size wq w') (fun i v _ => ChgFact x m z A B l cap cap2 a1 a2 a3 e g5 g13 g15 i v) (fun s_ => if s_ = 10 then Value.bool false else undef) rfl (by kernel_rfl) (by kernel_rfl) ?inj ?stable ?inv ?step ?fin
      case inj => exact fun i j hi hj h => ChgDst_inj i j hi hj h
      case stable => exact fun _ _ _ _ _ h => h
      case inv => exact below_drew1 (Below.refl _ _)
      case fin =>
        intro x_ w' hG hF
        have hz : x_ 10 = Value.bool true := hF 40 (by decide)
        have HW := Aside0.mk (show Below wq.heap.size wq w' from hG)
        dsimp only []
        rw [hz]
        go_wp2
        go_ret
        exact ⟨rfl, below_step HB.out HW.out⟩
      case step =>
        intro i_ hi
        have hi2 : i_ < 41 := hi
        have hi3 : i_ = 0 ∨ i_ = 1 ∨ i_ = 2 ∨ i_ = 3 ∨ i_ = 4 ∨ i_ = 5 ∨ i_ = 6 ∨ i_ = 7 ∨ i_ = 8 ∨ i_ = 9 ∨ i_ = 10 ∨ i_ = 11 ∨ i_ = 12 ∨ i_ = 13 ∨ i_ = 14 ∨ i_ = 15 ∨ i_ = 16 ∨ i_ = 17 ∨ i_ = 18 ∨ i_ = 19 ∨ i_ = 20 ∨ i_ = 21 ∨ i_ = 22 ∨ i_ = 23 ∨ i_ = 24 ∨ i_ = 25 ∨ i_ = 26 ∨ i_ = 27 ∨ i_ = 28 ∨ i_ = 29 ∨ i_ = 30 ∨ i_ = 31 ∨ i_ = 32 ∨ i_ = 33 ∨ i_ = 34 ∨ i_ = 35 ∨ i_ = 36 ∨ i_ = 37 ∨ i_ = 38 ∨ i_ = 39 ∨ i_ = 40 := by omega
        clear hi hi2
        rcases hi3 with rfl | rfl | rfl | rfl | rfl | rfl | rfl | rfl | rfl | rfl | rfl | rfl | rfl | rfl | rfl | rfl | rfl | rfl | rfl | rfl | rfl | rfl | rfl | rfl | rfl | rfl | rfl | rfl | rfl | rfl | rfl | rfl | rfl | rfl | rfl | rfl | rfl | rfl | rfl | rfl | rfl
        · intro o ho x_ w' hG hd
          injection ho with ho
          subst ho
          have hW : Below wq.heap.size wq w' := hG
          have hB_ := blk_below H13.out hW
          have hcz0 : w'.cell? ⟨g13, 0, none⟩ = some (Value.int .u64 m.f0) := (blk_cell hB_ 0).trans rfl
          have hcz1 : w'.cell? ⟨g13, 1, none⟩ = some (Value.int .u64 m.f1) := (blk_cell hB_ 1).trans rfl
          have hcz2 : w'.cell? ⟨g13, 2, none⟩ = some (Value.int .u64 m.f2) := (blk_cell hB_ 2).trans rfl
          have hcz3 : w'.cell? ⟨g13, 3, none⟩ = some (Value.int .u64 m.f3) := (blk_cell hB_ 3).trans rfl
          have hcz4 : w'.cell? ⟨g13, 4, none⟩ = some (Value.bool m.f4) := (blk_cell hB_ 4).trans rfl
          clear hB_
          dsimp only []
          go_wp2
          exact ⟨_, (by simp [Reg.upd, ChgDst]), hW, Below.refl _ _, rfl⟩
        · intro o ho x_ w' hG hd
          injection ho with ho
          subst ho
          have hW : Below wq.heap.size wq w' := hG
          have h0 : x_ 52 = Value.agg #[Value.int .u64 m.f0, Value.int .u64 m.f1, Value.int .u64 m.f2, Value.int .u64 m.f3, Value.bool m.f4] := hd 0 rfl
          dsimp only []
          go_wp2_with (go_at_call 8; (with_reducible refine (chartroomlaw13_ref.calls m.f0 m.f1 m.f2 m.f3 m.f4 m.f0 m.f1 m.f2 m.f3 m.f4 _ rfl).mono ?_); rintro e1 w1 ⟨rfl, hb⟩)
          exact ⟨_, (by simp [Reg.upd, ChgDst, h0]), below_step hW hb, hb, rfl⟩
        · intro o ho x_ w' hG hd
          injection ho with ho
          subst ho
          have hW : Below wq.heap.size wq w' := hG
          have hB_ := blk_below H15.out hW
          have hcz0 : w'.cell? ⟨g15, 0, none⟩ = some (Value.int .u64 m.f0) := (blk_cell hB_ 0).trans rfl
          have hcz1 : w'.cell? ⟨g15, 1, none⟩ = some (Value.int .u64 m.f1) := (blk_cell hB_ 1).trans rfl
          have hcz2 : w'.cell? ⟨g15, 2, none⟩ = some (Value.int .u64 m.f2) := (blk_cell hB_ 2).trans rfl
          have hcz3 : w'.cell? ⟨g15, 3, none⟩ = some (Value.int .u64 m.f3) := (blk_cell hB_ 3).trans rfl
          have hcz4 : w'.cell? ⟨g15, 4, none⟩ = some (Value.bool m.f4) := (blk_cell hB_ 4).trans rfl
          clear hB_
          dsimp only []
          go_wp2
          exact ⟨_, (by simp [Reg.upd, ChgDst]), hW, Below.refl _ _, rfl⟩
        · intro o ho x_ w' hG hd
          injection ho with ho
          subst ho
          have hW : Below wq.heap.size wq w' := hG
          have h1 : x_ 53 = Value.agg #[Value.int .u64 m.f0, Value.int .u64 m.f1, Value.int .u64 m.f2, Value.int .u64 m.f3, Value.bool m.f4] := hd 1 rfl
          have h2 : x_ 54 = Value.agg #[Value.int .u64 m.f0, Value.int .u64 m.f1, Value.int .u64 m.f2, Value.int .u64 m.f3, Value.bool m.f4] := hd 2 rfl
          dsimp only []
          go_wp2
          exact ⟨Value.bool true, (by simp [Reg.upd, ChgDst, h1, h2]), hW, Below.refl _ _, rfl⟩
        · intro o ho x_ w' hG hd
          injection ho with ho
          subst ho
          have hW : Below wq.heap.size wq w' := hG
          have h3 : x_ 55 = Value.bool true := hd 3 rfl
          dsimp only []
          go_wp2
          exact ⟨Value.bool true, (by simp [Reg.upd, ChgDst, h3]), hW, Below.refl _ _, rfl⟩
        · intro o ho x_ w' hG hd
          injection ho with ho
          subst ho
          have hW : Below wq.heap.size wq w' := hG
          have h4 : x_ 56 = Value.bool true := hd 4 rfl
          dsimp only []
          go_wp2
          exact ⟨Value.int .i64 e, (by simp [Reg.upd, ChgDst, h4]), hW, Below.refl _ _, rfl⟩
        · intro o ho x_ w' hG hd
          injection ho with ho
          subst ho
          have hW : Below wq.heap.size wq w' := hG
          have h4 : x_ 56 = Value.bool true := hd 4 rfl
          dsimp only []
          go_wp2
          exact ⟨Value.int .i64 e, (by simp [Reg.upd, ChgDst, h4]), hW, Below.refl _ _, rfl⟩
        · intro o ho x_ w' hG hd
          injection ho with ho
          subst ho
          have hW : Below wq.heap.size wq w' := hG
          have h4 : x_ 56 = Value.bool true := hd 4 rfl
          have h5 : x_ 57 = Value.int .i64 e := hd 5 rfl
          have h6 : x_ 58 = Value.int .i64 e := hd 6 rfl
          dsimp only []
          go_wp2
          exact ⟨Value.bool true, (by simp [Reg.upd, ChgDst, h4, h5, h6]), hW, Below.refl _ _, rfl⟩
        · intro o ho x_ w' hG hd
          injection ho with ho
          subst ho
          have hW : Below wq.heap.size wq w' := hG
          have h4 : x_ 56 = Value.bool true := hd 4 rfl
          have h7 : x_ 59 = Value.bool true := hd 7 rfl
          dsimp only []
          go_wp2
          exact ⟨Value.bool true, (by simp [Reg.upd, ChgDst, h4, h7]), hW, Below.refl _ _, rfl⟩
        · intro o ho x_ w' hG hd
          injection ho with ho
          subst ho
          have hW : Below wq.heap.size wq w' := hG
          have h8 : x_ 60 = Value.bool true := hd 8 rfl
          dsimp only []
          go_wp2
          exact ⟨Value.bool true, (by simp [Reg.upd, ChgDst, h8]), hW, Below.refl _ _, rfl⟩
        · intro o ho x_ w' hG hd
          injection ho with ho
          subst ho
          have hW : Below wq.heap.size wq w' := hG
          have h9 : x_ 61 = Value.bool true := hd 9 rfl
          have hB_ := blk_below H5.out hW
          have hcz0 : w'.cell? ⟨g5, 0, none⟩ = some (Value.int .u64 x.f0) := (blk_cell hB_ 0).trans rfl
          have hcz1 : w'.cell? ⟨g5, 1, none⟩ = some (Value.int .u64 x.f1) := (blk_cell hB_ 1).trans rfl
          have hcz2 : w'.cell? ⟨g5, 2, none⟩ = some (Value.int .u64 x.f2) := (blk_cell hB_ 2).trans rfl
          have hcz3 : w'.cell? ⟨g5, 3, none⟩ = some (Value.int .u64 x.f3) := (blk_cell hB_ 3).trans rfl
          have hcz4 : w'.cell? ⟨g5, 4, none⟩ = some (Value.bool x.f4) := (blk_cell hB_ 4).trans rfl
          clear hB_
          dsimp only []
          go_wp2
          exact ⟨_, (by simp [Reg.upd, ChgDst, h9]), hW, Below.refl _ _, rfl⟩
        · intro o ho x_ w' hG hd
          injection ho with ho
          subst ho
          have hW : Below wq.heap.size wq w' := hG
          have h9 : x_ 61 = Value.bool true := hd 9 rfl
          dsimp only []
          go_wp2
          exact ⟨Value.int .u64 a3, (by simp [Reg.upd, ChgDst, h9]), hW, Below.refl _ _, rfl⟩
        · intro o ho x_ w' hG hd
          injection ho with ho
          subst ho
          have hW : Below wq.heap.size wq w' := hG
          have h9 : x_ 61 = Value.bool true := hd 9 rfl
          have h10 : x_ 62 = Value.agg #[Value.int .u64 x.f0, Value.int .u64 x.f1, Value.int .u64 x.f2, Value.int .u64 x.f3, Value.bool x.f4] := hd 10 rfl
          have h11 : x_ 63 = Value.int .u64 a3 := hd 11 rfl
          dsimp only []
          go_wp2_with (go_at_call 22; (with_reducible refine (lease_Lease_Renew.calls x.f0 x.f1 x.f2 x.f3 x.f4 a3 x.f0 x.f1 x.f2 (mx x.f3 a3) x.f4 _ rfl).mono ?_); rintro e1 w1 ⟨rfl, hb⟩)
          exact ⟨_, (by simp [Reg.upd, ChgDst, h9, h10, h11]), below_step hW hb, hb, rfl⟩
        · intro o ho x_ w' hG hd
          injection ho with ho
          subst ho
          have hW : Below wq.heap.size wq w' := hG
          have h9 : x_ 61 = Value.bool true := hd 9 rfl
          have h12 : x_ 64 = Value.agg #[Value.int .u64 x.f0, Value.int .u64 x.f1, Value.int .u64 x.f2, Value.int .u64 (mx x.f3 a3), Value.bool x.f4] := hd 12 rfl
          dsimp only []
          go_wp2_with (go_at_call 8; (with_reducible refine (chartroomlaw13_ref.calls x.f0 x.f1 x.f2 (mx x.f3 a3) x.f4 x.f0 x.f1 x.f2 (mx x.f3 a3) x.f4 _ rfl).mono ?_); rintro e1 w1 ⟨rfl, hb⟩)
          exact ⟨_, (by simp [Reg.upd, ChgDst, h9, h12]), below_step hW hb, hb, rfl⟩
        · intro o ho x_ w' hG hd
          injection ho with ho
          subst ho
          have hW : Below wq.heap.size wq w' := hG
          have h9 : x_ 61 = Value.bool true := hd 9 rfl
          have hB_ := blk_below H5.out hW
          have hcz0 : w'.cell? ⟨g5, 0, none⟩ = some (Value.int .u64 x.f0) := (blk_cell hB_ 0).trans rfl
          have hcz1 : w'.cell? ⟨g5, 1, none⟩ = some (Value.int .u64 x.f1) := (blk_cell hB_ 1).trans rfl
          have hcz2 : w'.cell? ⟨g5, 2, none⟩ = some (Value.int .u64 x.f2) := (blk_cell hB_ 2).trans rfl
          have hcz3 : w'.cell? ⟨g5, 3, none⟩ = some (Value.int .u64 x.f3) := (blk_cell hB_ 3).trans rfl
          have hcz4 : w'.cell? ⟨g5, 4, none⟩ = some (Value.bool x.f4) := (blk_cell hB_ 4).trans rfl
          clear hB_
          dsimp only []
          go_wp2
          exact ⟨_, (by simp [Reg.upd, ChgDst, h9]), hW, Below.refl _ _, rfl⟩
        · intro o ho x_ w' hG hd
          injection ho with ho
          subst ho
          have hW : Below wq.heap.size wq w' := hG
          have h9 : x_ 61 = Value.bool true := hd 9 rfl
          have h14 : x_ 66 = Value.agg #[Value.int .u64 x.f0, Value.int .u64 x.f1, Value.int .u64 x.f2, Value.int .u64 x.f3, Value.bool x.f4] := hd 14 rfl
          dsimp only []
          go_wp2_with (go_at_call 8; (with_reducible refine (chartroomlaw13_ref.calls x.f0 x.f1 x.f2 x.f3 x.f4 x.f0 x.f1 x.f2 x.f3 x.f4 _ rfl).mono ?_); rintro e1 w1 ⟨rfl, hb⟩)
          exact ⟨_, (by simp [Reg.upd, ChgDst, h9, h14]), below_step hW hb, hb, rfl⟩
        · intro o ho x_ w' hG hd
          injection ho with ho
          subst ho
          have hW : Below wq.heap.size wq w' := hG
          have h9 : x_ 61 = Value.bool true := hd 9 rfl
          dsimp only []
          go_wp2
          exact ⟨Value.int .u64 a3, (by simp [Reg.upd, ChgDst, h9]), hW, Below.refl _ _, rfl⟩
        · intro o ho x_ w' hG hd
          injection ho with ho
          subst ho
          have hW : Below wq.heap.size wq w' := hG
          have h9 : x_ 61 = Value.bool true := hd 9 rfl
          have h15 : x_ 67 = Value.agg #[Value.int .u64 x.f0, Value.int .u64 x.f1, Value.int .u64 x.f2, Value.int .u64 x.f3, Value.bool x.f4] := hd 15 rfl
          have h16 : x_ 68 = Value.int .u64 a3 := hd 16 rfl
          dsimp only []
          go_wp2_with (go_at_call 25; (with_reducible refine (chartroomref13_Renew.calls x.f0 x.f1 x.f2 x.f3 x.f4 a3 x.f0 x.f1 x.f2 (mx x.f3 a3) x.f4 _ hRR.out).mono ?_); rintro e1 w1 ⟨rfl, hb⟩)
          exact ⟨_, (by simp [Reg.upd, ChgDst, h9, h15, h16]), below_step hW hb, hb, rfl⟩
        · intro o ho x_ w' hG hd
          injection ho with ho
          subst ho
          have hW : Below wq.heap.size wq w' := hG
          have h9 : x_ 61 = Value.bool true := hd 9 rfl
          have h13 : x_ 65 = Value.agg #[Value.int .u64 x.f0, Value.int .u64 x.f1, Value.int .u64 x.f2, Value.int .u64 (mx x.f3 a3), Value.bool x.f4] := hd 13 rfl
          have h17 : x_ 69 = Value.agg #[Value.int .u64 x.f0, Value.int .u64 x.f1, Value.int .u64 x.f2, Value.int .u64 (mx x.f3 a3), Value.bool x.f4] := hd 17 rfl
          dsimp only []
          go_wp2
          exact ⟨Value.bool true, (by simp [Reg.upd, ChgDst, h9, h13, h17]), hW, Below.refl _ _, rfl⟩
        · intro o ho x_ w' hG hd
          injection ho with ho
          subst ho
          have hW : Below wq.heap.size wq w' := hG
          have h9 : x_ 61 = Value.bool true := hd 9 rfl
          have h18 : x_ 70 = Value.bool true := hd 18 rfl
          dsimp only []
          go_wp2
          exact ⟨Value.bool true, (by simp [Reg.upd, ChgDst, h9, h18]), hW, Below.refl _ _, rfl⟩
        · intro o ho x_ w' hG hd
          injection ho with ho
          subst ho
          have hW : Below wq.heap.size wq w' := hG
          have h19 : x_ 71 = Value.bool true := hd 19 rfl
          dsimp only []
          go_wp2
          exact ⟨Value.bool true, (by simp [Reg.upd, ChgDst, h19]), hW, Below.refl _ _, rfl⟩
        · intro o ho x_ w' hG hd
          injection ho with ho
          subst ho
          have hW : Below wq.heap.size wq w' := hG
          have h20 : x_ 72 = Value.bool true := hd 20 rfl
          have hB_ := blk_below H5.out hW
          have hcz0 : w'.cell? ⟨g5, 0, none⟩ = some (Value.int .u64 x.f0) := (blk_cell hB_ 0).trans rfl
          have hcz1 : w'.cell? ⟨g5, 1, none⟩ = some (Value.int .u64 x.f1) := (blk_cell hB_ 1).trans rfl
          have hcz2 : w'.cell? ⟨g5, 2, none⟩ = some (Value.int .u64 x.f2) := (blk_cell hB_ 2).trans rfl
          have hcz3 : w'.cell? ⟨g5, 3, none⟩ = some (Value.int .u64 x.f3) := (blk_cell hB_ 3).trans rfl
          have hcz4 : w'.cell? ⟨g5, 4, none⟩ = some (Value.bool x.f4) := (blk_cell hB_ 4).trans rfl
          clear hB_
          dsimp only []
          go_wp2
          exact ⟨_, (by simp [Reg.upd, ChgDst, h20]), hW, Below.refl _ _, rfl⟩
        · intro o ho x_ w' hG hd
          injection ho with ho
          subst ho
          have hW : Below wq.heap.size wq w' := hG
          have h20 : x_ 72 = Value.bool true := hd 20 rfl
          have h21 : x_ 73 = Value.agg #[Value.int .u64 x.f0, Value.int .u64 x.f1, Value.int .u64 x.f2, Value.int .u64 x.f3, Value.bool x.f4] := hd 21 rfl
          dsimp only []
          go_wp2_with (go_at_call 23; (with_reducible refine (lease_Lease_Release.calls x.f0 x.f1 x.f2 x.f3 x.f4 x.f0 x.f1 x.f2 x.f3 false _ rfl).mono ?_); rintro e1 w1 ⟨rfl, hb⟩)
          exact ⟨_, (by simp [Reg.upd, ChgDst, h20, h21]), below_step hW hb, hb, rfl⟩
        · intro o ho x_ w' hG hd
          injection ho with ho
          subst ho
          have hW : Below wq.heap.size wq w' := hG
          have h20 : x_ 72 = Value.bool true := hd 20 rfl
          have h22 : x_ 74 = Value.agg #[Value.int .u64 x.f0, Value.int .u64 x.f1, Value.int .u64 x.f2, Value.int .u64 x.f3, Value.bool false] := hd 22 rfl
          dsimp only []
          go_wp2_with (go_at_call 8; (with_reducible refine (chartroomlaw13_ref.calls x.f0 x.f1 x.f2 x.f3 false x.f0 x.f1 x.f2 x.f3 false _ rfl).mono ?_); rintro e1 w1 ⟨rfl, hb⟩)
          exact ⟨_, (by simp [Reg.upd, ChgDst, h20, h22]), below_step hW hb, hb, rfl⟩
        · intro o ho x_ w' hG hd
          injection ho with ho
          subst ho
          have hW : Below wq.heap.size wq w' := hG
          have h20 : x_ 72 = Value.bool true := hd 20 rfl
          have hB_ := blk_below H5.out hW
          have hcz0 : w'.cell? ⟨g5, 0, none⟩ = some (Value.int .u64 x.f0) := (blk_cell hB_ 0).trans rfl
          have hcz1 : w'.cell? ⟨g5, 1, none⟩ = some (Value.int .u64 x.f1) := (blk_cell hB_ 1).trans rfl
          have hcz2 : w'.cell? ⟨g5, 2, none⟩ = some (Value.int .u64 x.f2) := (blk_cell hB_ 2).trans rfl
          have hcz3 : w'.cell? ⟨g5, 3, none⟩ = some (Value.int .u64 x.f3) := (blk_cell hB_ 3).trans rfl
          have hcz4 : w'.cell? ⟨g5, 4, none⟩ = some (Value.bool x.f4) := (blk_cell hB_ 4).trans rfl
          clear hB_
          dsimp only []
          go_wp2
          exact ⟨_, (by simp [Reg.upd, ChgDst, h20]), hW, Below.refl _ _, rfl⟩
        · intro o ho x_ w' hG hd
          injection ho with ho
          subst ho
          have hW : Below wq.heap.size wq w' := hG
          have h20 : x_ 72 = Value.bool true := hd 20 rfl
          have h24 : x_ 76 = Value.agg #[Value.int .u64 x.f0, Value.int .u64 x.f1, Value.int .u64 x.f2, Value.int .u64 x.f3, Value.bool x.f4] := hd 24 rfl
          dsimp only []
          go_wp2_with (go_at_call 8; (with_reducible refine (chartroomlaw13_ref.calls x.f0 x.f1 x.f2 x.f3 x.f4 x.f0 x.f1 x.f2 x.f3 x.f4 _ rfl).mono ?_); rintro e1 w1 ⟨rfl, hb⟩)
          exact ⟨_, (by simp [Reg.upd, ChgDst, h20, h24]), below_step hW hb, hb, rfl⟩
        · intro o ho x_ w' hG hd
          injection ho with ho
          subst ho
          have hW : Below wq.heap.size wq w' := hG
          have h20 : x_ 72 = Value.bool true := hd 20 rfl
          have h25 : x_ 77 = Value.agg #[Value.int .u64 x.f0, Value.int .u64 x.f1, Value.int .u64 x.f2, Value.int .u64 x.f3, Value.bool x.f4] := hd 25 rfl
          dsimp only []
          go_wp2_with (go_at_call 26; (with_reducible refine (chartroomref13_Release.calls x.f0 x.f1 x.f2 x.f3 x.f4 x.f0 x.f1 x.f2 x.f3 false _ rfl).mono ?_); rintro e1 w1 ⟨rfl, hb⟩)
          exact ⟨_, (by simp [Reg.upd, ChgDst, h20, h25]), below_step hW hb, hb, rfl⟩
        · intro o ho x_ w' hG hd
          injection ho with ho
          subst ho
          have hW : Below wq.heap.size wq w' := hG
          have h20 : x_ 72 = Value.bool true := hd 20 rfl
          have h23 : x_ 75 = Value.agg #[Value.int .u64 x.f0, Value.int .u64 x.f1, Value.int .u64 x.f2, Value.int .u64 x.f3, Value.bool false] := hd 23 rfl
          have h26 : x_ 78 = Value.agg #[Value.int .u64 x.f0, Value.int .u64 x.f1, Value.int .u64 x.f2, Value.int .u64 x.f3, Value.bool false] := hd 26 rfl
          dsimp only []
          go_wp2
          exact ⟨Value.bool true, (by simp [Reg.upd, ChgDst, h20, h23, h26]), hW, Below.refl _ _, rfl⟩
        · intro o ho x_ w' hG hd
          injection ho with ho
          subst ho
          have hW : Below wq.heap.size wq w' := hG
          have h20 : x_ 72 = Value.bool true := hd 20 rfl
          have h27 : x_ 79 = Value.bool true := hd 27 rfl
          dsimp only []
          go_wp2
          exact ⟨Value.bool true, (by simp [Reg.upd, ChgDst, h20, h27]), hW, Below.refl _ _, rfl⟩
        · intro o ho x_ w' hG hd
          injection ho with ho
          subst ho
          have hW : Below wq.heap.size wq w' := hG
          have h28 : x_ 80 = Value.bool true := hd 28 rfl
          dsimp only []
          go_wp2
          exact ⟨Value.bool true, (by simp [Reg.upd, ChgDst, h28]), hW, Below.refl _ _, rfl⟩
        · intro o ho x_ w' hG hd
          injection ho with ho
          subst ho
          have hW : Below wq.heap.size wq w' := hG
          have h29 : x_ 81 = Value.bool true := hd 29 rfl
          dsimp only []
          go_wp2
          exact ⟨Value.slice A l.length cap, (by simp [Reg.upd, ChgDst, h29]), hW, Below.refl _ _, rfl⟩
        · intro o ho x_ w' hG hd
          injection ho with ho
          subst ho
          have hW : Below wq.heap.size wq w' := hG
          have h29 : x_ 81 = Value.bool true := hd 29 rfl
          have h30 : x_ 82 = Value.slice A l.length cap := hd 30 rfl
          dsimp only []
          go_wp2_with (go_at_call 27; (with_reducible refine (last_of_below A l cap z wq w' HLC.out hW HCAP.out HMAX.out HZ.out).mono ?_); rintro e1 w1 ⟨rfl, hb⟩)
          exact ⟨_, (by simp [Reg.upd, ChgDst, h29, h30]), below_step hW hb, hb, rfl⟩
        · intro o ho x_ w' hG hd
          injection ho with ho
          subst ho
          have hW : Below wq.heap.size wq w' := hG
          have h29 : x_ 81 = Value.bool true := hd 29 rfl
          have h31 : x_ 83 = Value.agg #[Value.int .u64 z.f0, Value.int .u64 z.f1, Value.int .u64 z.f2, Value.int .u64 z.f3, Value.bool z.f4] := hd 31 rfl
          dsimp only []
          go_wp2_with (go_at_call 8; (with_reducible refine (chartroomlaw13_ref.calls z.f0 z.f1 z.f2 z.f3 z.f4 z.f0 z.f1 z.f2 z.f3 z.f4 _ rfl).mono ?_); rintro e1 w1 ⟨rfl, hb⟩)
          exact ⟨_, (by simp [Reg.upd, ChgDst, h29, h31]), below_step hW hb, hb, rfl⟩
        · intro o ho x_ w' hG hd
          injection ho with ho
          subst ho
          have hW : Below wq.heap.size wq w' := hG
          have h29 : x_ 81 = Value.bool true := hd 29 rfl
          dsimp only []
          go_wp2
          exact ⟨Value.slice B l.length cap2, (by simp [Reg.upd, ChgDst, h29]), hW, Below.refl _ _, rfl⟩
        · intro o ho x_ w' hG hd
          injection ho with ho
          subst ho
          have hW : Below wq.heap.size wq w' := hG
          have h29 : x_ 81 = Value.bool true := hd 29 rfl
          have h33 : x_ 85 = Value.slice B l.length cap2 := hd 33 rfl
          dsimp only []
          go_wp2_with (go_at_call 28; (with_reducible refine (refLast_of_below B l cap2 z wq w' HRB.out hW HC2.out HMAX.out HZ.out).mono ?_); rintro e1 w1 ⟨rfl, hb⟩)
          exact ⟨_, (by simp [Reg.upd, ChgDst, h29, h33]), below_step hW hb, hb, rfl⟩
        · intro o ho x_ w' hG hd
          injection ho with ho
          subst ho
          have hW : Below wq.heap.size wq w' := hG
          have h29 : x_ 81 = Value.bool true := hd 29 rfl
          have h32 : x_ 84 = Value.agg #[Value.int .u64 z.f0, Value.int .u64 z.f1, Value.int .u64 z.f2, Value.int .u64 z.f3, Value.bool z.f4] := hd 32 rfl
          have h34 : x_ 86 = Value.agg #[Value.int .u64 z.f0, Value.int .u64 z.f1, Value.int .u64 z.f2, Value.int .u64 z.f3, Value.bool z.f4] := hd 34 rfl
          dsimp only []
          go_wp2
          exact ⟨Value.bool true, (by simp [Reg.upd, ChgDst, h29, h32, h34]), hW, Below.refl _ _, rfl⟩
        · intro o ho x_ w' hG hd
          injection ho with ho
          subst ho
          have hW : Below wq.heap.size wq w' := hG
          have h29 : x_ 81 = Value.bool true := hd 29 rfl
          have h35 : x_ 87 = Value.bool true := hd 35 rfl
          dsimp only []
          go_wp2
          exact ⟨Value.bool true, (by simp [Reg.upd, ChgDst, h29, h35]), hW, Below.refl _ _, rfl⟩
        · intro o ho x_ w' hG hd
          injection ho with ho
          subst ho
          have hW : Below wq.heap.size wq w' := hG
          have h36 : x_ 88 = Value.bool true := hd 36 rfl
          dsimp only []
          go_wp2
          exact ⟨Value.bool true, (by simp [Reg.upd, ChgDst, h36]), hW, Below.refl _ _, rfl⟩
        · intro o ho x_ w' hG hd
          injection ho with ho
          subst ho
          have hW : Below wq.heap.size wq w' := hG
          have h37 : x_ 89 = Value.bool true := hd 37 rfl
          dsimp only []
          go_wp2_with (go_at_call 19; (with_reducible refine (chartroomlaw13_works.calls  true _ rfl).mono ?_); rintro e1 w1 ⟨rfl, hb⟩)
          exact ⟨_, (by simp [Reg.upd, ChgDst, h37]), below_step hW hb, hb, rfl⟩
        · intro o ho x_ w' hG hd
          injection ho with ho
          subst ho
          have hW : Below wq.heap.size wq w' := hG
          have h37 : x_ 89 = Value.bool true := hd 37 rfl
          have h38 : x_ 90 = Value.bool true := hd 38 rfl
          dsimp only []
          go_wp2
          exact ⟨Value.bool true, (by simp [Reg.upd, ChgDst, h37, h38]), hW, Below.refl _ _, rfl⟩
        · intro o ho x_ w' hG hd
          injection ho with ho
          subst ho
          have hW : Below wq.heap.size wq w' := hG
          have h39 : x_ 91 = Value.bool true := hd 39 rfl
          dsimp only []
          go_wp2
          exact ⟨Value.bool true, (by simp [Reg.upd, ChgDst, h39]), hW, Below.refl _ _, rfl⟩

theorem changes_row (x : S24) (A : Option Addr) (l : List S24) (cap : Nat) (a1 a2 a3 : Int) (w : World) (hx : Fits x) (hC : Kd.C k24 w A l.length l) (hcap : l.length ≤ cap) :
    Calls Try.prog 6 #[.agg #[.int .u64 x.f0, .int .u64 x.f1, .int .u64 x.f2, .int .u64 x.f3, .bool x.f4], .int .u64 a1, .int .u64 a2, .int .u64 a3, .slice A l.length cap] w fun e w' => e = .returned (.bool true) ∧ Below w.heap.size w w' :=
  changes_walk x A l cap a1 a2 a3 w hx hC hcap
end Go.Proofs.Ythjdldiekpidkaa
