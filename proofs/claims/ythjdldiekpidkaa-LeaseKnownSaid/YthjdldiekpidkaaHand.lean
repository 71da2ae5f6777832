/- lease: the functions that the print leaves out (Over, Until, Last), by hand. -/
import Derived.Test.YthjdldiekpidkaaPlx0
import Derived.Laws.Externs
namespace Go.Proofs.Ythjdldiekpidkaa
open Go.RowKit Go.Proofs.YthjdldiekpidkaaW.PrintWords Go.Proofs.YthjdldiekpidkaaW.PrintLast Go.Proofs.YthjdldiekpidkaaW.PrintMore
open Pl
attribute [local go_sem] max2_int min2_int max_two min_two max_three min_three max_four min_four
set_option linter.unusedVariables false
set_option linter.unusedSimpArgs false

theorem storeN_event {P : Program} {ops : Array Oper} {rest : List Oper} {o : Oper} {a : Act} {Q : Exit → Act → World → Prop} {W : World} {g t : Nat} {cs new : Array Value}
    (hgd : o.guard = none) (hN : o.dst = none) {p x : Operand} (ho : o.op = .store t p x) (haddr : a.eval p = .pointer (some ⟨g, 0, none⟩)) (hx : a.eval x = .agg new) (hh : W.heap[g]? = some (.cells cs t (0, 0)))
    (ht : (P.info? t).map (·.size) = some new.toList.length) (hcs : cs.size = new.toList.length) (h1 : ∀ q ∈ new.toList, q.oneCell' = true)
    (h : ∀ W1 : World, W1.heap[g]? = some (.cells new t (0, 0)) → (∀ k, k ≠ g → W1.heap[k]? = W.heap[k]?) → (∀ w0 : World, Below w0.heap.size w0 W → w0.heap.size ≤ g → Below w0.heap.size w0 W1) → wpList P ops Q rest a W1) : wpList P ops Q (o :: rest) a W := by
  have hrun : (Instr.storeAt t (.pointer (some ⟨g, 0, none⟩)) (.agg new)).run P W = .ok () (W.setCells g 0 new.toList) := run_store_run t _ _ hh rfl ht (by omega) h1
  have hfar : ∀ k, k ≠ g → (W.setCells g 0 new.toList).heap[k]? = W.heap[k]? := fun k hk => setCells_far _ _ k hk
  obtain ⟨cur', h3, h4, h5⟩ := setCells_row new.toList 0 W cs hh (by omega)
  have e : cur' = new := by
    apply Array.toList_inj.1
    rw [h5]
    simp
    simp at hcs
    omega
  subst e
  obtain ⟨s1, s2, s3, s4⟩ := setCells_same g cur'.toList 0 W
  have hb : ∀ w0 : World, Below w0.heap.size w0 W → w0.heap.size ≤ g → Below w0.heap.size w0 (W.setCells g 0 cur'.toList) := by
    intro w0 hB hg
    exact hB.trans ⟨s1, s2, s3, Nat.le_of_eq s4.symm, fun k hk => hfar k (by omega)⟩
  refine wpList_plain hgd fun K hK => ?_
  unfold Oper.wp
  rw [show (execOp a.eval o).run P W = .ok .skip (W.setCells g 0 cur'.toList) by
    have e : execOp a.eval o = (do Instr.storeAt t (a.eval p) (a.eval x); pure .skip) := by unfold execOp; rw [ho]
    rw [e, haddr, hx, Sem.run_bind, hrun]
    rfl]
  show K (a.put o.dst undef) _
  rw [hN]
  exact hK _ _ (h _ h3 hfar hb)

theorem add64_run (x y : Int) (hx : 0 ≤ x) (hy : 0 ≤ y) (w : World) :
    (callFunc 31 #[.int .u64 x, .int .u64 y, .int .u64 0]).run Try.prog w = .ok (.value (.tuple #[.int .u64 ((x + y + 0) % 18446744073709551616), .int .u64 ((x + y + 0) / 18446744073709551616)])) w := by
  have h := run_add64 (P := Try.prog) x y 0 hx hy (Int.le_refl 0) (by decide) w
  rw [run_callFunc_extern Try.func31 (by kernel_rfl) (by kernel_rfl) (by kernel_rfl) (e := add64Entry) (by kernel_rfl)]
  simp only [Sem.run_bind, h]
  rfl

def lease_Lease_Over.f (a0_0 a0_1 a0_2 a0_3 : Int) (a0_4 : Bool) (a1 a2 : Int) : Option Bool :=
  if 0 ≤ a0_3 ∧ 0 ≤ a2 then some (!a0_4 || ((a0_3 + a2 + 0) / 18446744073709551616 == 0 && decide ((a0_3 + a2 + 0) % 18446744073709551616 < a1))) else none

set_option maxHeartbeats 4000000 in
set_option maxRecDepth 100000 in
theorem lease_Lease_Over.calls (a0_0 a0_1 a0_2 a0_3 : Int) (a0_4 : Bool) (a1 a2 : Int) (r : Bool) (w : World) (h : lease_Lease_Over.f a0_0 a0_1 a0_2 a0_3 a0_4 a1 a2 = some r) :
    Calls Try.prog 11 #[.agg #[.int .u64 a0_0, .int .u64 a0_1, .int .u64 a0_2, .int .u64 a0_3, .bool a0_4], .int .u64 a1, .int .u64 a2] w fun e w' => e = .returned (.bool r) ∧ Below w.heap.size w w' := by
  unfold lease_Lease_Over.f at h
  split at h
  case isFalse => exact absurd h (by simp)
  rename_i hh
  obtain ⟨h1, h2⟩ := hh
  obtain rfl := Option.some.inj h
  have HA := add64_run a0_3 a2 h1 h2
  clear h
  generalize (a0_3 + a2 + 0) % 18446744073709551616 = s at HA ⊢
  generalize (a0_3 + a2 + 0) / 18446744073709551616 = o at HA ⊢
  have hu24 := Try.underlying24
  have HB := Aside0.mk (Below.refl w.heap.size w)
  cases a0_4
  · skip
    go_enter Try.func11, Try.ntmps11
    go_wp2_with (((with_reducible refine gate_dst (N := 3) rfl ?_); refine box_event ?hg (N := 3) ?hd (cs := #[.int .u64 a0_0, .int .u64 a0_1, .int .u64 a0_2, .int .u64 a0_3, .bool false]) (t := 24) ?hr ?_; (case hd => rfl); (case hg => rfl); (case hr => first | (go_simp; done) | (go_simp; rfl)); intro g3 hg w3 hbox hb; have HB := Aside0.mk (below_step HB.out hb); have BK3 := Aside0.mk hbox; have hcz3_0 : w3.cell? ⟨g3, 0, none⟩ = some (.int .u64 a0_0) := (blk_cell BK3.out 0).trans rfl; have hcz3_1 : w3.cell? ⟨g3, 1, none⟩ = some (.int .u64 a0_1) := (blk_cell BK3.out 1).trans rfl; have hcz3_2 : w3.cell? ⟨g3, 2, none⟩ = some (.int .u64 a0_2) := (blk_cell BK3.out 2).trans rfl; have hcz3_3 : w3.cell? ⟨g3, 3, none⟩ = some (.int .u64 a0_3) := (blk_cell BK3.out 3).trans rfl; have hcz3_4 : w3.cell? ⟨g3, 4, none⟩ = some (.bool false) := (blk_cell BK3.out 4).trans rfl; clear hbox hb hg))
    first | go_ret2 | go_ret
    exact ⟨rfl, HB.out⟩
  · cases hz : (o == 0)
    · skip
      go_enter Try.func11, Try.ntmps11
      go_wp2_with (((with_reducible refine gate_dst (N := 3) rfl ?_); refine box_event ?hg (N := 3) ?hd (cs := #[.int .u64 a0_0, .int .u64 a0_1, .int .u64 a0_2, .int .u64 a0_3, .bool true]) (t := 24) ?hr ?_; (case hd => rfl); (case hg => rfl); (case hr => first | (go_simp; done) | (go_simp; rfl)); intro g3 hg w3 hbox hb; have HB := Aside0.mk (below_step HB.out hb); have BK3 := Aside0.mk hbox; have hcz3_0 : w3.cell? ⟨g3, 0, none⟩ = some (.int .u64 a0_0) := (blk_cell BK3.out 0).trans rfl; have hcz3_1 : w3.cell? ⟨g3, 1, none⟩ = some (.int .u64 a0_1) := (blk_cell BK3.out 1).trans rfl; have hcz3_2 : w3.cell? ⟨g3, 2, none⟩ = some (.int .u64 a0_2) := (blk_cell BK3.out 2).trans rfl; have hcz3_3 : w3.cell? ⟨g3, 3, none⟩ = some (.int .u64 a0_3) := (blk_cell BK3.out 3).trans rfl; have hcz3_4 : w3.cell? ⟨g3, 4, none⟩ = some (.bool true) := (blk_cell BK3.out 4).trans rfl; clear hbox hb hg))
      first | go_ret2 | go_ret
      exact ⟨by simp [hz], HB.out⟩
    · cases hs : decide (s < a1)
      · skip
        go_enter Try.func11, Try.ntmps11
        go_wp2_with (((with_reducible refine gate_dst (N := 3) rfl ?_); refine box_event ?hg (N := 3) ?hd (cs := #[.int .u64 a0_0, .int .u64 a0_1, .int .u64 a0_2, .int .u64 a0_3, .bool true]) (t := 24) ?hr ?_; (case hd => rfl); (case hg => rfl); (case hr => first | (go_simp; done) | (go_simp; rfl)); intro g3 hg w3 hbox hb; have HB := Aside0.mk (below_step HB.out hb); have BK3 := Aside0.mk hbox; have hcz3_0 : w3.cell? ⟨g3, 0, none⟩ = some (.int .u64 a0_0) := (blk_cell BK3.out 0).trans rfl; have hcz3_1 : w3.cell? ⟨g3, 1, none⟩ = some (.int .u64 a0_1) := (blk_cell BK3.out 1).trans rfl; have hcz3_2 : w3.cell? ⟨g3, 2, none⟩ = some (.int .u64 a0_2) := (blk_cell BK3.out 2).trans rfl; have hcz3_3 : w3.cell? ⟨g3, 3, none⟩ = some (.int .u64 a0_3) := (blk_cell BK3.out 3).trans rfl; have hcz3_4 : w3.cell? ⟨g3, 4, none⟩ = some (.bool true) := (blk_cell BK3.out 4).trans rfl; clear hbox hb hg))
        first | go_ret2 | go_ret
        exact ⟨by simp [hz, hs], HB.out⟩
      · skip
        go_enter Try.func11, Try.ntmps11
        go_wp2_with (((with_reducible refine gate_dst (N := 3) rfl ?_); refine box_event ?hg (N := 3) ?hd (cs := #[.int .u64 a0_0, .int .u64 a0_1, .int .u64 a0_2, .int .u64 a0_3, .bool true]) (t := 24) ?hr ?_; (case hd => rfl); (case hg => rfl); (case hr => first | (go_simp; done) | (go_simp; rfl)); intro g3 hg w3 hbox hb; have HB := Aside0.mk (below_step HB.out hb); have BK3 := Aside0.mk hbox; have hcz3_0 : w3.cell? ⟨g3, 0, none⟩ = some (.int .u64 a0_0) := (blk_cell BK3.out 0).trans rfl; have hcz3_1 : w3.cell? ⟨g3, 1, none⟩ = some (.int .u64 a0_1) := (blk_cell BK3.out 1).trans rfl; have hcz3_2 : w3.cell? ⟨g3, 2, none⟩ = some (.int .u64 a0_2) := (blk_cell BK3.out 2).trans rfl; have hcz3_3 : w3.cell? ⟨g3, 3, none⟩ = some (.int .u64 a0_3) := (blk_cell BK3.out 3).trans rfl; have hcz3_4 : w3.cell? ⟨g3, 4, none⟩ = some (.bool true) := (blk_cell BK3.out 4).trans rfl; clear hbox hb hg))
        first | go_ret2 | go_ret
        exact ⟨by simp [hz, hs], HB.out⟩

def lease_Until.f (a0 a1 : Int) : Option Int :=
  if 0 ≤ a0 ∧ 0 ≤ a1 then some (if (a0 + a1 + 0) / 18446744073709551616 > 0 then 18446744073709551615 else (a0 + a1 + 0) % 18446744073709551616) else none

set_option maxHeartbeats 4000000 in
set_option maxRecDepth 100000 in
theorem lease_Until.calls (a0 a1 : Int) (r : Int) (w : World) (h : lease_Until.f a0 a1 = some r) :
    Calls Try.prog 17 #[.int .u64 a0, .int .u64 a1] w fun e w' => e = .returned (.int .u64 r) ∧ Drawn0 w w' := by
  unfold lease_Until.f at h
  split at h
  case isFalse => exact absurd h (by simp)
  rename_i hh
  obtain ⟨h1, h2⟩ := hh
  obtain rfl := Option.some.inj h
  have HA := add64_run a0 a1 h1 h2
  clear h
  generalize (a0 + a1 + 0) % 18446744073709551616 = s at HA ⊢
  generalize (a0 + a1 + 0) / 18446744073709551616 = o at HA ⊢
  by_cases hz : o > 0
  · rw [if_pos hz]
    have hz' : decide (0 < o) = true := decide_eq_true hz
    go_enter Try.func17, Try.ntmps17
    go_wp2
    first | go_ret2 | go_ret
    exact ⟨rfl, by repeat (first | exact Drawn0.refl _ | apply Drawn0.step)⟩
  · rw [if_neg hz]
    have hz' : decide (0 < o) = false := decide_eq_false hz
    go_enter Try.func17, Try.ntmps17
    go_wp2
    first | go_ret2 | go_ret
    exact ⟨rfl, by repeat (first | exact Drawn0.refl _ | apply Drawn0.step)⟩

/-- the first of the greatest epoch among the first k; the zero lease of none -/
def lastAt (l : List S24) : Nat → S24
  | 0 => z24
  | k + 1 => if k = 0 ∨ (lastAt l k).f0 < (rd_T24 l k).f0 then rd_T24 l k else lastAt l k

def lease_Last.f (a0 : List S24) : Option (Int × Int × Int × Int × Bool) :=
  let x := lastAt a0 a0.length
  some (x.f0, x.f1, x.f2, x.f3, x.f4)

theorem later_calls (l m : S24) (w : World) :
    Calls Try.prog 32 #[.agg #[.int .u64 l.f0, .int .u64 l.f1, .int .u64 l.f2, .int .u64 l.f3, .bool l.f4], .agg #[.int .u64 m.f0, .int .u64 m.f1, .int .u64 m.f2, .int .u64 m.f3, .bool m.f4]] w fun e w' => e = .returned (.bool (decide (l.f0 < m.f0))) ∧ Below w.heap.size w w' := by
  have hu24 := Try.underlying24
  have HB := Aside0.mk (Below.refl w.heap.size w)
  go_enter Try.func32, Try.ntmps32
  go_wp2_with (first | ((with_reducible refine gate_dst (N := 2) rfl ?_); refine box_event ?hg (N := 2) ?hd (cs := #[.int .u64 l.f0, .int .u64 l.f1, .int .u64 l.f2, .int .u64 l.f3, .bool l.f4]) (t := 24) ?hr ?_; (case hd => rfl); (case hg => rfl); (case hr => first | (go_simp; done) | (go_simp; rfl)); intro g2 hg w2 hbox hb; have HB := Aside0.mk (below_step HB.out hb); have BK2 := Aside0.mk hbox; have hcz2_0 : w2.cell? ⟨g2, 0, none⟩ = some (.int .u64 l.f0) := (blk_cell BK2.out 0).trans rfl; have hcz2_1 : w2.cell? ⟨g2, 1, none⟩ = some (.int .u64 l.f1) := (blk_cell BK2.out 1).trans rfl; have hcz2_2 : w2.cell? ⟨g2, 2, none⟩ = some (.int .u64 l.f2) := (blk_cell BK2.out 2).trans rfl; have hcz2_3 : w2.cell? ⟨g2, 3, none⟩ = some (.int .u64 l.f3) := (blk_cell BK2.out 3).trans rfl; have hcz2_4 : w2.cell? ⟨g2, 4, none⟩ = some (.bool l.f4) := (blk_cell BK2.out 4).trans rfl; clear hbox hb hg) | ((with_reducible refine gate_dst (N := 3) rfl ?_); refine box_event ?hg (N := 3) ?hd (cs := #[.int .u64 m.f0, .int .u64 m.f1, .int .u64 m.f2, .int .u64 m.f3, .bool m.f4]) (t := 24) ?hr ?_; (case hd => rfl); (case hg => rfl); (case hr => first | (go_simp; done) | (go_simp; rfl)); intro g3 hg w3 hbox hb; have BK2 := Aside0.mk (blk_below BK2.out hb); clear hcz2_0; have hcz2_0 : w3.cell? ⟨g2, 0, none⟩ = some (.int .u64 l.f0) := (blk_cell BK2.out 0).trans rfl; have HB := Aside0.mk (below_step HB.out hb); have BK3 := Aside0.mk hbox; have hcz3_0 : w3.cell? ⟨g3, 0, none⟩ = some (.int .u64 m.f0) := (blk_cell BK3.out 0).trans rfl; have hcz3_1 : w3.cell? ⟨g3, 1, none⟩ = some (.int .u64 m.f1) := (blk_cell BK3.out 1).trans rfl; have hcz3_2 : w3.cell? ⟨g3, 2, none⟩ = some (.int .u64 m.f2) := (blk_cell BK3.out 2).trans rfl; have hcz3_3 : w3.cell? ⟨g3, 3, none⟩ = some (.int .u64 m.f3) := (blk_cell BK3.out 3).trans rfl; have hcz3_4 : w3.cell? ⟨g3, 4, none⟩ = some (.bool m.f4) := (blk_cell BK3.out 4).trans rfl; clear hbox hb hg))
  go_ret
  exact ⟨rfl, HB.out⟩
end Go.Proofs.Ythjdldiekpidkaa
