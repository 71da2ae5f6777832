/- clock: the greatest hand less the least one, by a closure that is called twice. -/
import Derived.Test.YtonchomjddhciaaObj
namespace Go.Proofs.Ytonchomjddhciaa.Clk
open Go.RowKit Go.Proofs.YtonchomjddhciaaW.PrintWords Go.Proofs.YtonchomjddhciaaW.PrintLast Go.Proofs.YtonchomjddhciaaW.PrintMore
set_option linter.unusedVariables false
set_option linter.unusedSimpArgs false


theorem mxTo_yes {l : List Int} {k : Nat} (h : mxTo l k < nth l k) : mxTo l (k + 1) = nth l k := by
  show (if _ then _ else _) = _
  rw [if_pos h]
theorem mxTo_no {l : List Int} {k : Nat} (h : ¬ mxTo l k < nth l k) : mxTo l (k + 1) = mxTo l k := by
  show (if _ then _ else _) = _
  rw [if_neg h]
set_option maxHeartbeats 1000000 in
theorem best_more (g : Nat) (A : Option Addr) (c : Nat) (l : List Int) (w : World) (hk : w.heap[g]? = some (.cells #[.slice A l.length c] 27 (0, 0))) (hr : Rd w A l) (h0 : 0 < l.length) :
    Calls Try.prog 25 #[.func (.func 26) #[] #[], .pointer (some ⟨g, 0, none⟩)] w fun e w' => e = .returned (.int .u64 (mxTo l l.length)) ∧ w = w' := by
  have hx : w.cell? ⟨g, 0, none⟩ = some (.slice A l.length c) := (blk_cell hk 0).trans rfl
  have hm := hr.2.1
  have HR := Aside0.mk hr
  obtain ⟨ad, rfl, hx0⟩ := hr.val 0 h0
  have p0 : (0 : Int) < (l.length : Int) := by omega
  rw [show ad.add 0 = ad by rfl] at hx0
  clear hk hr h0
  go_enter Try.func25, Try.ntmps25
  go_wp2
  clear hx0
  go_loop [4, 12] (fun v4 v12 => ∃ k : Nat, k ≤ l.length ∧ v4 = .int .u64 (mxTo l k) ∧ v12 = .int .i64 (k : Int)) (fun _ v12 => l.length - (intOf v12).toNat)
  case atStart => exact ⟨0, Nat.zero_le _, rfl, rfl⟩
  case round =>
    obtain ⟨k, hk, rfl, rfl⟩ := hrel
    by_cases hlt : k < l.length
    · obtain ⟨ad', e, hxk⟩ := HR.out.val k hlt
      cases e
      have c1 : decide ((k : Int) < (l.length : Int)) = true := decide_eq_true (by omega)
      have p1 : (k : Int) < (l.length : Int) := by omega
      by_cases ho : mxTo l k < nth l k
      · have HS := Aside0.mk (mxTo_yes ho)
        have c2 : decide (mxTo l k < nth l k) = true := decide_eq_true ho
        clear ho
        go_wp2_with (go_at_call 26; (with_reducible refine (more_calls _ _ _).mono ?_); rintro e w1 ⟨rfl, rfl⟩)
        go_round
        case rel => exact ⟨k + 1, by omega, by rw [HS.out], by go_num⟩
        case measure => simp [intOf]; omega
      · have HS := Aside0.mk (mxTo_no ho)
        have c2 : decide (mxTo l k < nth l k) = false := decide_eq_false ho
        clear ho
        go_wp2_with (go_at_call 26; (with_reducible refine (more_calls _ _ _).mono ?_); rintro e w1 ⟨rfl, rfl⟩)
        go_round
        case rel => exact ⟨k + 1, by omega, by rw [HS.out], by go_num⟩
        case measure => simp [intOf]; omega
    · have c1 : decide ((k : Int) < (l.length : Int)) = false := decide_eq_false (by omega)
      obtain rfl : k = l.length := by omega
      go_wp2
      go_ret
      exact ⟨rfl, rfl⟩

theorem mnTo_yes {l : List Int} {k : Nat} (h : nth l k < mnTo l k) : mnTo l (k + 1) = nth l k := by
  show (if _ then _ else _) = _
  rw [if_pos h]
theorem mnTo_no {l : List Int} {k : Nat} (h : ¬ nth l k < mnTo l k) : mnTo l (k + 1) = mnTo l k := by
  show (if _ then _ else _) = _
  rw [if_neg h]
set_option maxHeartbeats 1000000 in
theorem best_less (g : Nat) (A : Option Addr) (c : Nat) (l : List Int) (w : World) (hk : w.heap[g]? = some (.cells #[.slice A l.length c] 27 (0, 0))) (hr : Rd w A l) (h0 : 0 < l.length) :
    Calls Try.prog 25 #[.func (.func 27) #[] #[], .pointer (some ⟨g, 0, none⟩)] w fun e w' => e = .returned (.int .u64 (mnTo l l.length)) ∧ w = w' := by
  have hx : w.cell? ⟨g, 0, none⟩ = some (.slice A l.length c) := (blk_cell hk 0).trans rfl
  have hm := hr.2.1
  have HR := Aside0.mk hr
  obtain ⟨ad, rfl, hx0⟩ := hr.val 0 h0
  have p0 : (0 : Int) < (l.length : Int) := by omega
  rw [show ad.add 0 = ad by rfl] at hx0
  clear hk hr h0
  go_enter Try.func25, Try.ntmps25
  go_wp2
  clear hx0
  go_loop [4, 12] (fun v4 v12 => ∃ k : Nat, k ≤ l.length ∧ v4 = .int .u64 (mnTo l k) ∧ v12 = .int .i64 (k : Int)) (fun _ v12 => l.length - (intOf v12).toNat)
  case atStart => exact ⟨0, Nat.zero_le _, rfl, rfl⟩
  case round =>
    obtain ⟨k, hk, rfl, rfl⟩ := hrel
    by_cases hlt : k < l.length
    · obtain ⟨ad', e, hxk⟩ := HR.out.val k hlt
      cases e
      have c1 : decide ((k : Int) < (l.length : Int)) = true := decide_eq_true (by omega)
      have p1 : (k : Int) < (l.length : Int) := by omega
      by_cases ho : nth l k < mnTo l k
      · have HS := Aside0.mk (mnTo_yes ho)
        have c2 : decide (nth l k < mnTo l k) = true := decide_eq_true ho
        clear ho
        go_wp2_with (go_at_call 27; (with_reducible refine (less_calls _ _ _).mono ?_); rintro e w1 ⟨rfl, rfl⟩)
        go_round
        case rel => exact ⟨k + 1, by omega, by rw [HS.out], by go_num⟩
        case measure => simp [intOf]; omega
      · have HS := Aside0.mk (mnTo_no ho)
        have c2 : decide (nth l k < mnTo l k) = false := decide_eq_false ho
        clear ho
        go_wp2_with (go_at_call 27; (with_reducible refine (less_calls _ _ _).mono ?_); rintro e w1 ⟨rfl, rfl⟩)
        go_round
        case rel => exact ⟨k + 1, by omega, by rw [HS.out], by go_num⟩
        case measure => simp [intOf]; omega
    · have c1 : decide ((k : Int) < (l.length : Int)) = false := decide_eq_false (by omega)
      obtain rfl : k = l.length := by omega
      go_wp2
      go_ret
      exact ⟨rfl, rfl⟩

theorem skew_none (w : World) : Calls Try.prog 11 #[.pointer none] w fun e w' => e = .returned (.int .u64 0) ∧ Below w.heap.size w w' := by
  go_enter Try.func11, Try.ntmps11
  go_wp2_with (go_at_call 10; (with_reducible refine (hands_none _).mono ?_); rintro e w1 ⟨rfl, rfl⟩)
  go_ret
  exact ⟨rfl, below_alloc (Below.refl _ _) _⟩

theorem skew_calls (g : Nat) (A : Option Addr) (c : Nat) (l : List Int) (w : World) (hk : Ck w g (.slice A l.length c)) (hr : Rd w A l) (hl : l.length * 8 ≤ 140737488355328) (hu : U l) :
    Calls Try.prog 11 #[.pointer (some ⟨g, 0, none⟩)] w fun e w' => e = .returned (.int .u64 (skew l)) ∧ Below w.heap.size w w' := by
  have HC := Aside0.mk (hands_calls g A c l w hk hr hl)
  have hm := hr.2.1
  clear hk hr
  have hmf : ∀ (fn : Fn) (first cap : Array Value) (w : World), (Instr.makeFunc fn first cap).run Try.prog w = .ok (.func fn first cap) w := fun _ _ _ _ => rfl
  by_cases h0 : l.length = 0
  · have c0 : ((l.length : Int) == 0) = true := beq_iff_eq.mpr (by omega)
    have HE := Aside0.mk (show skew l = 0 by unfold skew; rw [if_pos h0])
    clear h0
    go_enter Try.func11, Try.ntmps11
    go_wp2_with (go_at_call 10; (with_reducible refine HC.out.mono ?_); rintro e w1 ⟨v, rfl, ho, hb⟩; have HO := Aside0.mk ho; have HB := Aside0.mk hb; clear ho hb; obtain ⟨A1, c1, rfl, _⟩ := Ow.rd HO.out)
    go_ret
    exact ⟨by rw [HE.out]; rfl, below_alloc HB.out _⟩
  · have c0 : ((l.length : Int) == 0) = false := beq_eq_false_iff_ne.mpr (by omega)
    have HE := Aside0.mk (show skew l = mxTo l l.length - mnTo l l.length by unfold skew; rw [if_neg h0])
    have HP := Aside0.mk (show 0 < l.length by omega)
    have b1 := mxTo_bd hu l.length
    have b2 := mnTo_bd hu l.length
    have b3 := mnTo_le_mxTo l l.length
    obtain ⟨x, hx⟩ : ∃ x, x = mxTo l l.length := ⟨_, rfl⟩
    obtain ⟨y, hy⟩ : ∃ y, y = mnTo l l.length := ⟨_, rfl⟩
    have HX := Aside0.mk hx
    have HY := Aside0.mk hy
    rw [← hx] at b1 b3
    rw [← hy] at b2 b3
    have q1 : 0 ≤ x - y := by omega
    have q2 : x - y ≤ 18446744073709551615 := by omega
    clear h0 hx hy b1 b2 b3 hu
    go_enter Try.func11, Try.ntmps11
    go_wp2_with (first
      | (go_at_call 10; (with_reducible refine HC.out.mono ?_); rintro e w1 ⟨v, rfl, ho, hb⟩; have HO := Aside0.mk ho; have HB := Aside0.mk hb; clear ho hb; obtain ⟨A1, c1, rfl, hrd⟩ := Ow.rd HO.out; have HM := Aside0.mk (best_more _ A1 c1 l _ (blk_new w1 (.cells #[.slice A1 l.length c1] 27)) (hrd.below (below_alloc (Below.refl _ _) _)) HP.out); have HL := Aside0.mk (best_less _ A1 c1 l _ (blk_new w1 (.cells #[.slice A1 l.length c1] 27)) (hrd.below (below_alloc (Below.refl _ _) _)) HP.out); rw [← HX.out] at HM; rw [← HY.out] at HL; clear hrd)
      | (go_at_call 25; (with_reducible first | (refine HM.out.mono ?_; clear HM) | (refine HL.out.mono ?_; clear HL)); rintro e w1 ⟨rfl, rfl⟩))
    go_ret
    exact ⟨by rw [HE.out, ← HX.out, ← HY.out]; rfl, below_alloc HB.out _⟩

theorem within_none (s : Int) (w : World) (hs : 0 ≤ s) : Calls Try.prog 12 #[.pointer none, .int .u64 s] w fun e w' => e = .returned (.bool true) ∧ Below w.heap.size w w' := by
  have c0 : decide (0 ≤ s) = true := decide_eq_true hs
  go_enter Try.func12, Try.ntmps12
  go_wp2_with (go_at_call 11; (with_reducible refine (skew_none _).mono ?_); rintro e w1 ⟨rfl, hb⟩; have HB := Aside0.mk hb; clear hb)
  go_ret
  exact ⟨rfl, HB.out⟩

theorem within_calls (g : Nat) (A : Option Addr) (c : Nat) (l : List Int) (s : Int) (w : World) (hk : Ck w g (.slice A l.length c)) (hr : Rd w A l) (hl : l.length * 8 ≤ 140737488355328) (hu : U l) :
    Calls Try.prog 12 #[.pointer (some ⟨g, 0, none⟩), .int .u64 s] w fun e w' => e = .returned (.bool (decide (skew l ≤ s))) ∧ Below w.heap.size w w' := by
  have HC := Aside0.mk (skew_calls g A c l w hk hr hl hu)
  clear hk hr
  go_enter Try.func12, Try.ntmps12
  go_wp2_with (go_at_call 11; (with_reducible refine HC.out.mono ?_); rintro e w1 ⟨rfl, hb⟩; have HB := Aside0.mk hb; clear hb)
  go_ret
  exact ⟨rfl, HB.out⟩
end Go.Proofs.Ytonchomjddhciaa.Clk
