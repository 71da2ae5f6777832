/- clock: the functions that only compute with numbers: the sum that stops at the top, what is past, by the code and by the document. -/
import Derived.Test.YtonchomjddhciaaBase
import Derived.Outline
namespace Go.Proofs.Ytonchomjddhciaa.Clk
open Go.RowKit Go.Proofs.YtonchomjddhciaaW.PrintWords Go.Proofs.YtonchomjddhciaaW.PrintLast Go.Proofs.YtonchomjddhciaaW.PrintMore
set_option linter.unusedVariables false
set_option linter.unusedSimpArgs false
attribute [local go_sem] max2_int max_two

theorem add_calls (a b : Int) (w : World) (ha0 : 0 ≤ a) (ha1 : a ≤ 18446744073709551615) (hb0 : 0 ≤ b) (hb1 : b ≤ 18446744073709551615) :
    Calls Try.prog 17 #[.int .u64 a, .int .u64 b] w fun e w' => e = .returned (.int .u64 (sat a b)) ∧ w = w' := by
  by_cases h : a + b ≤ 18446744073709551615
  · have HS := Aside0.mk (show sat a b = a + b by unfold sat; rw [if_pos h])
    have c1 : decide (18446744073709551615 - a < b) = false := decide_eq_false (by omega)
    have c2 : 0 ≤ a + b := by omega
    go_enter Try.func17, Try.ntmps17
    go_wp2
    go_ret
    exact ⟨by rw [HS.out]; rfl, rfl⟩
  · have HS := Aside0.mk (show sat a b = 18446744073709551615 by unfold sat; rw [if_neg h])
    have c1 : decide (18446744073709551615 - a < b) = true := decide_eq_true (by omega)
    go_enter Try.func17, Try.ntmps17
    go_wp2
    go_ret
    exact ⟨by rw [HS.out]; rfl, rfl⟩

theorem past_calls (c u s : Int) (w : World) (hu0 : 0 ≤ u) (hu1 : u ≤ 18446744073709551615) (hs0 : 0 ≤ s) (hs1 : s ≤ 18446744073709551615) :
    Calls Try.prog 21 #[.int .u64 c, .int .u64 u, .int .u64 s] w fun e w' => e = .returned (.bool (past c u s)) ∧ w = w' := by
  by_cases h : u + s ≤ 18446744073709551615
  · have HA := add64_fit u s hu0 hs0 h
    have HP := Aside0.mk (show past c u s = decide (u + s < c) by unfold past; simp [h])
    clear hu0 hu1 hs0 hs1 h
    generalize u + s = z at HA HP
    go_enter Try.func21, Try.ntmps21
    go_wp2
    go_ret
    exact ⟨by rw [HP.out]; rfl, rfl⟩
  · have HA := add64_over u s hu0 hs0 hu1 hs1 h
    have HP := Aside0.mk (show past c u s = false by unfold past; simp [h])
    clear hu0 hu1 hs0 hs1 h
    generalize (u + s + 0) % 18446744073709551616 = z at HA
    go_enter Try.func21, Try.ntmps21
    go_wp2
    go_ret
    exact ⟨by rw [HP.out]; rfl, rfl⟩

theorem rpast_calls (c u s : Int) (w : World) (hu0 : 0 ≤ u) (hu1 : u ≤ 18446744073709551615) (hs0 : 0 ≤ s) (hs1 : s ≤ 18446744073709551615) :
    Calls Try.prog 22 #[.int .u64 c, .int .u64 u, .int .u64 s] w fun e w' => e = .returned (.bool (past c u s)) ∧ w = w' := by
  by_cases h : u + s ≤ 18446744073709551615
  · have HP := Aside0.mk (show past c u s = decide (u + s < c) by unfold past; simp [h])
    have c1 : decide (s ≤ 18446744073709551615 - u) = true := decide_eq_true (by omega)
    have c2 : 0 ≤ u + s := by omega
    go_enter Try.func22, Try.ntmps22
    go_wp2
    go_ret
    exact ⟨by rw [HP.out]; rfl, rfl⟩
  · have HP := Aside0.mk (show past c u s = false by unfold past; simp [h])
    have c1 : decide (s ≤ 18446744073709551615 - u) = false := decide_eq_false (by omega)
    go_enter Try.func22, Try.ntmps22
    go_wp2
    go_ret
    exact ⟨by rw [HP.out]; rfl, rfl⟩

theorem more_calls (a b : Int) (w : World) : Calls Try.prog 26 #[.int .u64 a, .int .u64 b] w fun e w' => e = .returned (.bool (decide (b < a))) ∧ w = w' := by
  go_enter Try.func26, Try.ntmps26
  go_wp2
  go_ret
  exact ⟨rfl, rfl⟩
theorem less_calls (a b : Int) (w : World) : Calls Try.prog 27 #[.int .u64 a, .int .u64 b] w fun e w' => e = .returned (.bool (decide (a < b))) ∧ w = w' := by
  go_enter Try.func27, Try.ntmps27
  go_wp2
  go_ret
  exact ⟨rfl, rfl⟩

set_option maxHeartbeats 400000 in
theorem sum_calls (A : Option Addr) (c : Nat) (l : List Int) (w : World) (hr : Rd w A l) (hu : U l) :
    Calls Try.prog 19 #[.slice A l.length c] w fun e w' => e = .returned (.int .u64 (sumTo l l.length)) ∧ w = w' := by
  have HR := Aside0.mk hr
  have HU := Aside0.mk hu
  have hm := hr.2.1
  clear hr hu
  go_enter Try.func19, Try.ntmps19
  go_wp2
  go_loop [3, 10] (fun v3 v10 => ∃ k : Nat, k ≤ l.length ∧ v3 = .int .u64 (sumTo l k) ∧ v10 = .int .i64 (k : Int)) (fun _ v10 => l.length - (intOf v10).toNat)
  case atStart => exact ⟨0, Nat.zero_le _, rfl, rfl⟩
  case round =>
    obtain ⟨k, hk, rfl, rfl⟩ := hrel
    by_cases hlt : k < l.length
    · obtain ⟨ad, rfl, hx⟩ := HR.out.val k hlt
      have hb := HU.out.at k
      have hs := sumTo_bd HU.out k
      have c1 : decide ((k : Int) < (l.length : Int)) = true := decide_eq_true (by omega)
      by_cases ho : sumTo l k + nth l k ≤ 18446744073709551615
      · have HA := add64_fit (sumTo l k) (nth l k) hs.1 hb.1 ho
        have HS := Aside0.mk (sumTo_step ho)
        obtain ⟨hb0, _⟩ := hb
        obtain ⟨hs0, _⟩ := hs
        generalize sumTo l k + nth l k = z at HA HS
        clear ho
        go_wp2
        go_round
        case rel => exact ⟨k + 1, by omega, by rw [HS.out], by go_num⟩
        case measure => simp [intOf]; omega
      · have HA := add64_over (sumTo l k) (nth l k) hs.1 hb.1 hs.2 hb.2 ho
        have HS := Aside0.mk (sumTo_over HU.out hlt (by omega))
        generalize (sumTo l k + nth l k + 0) % 18446744073709551616 = z at HA
        clear ho hb hs
        go_wp2
        go_ret
        exact ⟨by rw [HS.out]; rfl, rfl⟩
    · have c1 : decide ((k : Int) < (l.length : Int)) = false := decide_eq_false (by omega)
      obtain rfl : k = l.length := by omega
      go_wp2
      go_ret
      exact ⟨rfl, rfl⟩

set_option maxHeartbeats 400000 in
theorem rsum_calls (A : Option Addr) (c : Nat) (l : List Int) (w : World) (hr : Rd w A l) (hu : U l) :
    Calls Try.prog 20 #[.slice A l.length c] w fun e w' => e = .returned (.int .u64 (sumTo l l.length)) ∧ w = w' := by
  have HR := Aside0.mk hr
  have HU := Aside0.mk hu
  have hm := hr.2.1
  clear hr hu
  go_enter Try.func20, Try.ntmps20
  go_wp2
  go_loop [3, 4] (fun v3 v4 => ∃ k : Nat, k ≤ l.length ∧ v3 = .int .u64 (sumTo l k) ∧ v4 = .int .i64 (k : Int)) (fun _ v4 => l.length - (intOf v4).toNat)
  case atStart => exact ⟨0, Nat.zero_le _, rfl, rfl⟩
  case round =>
    obtain ⟨k, hk, rfl, rfl⟩ := hrel
    by_cases hlt : k < l.length
    · obtain ⟨ad, rfl, hx⟩ := HR.out.val k hlt
      have hb := HU.out.at k
      have hs := sumTo_bd HU.out k
      have HA := Aside0.mk (fun w => add_calls (sumTo l k) (nth l k) w hs.1 hs.2 hb.1 hb.2)
      have c1 : decide ((k : Int) < (l.length : Int)) = true := decide_eq_true (by omega)
      clear hb hs
      go_wp2_with (go_at_call 17; (with_reducible refine (HA.out _).mono ?_); rintro e w' ⟨rfl, rfl⟩)
      go_round
      case rel => exact ⟨k + 1, by omega, rfl, by go_num⟩
      case measure => simp [intOf]; omega
    · have c1 : decide ((k : Int) < (l.length : Int)) = false := decide_eq_false (by omega)
      obtain rfl : k = l.length := by omega
      go_wp2
      go_ret
      exact ⟨rfl, rfl⟩

set_option maxHeartbeats 400000 in
/-- two rows that read alike are the same -/
theorem same_calls (A A' : Option Addr) (c c' : Nat) (l : List Int) (w : World) (hr : Rd w A l) (hr' : Rd w A' l) :
    Calls Try.prog 15 #[.slice A l.length c, .slice A' l.length c'] w fun e w' => e = .returned (.bool true) ∧ Drawn0 w w' := by
  have HR := Aside0.mk hr
  have HR' := Aside0.mk hr'
  have hm := hr.2.1
  have c0 : ((l.length : Int) != (l.length : Int)) = false := by simp
  clear hr hr'
  go_enter Try.func15, Try.ntmps15
  go_wp2
  go_loopg [5] l.length (fun kq v5 w' => ∃ k : Nat, v5 = .int .i64 (k : Int) ∧ Aside0 (k + kq = l.length) ∧ Drawn0 w w')
  case atStart => exact ⟨0, rfl, ⟨by omega⟩, Drawn0.refl _⟩
  case round =>
    obtain ⟨k, rfl, HK, ⟨m1, rfl⟩⟩ := hrel
    by_cases hlt : k < l.length
    · have c1 : decide ((k : Int) < (l.length : Int)) = true := decide_eq_true (by omega)
      cases gk with
      | zero => exact absurd HK.out (by omega)
      | succ k1 =>
      obtain ⟨ad, rfl, hx⟩ := HR.out.val k hlt
      obtain ⟨ad', rfl, hx'⟩ := HR'.out.val k hlt
      have c2 : (nth l k != nth l k) = false := by simp
      have p1 : (k : Int) < (l.length : Int) := by omega
      clear hlt
      go_wp2
      go_quiet (fail)
      go_wp2
      go_roundg k1
      case measure => omega
      case rel => exact ⟨k + 1, by go_num, ⟨by have := HK.out; omega⟩, ⟨⟨_, rfl⟩⟩⟩
    · have c1 : decide ((k : Int) < (l.length : Int)) = false := decide_eq_false (by omega)
      go_wp2
      go_ret
      exact ⟨rfl, ⟨⟨_, rfl⟩⟩⟩

theorem drawn_more {w w1 : World} (h : Drawn0 w w1) (n : Nat) : Drawn0 w (w1.drewN n) := by
  obtain ⟨m, rfl⟩ := h.out
  exact ⟨⟨m + n, by first | rfl | simp [World.drewN, Nat.add_assoc]⟩⟩
theorem rowTo_yes {l : List Int} {i k : Nat} {n : Int} (h : nth l k ≤ nth l i) (h2 : rowTo l i n k < nth l i - nth l k) : rowTo l i n (k + 1) = nth l i - nth l k := by
  show (if _ then _ else _) = _
  rw [if_pos h]
  omega
theorem rowTo_old {l : List Int} {i k : Nat} {n : Int} (h : nth l k ≤ nth l i) (h2 : ¬ rowTo l i n k < nth l i - nth l k) : rowTo l i n (k + 1) = rowTo l i n k := by
  show (if _ then _ else _) = _
  rw [if_pos h]
  omega
theorem rowTo_no {l : List Int} {i k : Nat} {n : Int} (h : ¬ nth l k ≤ nth l i) : rowTo l i n (k + 1) = rowTo l i n k := by
  show (if _ then _ else _) = _
  rw [if_neg h]

set_option maxHeartbeats 1000000 in
theorem rskew_calls (A : Option Addr) (c : Nat) (l : List Int) (w : World) (hr : Rd w A l) (hu : U l) :
    Calls Try.prog 18 #[.slice A l.length c] w fun e w' => e = .returned (.int .u64 (skew l)) ∧ Drawn0 w w' := by
  have HR := Aside0.mk hr
  have HU := Aside0.mk hu
  have HE := Aside0.mk (refTo_skew l)
  have hm := hr.2.1
  clear hr hu
  go_enter Try.func18, Try.ntmps18
  go_wp2
  go_loopg [3, 4] l.length (fun kq v3 v4 w' => ∃ i : Nat, v3 = .int .u64 (refTo l i) ∧ v4 = .int .i64 (i : Int) ∧ Aside0 (i + kq = l.length) ∧ Drawn0 w w')
  case atStart => exact ⟨0, rfl, rfl, ⟨by omega⟩, Drawn0.refl _⟩
  case round =>
    obtain ⟨i, rfl, rfl, HK, ⟨m1, rfl⟩⟩ := hrel
    by_cases hlt : i < l.length
    · have c1 : decide ((i : Int) < (l.length : Int)) = true := decide_eq_true (by omega)
      have p1 : (i : Int) < (l.length : Int) := by omega
      have HI := Aside0.mk hlt
      clear hlt
      cases gk with
      | zero => exact absurd HK.out (by have := HI.out; omega)
      | succ k1 =>
      obtain ⟨n0, hn0⟩ : ∃ n0, n0 = refTo l i := ⟨_, rfl⟩
      have HN := Aside0.mk hn0
      have HD := Aside0.mk (show Drawn0 w (w.drewN m1) from ⟨⟨_, rfl⟩⟩)
      rw [← hn0]
      clear hn0
      obtain ⟨W1, hW1⟩ : ∃ W1, W1 = w.drewN m1 := ⟨_, rfl⟩
      have HR1 := Aside0.mk (HR.out.below HD.out.below)
      rw [← hW1] at HD HR1 ⊢
      clear hW1
      go_wp2
      go_loopg [3, 5] l.length (fun kq v3 v5 w' => ∃ k : Nat, v3 = .int .u64 (rowTo l i n0 k) ∧ v5 = .int .i64 (k : Int) ∧ Aside0 (k + kq = l.length) ∧ Drawn0 W1 w')
      case atStart => exact ⟨0, rfl, rfl, ⟨by omega⟩, Drawn0.refl _⟩
      case round =>
        obtain ⟨k, rfl, rfl, HK2, ⟨m2, rfl⟩⟩ := hrel
        by_cases hlt : k < l.length
        · have c2 : decide ((k : Int) < (l.length : Int)) = true := decide_eq_true (by omega)
          have p2 : (k : Int) < (l.length : Int) := by omega
          cases gk with
          | zero => exact absurd HK2.out (by omega)
          | succ k2 =>
          obtain ⟨ad, rfl, hx⟩ := Rd.val HR1.out i HI.out
          obtain ⟨ad', e, hx'⟩ := Rd.val HR1.out k hlt
          cases e
          have hbi := HU.out.at i
          have hbk := HU.out.at k
          clear hlt
          by_cases hc : nth l k ≤ nth l i
          · have c3 : decide (nth l k ≤ nth l i) = true := decide_eq_true hc
            have q1 : 0 ≤ nth l i - nth l k := by omega
            have q2 : nth l i - nth l k ≤ 18446744073709551615 := by omega
            by_cases hg : rowTo l i n0 k < nth l i - nth l k
            · have HX := Aside0.mk (rowTo_yes hc hg)
              go_wp2
              go_quiet (fail)
              go_wp2
              go_quiet (fail)
              go_wp2
              go_roundg k2
              case measure => omega
              case rel => exact ⟨k + 1, by rw [HX.out], by go_num, ⟨by have := HK2.out; omega⟩, ⟨⟨_, rfl⟩⟩⟩
            · have HX := Aside0.mk (rowTo_old hc hg)
              go_wp2
              go_quiet (fail)
              go_wp2
              go_quiet (fail)
              go_wp2
              go_roundg k2
              case measure => omega
              case rel => exact ⟨k + 1, by rw [HX.out], by go_num, ⟨by have := HK2.out; omega⟩, ⟨⟨_, rfl⟩⟩⟩
          · have c3 : decide (nth l k ≤ nth l i) = false := decide_eq_false hc
            have HX := Aside0.mk (rowTo_no (n := n0) hc)
            go_wp2
            go_quiet (fail)
            go_wp2
            go_roundg k2
            case measure => omega
            case rel => exact ⟨k + 1, by rw [HX.out], by go_num, ⟨by have := HK2.out; omega⟩, ⟨⟨_, rfl⟩⟩⟩
        · have c2 : decide ((k : Int) < (l.length : Int)) = false := decide_eq_false (by omega)
          obtain rfl : k = l.length := by have := HK2.out; omega
          have HZ := Aside0.mk (show refTo l (i + 1) = rowTo l i n0 l.length by rw [HN.out]; rfl)
          go_wp2
          go_roundg k1
          case measure => omega
          case rel => exact ⟨i + 1, by rw [HZ.out], by go_num, ⟨by have := HK.out; omega⟩, drawn_more HD.out _⟩
    · have c1 : decide ((i : Int) < (l.length : Int)) = false := decide_eq_false (by omega)
      obtain rfl : i = l.length := by have := HK.out; omega
      go_wp2
      go_ret
      exact ⟨by rw [← HE.out]; rfl, ⟨⟨_, rfl⟩⟩⟩
end Go.Proofs.Ytonchomjddhciaa.Clk
