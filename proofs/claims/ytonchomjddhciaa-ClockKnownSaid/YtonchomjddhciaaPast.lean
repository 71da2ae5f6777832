/- ClockPast's walk: what is past for a clock is so for every greater one; by clocks within s of one another it lies behind until for all. -/
import Derived.Test.YtonchomjddhciaaSums
namespace Go.Proofs.Ytonchomjddhciaa.Clk
open Go.RowKit Go.Proofs.YtonchomjddhciaaW.PrintWords Go.Proofs.YtonchomjddhciaaW.PrintLast Go.Proofs.YtonchomjddhciaaW.PrintMore
set_option linter.unusedVariables false
set_option linter.unusedSimpArgs false

set_option maxHeartbeats 1000000 in
theorem past_out (A : Option Addr) (cap : Nat) (l : List Int) (p u s m : Int) (w : World) (hr : Rd w A l) (hl : l.length * 8 ≤ 140737488355328) (hp : 70 < l.length ∨ p < 0 ∨ l.length ≤ p) :
    Calls Try.prog 7 #[.slice A l.length cap, .int .i64 p, .int .u64 u, .int .u64 s, .int .u64 m] w (Right w) := by
  have HC := Aside0.mk (of_calls A cap l w hr hl)
  have hm := hr.2.1
  clear hr
  by_cases h1 : 70 < l.length
  · have c1 : decide (70 < (l.length : Int)) = true := decide_eq_true (by omega)
    have c2 : decide (70 < l.length) = true := decide_eq_true h1
    clear h1 hp
    go_enter Try.func7, Try.ntmps7
    go_wp2_with (first
      | (go_at_call 16; (with_reducible refine HC.out.mono ?_); rintro e w1 ⟨g, v, rfl, _, _, _, hb⟩; have HB := Aside0.mk hb; clear hb)
      | (go_at_call 13; (with_reducible refine (works_calls _).mono ?_); rintro e w6 ⟨rfl, hb⟩; have HB := Aside0.mk (below_step HB.out hb); clear hb))
    go_ret
    exact ⟨rfl, HB.out⟩
  · have c1 : decide (70 < (l.length : Int)) = false := decide_eq_false (by omega)
    have c2 : decide (70 < l.length) = false := decide_eq_false h1
    by_cases h2 : p < 0
    · have c3 : decide (p < 0) = true := decide_eq_true h2
      clear h1 h2 hp
      go_enter Try.func7, Try.ntmps7
      go_wp2_with (first
        | (go_at_call 16; (with_reducible refine HC.out.mono ?_); rintro e w1 ⟨g, v, rfl, _, _, _, hb⟩; have HB := Aside0.mk hb; clear hb)
        | (go_at_call 13; (with_reducible refine (works_calls _).mono ?_); rintro e w6 ⟨rfl, hb⟩; have HB := Aside0.mk (below_step HB.out hb); clear hb))
      go_ret
      exact ⟨rfl, HB.out⟩
    · have c3 : decide (p < 0) = false := decide_eq_false h2
      have c4 : decide ((l.length : Int) ≤ p) = true := decide_eq_true (by omega)
      clear h1 h2 hp
      go_enter Try.func7, Try.ntmps7
      go_wp2_with (first
        | (go_at_call 16; (with_reducible refine HC.out.mono ?_); rintro e w1 ⟨g, v, rfl, _, _, _, hb⟩; have HB := Aside0.mk hb; clear hb)
        | (go_at_call 13; (with_reducible refine (works_calls _).mono ?_); rintro e w6 ⟨rfl, hb⟩; have HB := Aside0.mk (below_step HB.out hb); clear hb))
      go_ret
      exact ⟨rfl, HB.out⟩

/-- A read of clocks that are the call's own. -/
theorem read_own {b g : Nat} {A : Option Addr} {c : Nat} {l : List Int} (k : Nat) {w : World} (hk : Ck w g (.slice A l.length c)) (ho : Ow w b (.slice A l.length c) l) (hp : k < l.length) :
    Calls Try.prog 9 #[.pointer (some ⟨g, 0, none⟩), .int .i64 (k : Int)] w fun e w' => e = .returned (.int .u64 (nth l k)) ∧ w = w' := read_in g A c l k w hk (Ow.rd' ho).2 hp
theorem within_own {b g : Nat} {A : Option Addr} {c : Nat} {l : List Int} (s : Int) {w : World} (hk : Ck w g (.slice A l.length c)) (ho : Ow w b (.slice A l.length c) l) (hl : l.length * 8 ≤ 140737488355328) (hu : U l) :
    Calls Try.prog 12 #[.pointer (some ⟨g, 0, none⟩), .int .u64 s] w fun e w' => e = .returned (.bool (decide (skew l ≤ s))) ∧ Below w.heap.size w w' := within_calls g A c l s w hk (Ow.rd' ho).2 hl hu

theorem sum_two_below (x y : Int) (w : World) (hx0 : 0 ≤ x) (hx1 : x ≤ 18446744073709551615) (hy0 : 0 ≤ y) (hy1 : y ≤ 18446744073709551615) :
    Calls Try.prog 19 #[.slice (some ⟨w.heap.size, 0, none⟩) 2 2] (w.alloc (.cells #[.int .u64 x, .int .u64 y] 22)) fun e w' => e = .returned (.int .u64 (sat x y)) ∧ Below w.heap.size w w' :=
  (sum_two x y w hx0 hx1 hy0 hy1).mono fun e w' ⟨he, hw⟩ => ⟨he, by rw [← hw]; exact below_alloc (Below.refl _ _) _⟩

set_option maxHeartbeats 2000000 in
theorem past_in (A : Option Addr) (cap : Nat) (l : List Int) (k : Nat) (u s m : Int) (w : World) (hr : Rd w A l) (hl : l.length ≤ 70) (hp : k < l.length) (hu : U l) (hu0 : 0 ≤ u) (hu1 : u ≤ 18446744073709551615) (hs0 : 0 ≤ s) (hs1 : s ≤ 18446744073709551615) (hm0 : 0 ≤ m) (hm1 : m ≤ 18446744073709551615) :
    Calls Try.prog 7 #[.slice A l.length cap, .int .i64 (k : Int), .int .u64 u, .int .u64 s, .int .u64 m] w (Right w) := by
  have HC := Aside0.mk (of_calls A cap l w hr (by omega))
  have hm := hr.2.1
  have c1 : decide (70 < (l.length : Int)) = false := decide_eq_false (by omega)
  have c2 : decide (70 < l.length) = false := decide_eq_false (by omega)
  have c4 : decide ((l.length : Int) ≤ (k : Int)) = false := decide_eq_false (by omega)
  have c5 : decide (l.length ≤ k) = false := decide_eq_false (by omega)
  have HP := Aside0.mk (fun w => past_calls (nth l k) u s w hu0 hu1 hs0 hs1)
  have HK0 := Aside0.mk hp
  have HU := Aside0.mk hu
  have HL := Aside0.mk (show l.length * 8 ≤ 140737488355328 by omega)
  clear hr
  by_cases h3 : past (nth l k) u s = true
  · rw [h3] at HP
    have q := hu.at k
    have HM := Aside0.mk (show past (sat (nth l k) m) u s = true from past_mono h3 (sat_ge q.2 hm0))
    have HP2 := Aside0.mk (fun w => past_calls (sat (nth l k) m) u s w hu0 hu1 hs0 hs1)
    rw [HM.out] at HP2
    have HS := fun w => Aside0.mk (sum_two_below (nth l k) m w q.1 q.2 hm0 hm1)
    have c6 : decide (nth l k ≤ u) = false := decide_eq_false (by have := past_after h3 hs0; omega)
    by_cases h4 : skew l ≤ s
    · have c7 : decide (skew l ≤ s) = true := decide_eq_true h4
      have HA := Aside0.mk (show ∀ i, i < l.length → u < nth l i from fun i hi => past_all h3 h4 hp hi)
      clear h3 h4 q hp hu hu0 hu1 hs0 hs1 hm0 hm1 hl
      go_enter Try.func7, Try.ntmps7
      go_wp2_with (first
        | (go_at_call 16; (with_reducible refine HC.out.mono ?_); rintro e w1 ⟨g, v, rfl, hg, hk, ho, hb⟩; have HB := Aside0.mk hb; obtain ⟨A1, k1, rfl, _⟩ := Ow.rd ho; have HK := Aside0.mk hk; have HO := Aside0.mk ho; clear hg hk ho hb)
        | (go_at_call 9; have HR := read_own k HK.out HO.out HK0.out; (with_reducible refine HR.mono ?_); clear HR; rintro e w2 ⟨rfl, rfl⟩)
        | (go_at_call 21; (with_reducible first | refine (HP.out _).mono ?_ | refine (HP2.out _).mono ?_); rintro e w3 ⟨rfl, rfl⟩)
        | (go_at_call 19; (with_reducible refine (HS _).out.mono ?_); rintro e w4 ⟨rfl, hb⟩; have HB := Aside0.mk (below_step HB.out hb); have HK := Aside0.mk (blk_below HK.out hb); have HO := Aside0.mk (pw_own_below HO.out hb); clear hb)
        | (go_at_call 12; have HR := within_own s HK.out HO.out HL.out HU.out; (with_reducible refine HR.mono ?_); clear HR; rintro e w5 ⟨rfl, hb⟩; have HB := Aside0.mk (below_step HB.out hb); have HK := Aside0.mk (blk_below HK.out hb); have HO := Aside0.mk (pw_own_below HO.out hb); clear hb))
      go_loop [12] (fun v12 => ∃ i : Nat, i ≤ l.length ∧ v12 = .int .i64 (i : Int)) (fun v12 => l.length - (intOf v12).toNat)
      case atStart => exact ⟨0, Nat.zero_le _, rfl⟩
      case round =>
        obtain ⟨i, hi, rfl⟩ := hrel
        by_cases hlt : i < l.length
        · have c8 : decide ((i : Int) < (l.length : Int)) = true := decide_eq_true (by omega)
          have c9 : decide (nth l i ≤ u) = false := decide_eq_false (by have := HA.out i hlt; omega)
          have HI := Aside0.mk hlt
          go_wp2_with (go_at_call 9; have HR := read_own i HK.out HO.out HI.out; (with_reducible refine HR.mono ?_); clear HR; rintro e w2 ⟨rfl, rfl⟩)
          go_round
          case rel => exact ⟨i + 1, by omega, by go_num⟩
          case measure => simp [intOf]; omega
        · have c8 : decide ((i : Int) < (l.length : Int)) = false := decide_eq_false (by omega)
          go_wp2_with (go_at_call 13; (with_reducible refine (works_calls _).mono ?_); rintro e w6 ⟨rfl, hb⟩; have HB := Aside0.mk (below_step HB.out hb); clear hb)
          go_ret
          exact ⟨rfl, HB.out⟩
    · have c7 : decide (skew l ≤ s) = false := decide_eq_false h4
      clear h3 h4 q hp hu hu0 hu1 hs0 hs1 hm0 hm1 hl
      go_enter Try.func7, Try.ntmps7
      go_wp2_with (first
        | (go_at_call 16; (with_reducible refine HC.out.mono ?_); rintro e w1 ⟨g, v, rfl, hg, hk, ho, hb⟩; have HB := Aside0.mk hb; obtain ⟨A1, k1, rfl, _⟩ := Ow.rd ho; have HK := Aside0.mk hk; have HO := Aside0.mk ho; clear hg hk ho hb)
        | (go_at_call 9; have HR := read_own k HK.out HO.out HK0.out; (with_reducible refine HR.mono ?_); clear HR; rintro e w2 ⟨rfl, rfl⟩)
        | (go_at_call 21; (with_reducible first | refine (HP.out _).mono ?_ | refine (HP2.out _).mono ?_); rintro e w3 ⟨rfl, rfl⟩)
        | (go_at_call 19; (with_reducible refine (HS _).out.mono ?_); rintro e w4 ⟨rfl, hb⟩; have HB := Aside0.mk (below_step HB.out hb); have HK := Aside0.mk (blk_below HK.out hb); have HO := Aside0.mk (pw_own_below HO.out hb); clear hb)
        | (go_at_call 12; have HR := within_own s HK.out HO.out HL.out HU.out; (with_reducible refine HR.mono ?_); clear HR; rintro e w5 ⟨rfl, hb⟩; have HB := Aside0.mk (below_step HB.out hb); have HK := Aside0.mk (blk_below HK.out hb); have HO := Aside0.mk (pw_own_below HO.out hb); clear hb)
        | (go_at_call 13; (with_reducible refine (works_calls _).mono ?_); rintro e w6 ⟨rfl, hb⟩; have HB := Aside0.mk (below_step HB.out hb); clear hb))
      go_ret
      exact ⟨rfl, HB.out⟩
  · have h3' : past (nth l k) u s = false := by simpa using h3
    rw [h3'] at HP
    clear h3 h3' hp hu hu0 hu1 hs0 hs1 hm0 hm1 hl
    go_enter Try.func7, Try.ntmps7
    go_wp2_with (first
      | (go_at_call 16; (with_reducible refine HC.out.mono ?_); rintro e w1 ⟨g, v, rfl, hg, hk, ho, hb⟩; have HB := Aside0.mk hb; obtain ⟨A1, k1, rfl, _⟩ := Ow.rd ho; have HK := Aside0.mk hk; have HO := Aside0.mk ho; clear hg hk ho hb)
      | (go_at_call 9; have HR := read_own k HK.out HO.out HK0.out; (with_reducible refine HR.mono ?_); clear HR; rintro e w2 ⟨rfl, rfl⟩)
      | (go_at_call 21; (with_reducible refine (HP.out _).mono ?_); rintro e w3 ⟨rfl, rfl⟩)
      | (go_at_call 13; (with_reducible refine (works_calls _).mono ?_); rintro e w6 ⟨rfl, hb⟩; have HB := Aside0.mk (below_step HB.out hb); clear hb))
    go_ret
    exact ⟨rfl, HB.out⟩

theorem past_walk (A : Option Addr) (cap : Nat) (l : List Int) (p u s m : Int) (w : World) (hr : Rd w A l) (hl : l.length * 8 ≤ 140737488355328) (hu : U l) (hu0 : 0 ≤ u) (hu1 : u ≤ 18446744073709551615) (hs0 : 0 ≤ s) (hs1 : s ≤ 18446744073709551615) (hm0 : 0 ≤ m) (hm1 : m ≤ 18446744073709551615) :
    Calls Try.prog 7 #[.slice A l.length cap, .int .i64 p, .int .u64 u, .int .u64 s, .int .u64 m] w (Right w) := by
  by_cases h : 70 < l.length ∨ p < 0 ∨ l.length ≤ p
  · exact past_out A cap l p u s m w hr hl h
  · obtain ⟨k, rfl⟩ : ∃ k : Nat, p = (k : Int) := ⟨p.toNat, by omega⟩
    exact past_in A cap l k u s m w hr (by omega) (by omega) hu hu0 hu1 hs0 hs1 hm0 hm1

theorem past_row (a0 : Option Addr) (len0 cap0 : Nat) (z0 : List Int) (a1 a2 a3 a4 : Int) (w : World)
    (w0 : (a0 = none ∧ len0 = 0 ∧ cap0 = 0 ∧ z0 = []) ∨ ∃ x, a0 = some x ∧ len0 ≤ cap0 ∧ cap0 ≤ maxLen ∧ z0.length = cap0 ∧ (∀ i, i < z0.length → w.cell? (x.add i) = some (.int .u64 (z0.getD i 0))) ∧ ∀ n ∈ z0, (Lit.int .u64 n).wf = true)
    (y0 : len0 * 8 ≤ 140737488351232)
    (w2 : (Lit.int .u64 a2).wf = true) (w3 : (Lit.int .u64 a3).wf = true) (w4 : (Lit.int .u64 a4).wf = true) : Calls Try.prog 7 #[.slice a0 len0 cap0, .int .i64 a1, .int .u64 a2, .int .u64 a3, .int .u64 a4] w (Right w) := by
  obtain ⟨l, rfl, hr, hu⟩ := open_row w0
  exact past_walk a0 cap0 l a1 a2 a3 a4 w hr (by omega) hu (wf_u64 w2).1 (wf_u64 w2).2 (wf_u64 w3).1 (wf_u64 w3).2 (wf_u64 w4).1 (wf_u64 w4).2
end Go.Proofs.Ytonchomjddhciaa.Clk
