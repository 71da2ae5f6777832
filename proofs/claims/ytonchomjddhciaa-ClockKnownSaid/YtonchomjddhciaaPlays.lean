/- ClockPlays' walk: whatever ticks, hands stand as the document says, and no hand falls; what was handed in, and answered, may be written over. -/
import Derived.Test.YtonchomjddhciaaTwo
import Derived.StillTailTactics
import Derived.Deep.RegionWith
namespace Go.Proofs.Ytonchomjddhciaa.Clk
open Go.RowKit Go.Proofs.YtonchomjddhciaaW.PrintWords Go.Proofs.YtonchomjddhciaaW.PrintLast Go.Proofs.YtonchomjddhciaaW.PrintMore
set_option linter.unusedVariables false
set_option linter.unusedSimpArgs false

set_option maxHeartbeats 1000000 in
set_option maxRecDepth 100000 in
theorem plays_out (A B : Option Addr) (cap bcap n m : Nat) (s : Int) (w : World) (hn : n ≤ 9223372036854775807) (hm : m ≤ 9223372036854775807) (hp : 70 < n ∨ 60 < m) :
    Calls Try.prog 5 #[.slice A n cap, .slice B m bcap, .int .u64 s] w (Right w) := by
  have HB := Aside0.mk (Below.refl w.heap.size w)
  by_cases h1 : 70 < n
  · have c1 : decide (70 < (n : Int)) = true := decide_eq_true (by omega)
    have c2 : decide (70 < n) = true := decide_eq_true h1
    clear h1 hp
    go_enter Try.func5, Try.ntmps5
    go_wp2_with (go_at_call 13; (with_reducible refine (works_calls _).mono ?_); rintro e w6 ⟨rfl, hb⟩; have HB := Aside0.mk (below_step HB.out hb); clear hb)
    go_ret
    exact ⟨rfl, HB.out⟩
  · have c1 : decide (70 < (n : Int)) = false := decide_eq_false (by omega)
    have c2 : decide (70 < n) = false := decide_eq_false h1
    have c3 : decide (60 < (m : Int)) = true := decide_eq_true (by omega)
    have c4 : decide (60 < m) = true := decide_eq_true (by omega)
    clear h1 hp
    go_enter Try.func5, Try.ntmps5
    go_wp2_with (go_at_call 13; (with_reducible refine (works_calls _).mono ?_); rintro e w6 ⟨rfl, hb⟩; have HB := Aside0.mk (below_step HB.out hb); clear hb)
    go_ret
    exact ⟨rfl, HB.out⟩

set_option maxHeartbeats 4000000 in
set_option maxRecDepth 100000 in
theorem plays_in (A B : Option Addr) (cap bcap : Nat) (l : List Int) (ac : List (Int × Int)) (s : Int) (w : World) (hr : Rd w A l) (hu : U l) (ha : RdA w B ac) (hua : UA ac) (hl : l.length ≤ 70) (hl2 : ac.length ≤ 60) :
    Calls Try.prog 5 #[.slice A l.length cap, .slice B ac.length bcap, .int .u64 s] w (Right w) := by
  have HR := Aside0.mk hr
  have HU := Aside0.mk hu
  have HA0 := Aside0.mk ha
  have HUA := Aside0.mk hua
  have HB := Aside0.mk (Below.refl w.heap.size w)
  have c1 : decide (70 < (l.length : Int)) = false := decide_eq_false (by omega)
  have c2 : decide (70 < l.length) = false := decide_eq_false (by omega)
  have c3 : decide (60 < (ac.length : Int)) = false := decide_eq_false (by omega)
  have c4 : decide (60 < ac.length) = false := decide_eq_false (by omega)
  clear hr hu ha hua
  go_enter Try.func5, Try.ntmps5
  go_wp2_with (first
    | ((with_reducible refine gate_dst (N := 27) rfl ?_); refine print_append_row (w0 := w) w.heap.size rfl (.tmp 25) (.tmp 26) 27 22 .u64 8 rfl Try.underlying27 info22 (by decide) (.slice none 0 0) [] l A l.length cap rfl rfl (own_nil _ _ _ _) HR.out (Below.refl _ _) (Nat.le_refl _) (by simp; omega) ?_; intro v7 w1 hown hb _ _; have HO7 := Aside0.mk (show Ow w1 w.heap.size v7 l from hown); have HB := Aside0.mk hb; have HR := Aside0.mk (HR.out.below hb); clear hown hb; obtain ⟨A7, c7, rfl, _⟩ := Ow.rd HO7.out)
    | ((with_reducible refine gate_dst (N := 30) rfl ?_); refine print_append_row (w0 := w1) w1.heap.size rfl (.tmp 28) (.tmp 29) 27 22 .u64 8 rfl Try.underlying27 info22 (by decide) (.slice none 0 0) [] l A l.length cap rfl rfl (own_nil _ _ _ _) HR.out (Below.refl _ _) (Nat.le_refl _) (by simp; omega) ?_; intro v8 w2 hown hb _ _; have HO8 := Aside0.mk (show Ow w2 w1.heap.size v8 l from hown); obtain ⟨A8, c8, rfl, h8⟩ := Ow.rd HO8.out; have H78 := Aside0.mk (fresh_apart HO7.out HO8.out); have HO7 := Aside0.mk (pw_own_below HO7.out hb); have HO8 := Aside0.mk (own_weaken HO8.out HB.out.size); have HB := Aside0.mk (below_step HB.out hb); have HC := Aside0.mk (of_calls A8 c8 l w2 h8 (by omega)); clear hown hb HR h8)
    | (go_at_call 16; (with_reducible refine HC.out.mono ?_); clear HC; rintro e w3 ⟨gc, vh, rfl, hg, hk, ho, hb⟩; obtain ⟨Ah, ch, rfl, _⟩ := Ow.rd ho; have H7h := Aside0.mk (fresh_apart HO7.out ho); have H8h := Aside0.mk (fresh_apart HO8.out ho); have HT := Aside0.mk (Two.mk (pw_own_below HO7.out hb) (own_weaken ho HB.out.size) hk rfl rfl H7h.out); have HO8 := Aside0.mk (pw_own_below HO8.out hb); have HB := Aside0.mk (below_step HB.out hb); clear hg hk ho hb HO7 H7h))
  go_loopg [10] l.length (fun kq v10 w' => ∃ i : Nat, v10 = .int .i64 (i : Int) ∧ Aside0 (i + kq = l.length) ∧ Aside0 (∃ z8 : List Int, l.length = z8.length ∧ Ow w' w.heap.size (.slice A8 l.length c8) z8) ∧ Aside0 (Two w' w.heap.size l.length A7 c7 gc Ah ch l l) ∧ Aside0 (Below w.heap.size w w'))
  case atStart => exact ⟨0, rfl, ⟨by omega⟩, ⟨l, rfl, HO8.out⟩, HT, HB⟩
  case round =>
    clear HO8 HT HB
    obtain ⟨i, rfl, HK, HO8, HT, HB⟩ := hrel
    by_cases hlt : i < l.length
    · have c5 : decide ((i : Int) < (l.length : Int)) = true := decide_eq_true (by omega)
      have p1 : (i : Int) < (l.length : Int) := by omega
      cases gk with
      | zero => exact absurd HK.out (by omega)
      | succ k1 =>
      obtain ⟨z8, hz, ho8⟩ := HO8.out
      obtain ⟨g8, e, e2, hb8, _, _⟩ := Ow.form ho8 (by omega)
      clear e2
      cases e
      obtain ⟨hx, hf⟩ := own_cell ho8 i (by omega)
      have HG := Aside0.mk hb8
      have HP := Aside0.mk (third ho8 HT.out H78.out H8h.out (by omega) i 77)
      have HZ := Aside0.mk (show l.length = (z8.set i 77).length by rw [List.length_set]; exact hz)
      clear hz ho8 hb8
      go_wp2
      clear hx hf
      go_roundg k1
      case measure => omega
      case rel => exact ⟨i + 1, by go_num, ⟨by have := HK.out; omega⟩, ⟨_, HZ.out, HP.out.1⟩, ⟨HP.out.2⟩, ⟨below_set HB.out HG.out⟩⟩
    · have c5 : decide ((i : Int) < (l.length : Int)) = false := decide_eq_false (by omega)
      clear HO8 H78 H8h HK
      have HA := Aside0.mk (HA0.out.below HB.out)
      go_wp2
      go_loopg [11] ac.length (fun kq v11 w' => ∃ j : Nat, v11 = .int .i64 (j : Int) ∧ Aside0 (j + kq = ac.length) ∧ Aside0 (∃ zs : List Int, U zs ∧ Two w' w.heap.size l.length A7 c7 gc Ah ch zs zs) ∧ Aside0 (Below w.heap.size w w'))
      case atStart => exact ⟨0, rfl, ⟨by omega⟩, ⟨l, HU.out, HT.out⟩, HB⟩
      case round =>
        clear HT HB HA hlt c5
        obtain ⟨j, rfl, HK, HT, HB⟩ := hrel
        by_cases hlt : j < ac.length
        · have c5 : decide ((j : Int) < (ac.length : Int)) = true := decide_eq_true (by omega)
          have p1 : (j : Int) < (ac.length : Int) := by omega
          cases gk with
          | zero => exact absurd HK.out (by omega)
          | succ k1 =>
          obtain ⟨zs, hu, ht⟩ := HT.out
          obtain ⟨ad, rfl, hP0, hB0⟩ := RdA.val HA0.out j hlt
          have HQ := Aside0.mk (HUA.out j)
          obtain ⟨y, hy⟩ : ∃ y, y = actB ac j := ⟨_, rfl⟩
          obtain ⟨q, hq⟩ : ∃ q, q = actP ac j := ⟨_, rfl⟩
          rw [← hy] at hB0 HQ
          rw [← hq] at hP0
          clear hy hq
          have HU2 := Aside0.mk hu
          have HT := Aside0.mk ht
          by_cases hin : 0 ≤ q ∧ q < l.length
          · obtain ⟨k, rfl⟩ : ∃ k : Nat, q = (k : Int) := ⟨q.toNat, by omega⟩
            have n1 := ht.n1
            have n2 := ht.n2
            have HKL := Aside0.mk (show k < zs.length by omega)
            have kn : (k : Int) < (l.length : Int) := hin.2
            obtain ⟨g7, e, e2, hb7, _, _⟩ := Ow.form ht.now (by omega)
            clear e2
            cases e
            obtain ⟨gh, e, e2, hbh, _, _⟩ := Ow.form ht.hands (by omega)
            clear e2
            cases e
            have HG := Aside0.mk (And.intro hb7 hbh)
            have HP0 := Aside0.mk hP0
            have HB0 := Aside0.mk hB0
            have hxP := pw_cell_below HB.out hP0
            have hxB := pw_cell_below HB.out hB0
            clear hu ht hb7 hbh n1 n2 hin hP0 hB0
            go_wp2
            go_still_tail 11, (by kernel_rfl)
            obtain ⟨W1, hW1⟩ : ∃ W1, W1 = wr.drew := ⟨_, rfl⟩
            have HB := Aside0.mk (show Below w.heap.size w W1 by rw [hW1]; exact below_drew1 HB.out)
            have HT := Aside0.mk (show Two W1 w.heap.size l.length (some ⟨g7, 0, none⟩) c7 gc (some ⟨gh, 0, none⟩) ch zs zs by rw [hW1]; exact HT.out.below (below_drew1 (Below.refl _ _)))
            change wpList _ _ _ _ _ wr.drew
            rw [← hW1]
            clear hW1 hxP hxB
            go_wp2_with (go_at_call 8; have HS := tick_two HT.out HB.out k y HKL.out HU2.out HQ.out.1 HQ.out.2; (with_reducible refine HS.mono ?_); clear HS; rintro e w4 ⟨rfl, ht, hb⟩; have HB := Aside0.mk hb; have HT := Aside0.mk ht; have hxP := pw_cell_below HB.out HP0.out; have hxB := pw_cell_below HB.out HB0.out; obtain ⟨hx7, hf7⟩ := own_cell HT.out.now k HKL.out; clear ht hb)
            have HAC := Aside0.mk ((add_calls (nth zs k) y w4.drew (HU2.out.at k).1 (HU2.out.at k).2 HQ.out.1 HQ.out.2).mono fun e w' ⟨he, hw⟩ => And.intro he hw.symm)
            refine wp_region_still_tail 14 (by kernel_rfl) (by kernel_rfl) ?_
            simp only [List.take_succ_cons, List.take_zero, List.drop_succ_cons, List.drop_zero]
            repeat still_step
            refine wpStill_step (fun K hK => ?_)
            go_simp
            refine ⟨_, HAC.out, hK _ ?_⟩
            clear hK K
            repeat still_step
            refine wpStill_nil ?_
            obtain ⟨W5, hW5⟩ : ∃ W5, W5 = w4.drew := ⟨_, rfl⟩
            have HB := Aside0.mk (show Below w.heap.size w W5 by rw [hW5]; exact below_drew1 HB.out)
            have HT := Aside0.mk (show Two W5 w.heap.size l.length (some ⟨g7, 0, none⟩) c7 gc (some ⟨gh, 0, none⟩) ch zs (zs.set k (sat (nth zs k) y)) by rw [hW5]; exact HT.out.below (below_drew1 (Below.refl _ _)))
            change wpList _ _ _ _ _ w4.drew
            rw [← hW5]
            clear hW5 hxP hxB hx7 hf7
            obtain ⟨hx7, hf7⟩ := own_cell HT.out.now k HKL.out
            obtain ⟨zs', hzs⟩ : ∃ z, z = zs.set k (sat (nth zs k) y) := ⟨_, rfl⟩
            have hn : nth zs' k = sat (nth zs k) y := by rw [hzs, nth_set_self _ _ _ HKL.out]
            have HU3 := Aside0.mk (show U zs' by rw [hzs]; have hq := sat_bd (HU2.out.at k).1 HQ.out.1; exact HU2.out.set k _ hq.1 hq.2)
            have hge : decide (nth zs' k < nth zs k) = false := decide_eq_false (by rw [hn]; have := sat_ge (HU2.out.at k).2 HQ.out.1; omega)
            have HT := Aside0.mk (show Two (W5.setCell ⟨g7, k, none⟩ (.int .u64 (nth zs' k))) w.heap.size l.length (some ⟨g7, 0, none⟩) c7 gc (some ⟨gh, 0, none⟩) ch zs' zs' by rw [hn]; have := HT.out.put k (sat (nth zs k) y); rw [← hzs] at this; exact this)
            have HB := Aside0.mk (show Below w.heap.size w (W5.setCell ⟨g7, k, none⟩ (.int .u64 (nth zs' k))) from below_set HB.out HG.out.1)
            have HKL := Aside0.mk (show k < zs'.length by rw [hzs, List.length_set]; exact HKL.out)
            rw [← hn]
            clear hn hzs
            go_wp2
            obtain ⟨W6, hW6⟩ : ∃ W6, W6 = W5.setCell ⟨g7, k, none⟩ (.int .u64 (nth zs' k)) := ⟨_, rfl⟩
            rw [← hW6] at HB HT ⊢
            clear hW6 hx7 hf7
            obtain ⟨hx7, hf7⟩ := own_cell HT.out.now k HKL.out
            have hxP := pw_cell_below HB.out HP0.out
            have hxB := pw_cell_below HB.out HB0.out
            have hne : (nth zs' k != nth zs' k) = false := by simp
            have HRD := Aside0.mk (read_two HT.out k HKL.out)
            go_quiet ((go_at_call 9; exact Calls.quiet_of_same (HRD.out _)))
            go_wp2
            go_roundg k1
            case measure => omega
            case rel => exact ⟨j + 1, by go_num, ⟨by have := HK.out; omega⟩, ⟨zs', HU3.out, HT.out.below (pw_below_drewN (Below.refl _ _) _)⟩, ⟨pw_below_drewN HB.out _⟩⟩
          · have HIN := Aside0.mk hin
            have HP0 := Aside0.mk hP0
            have HB0 := Aside0.mk hB0
            have hxP := pw_cell_below HB.out hP0
            have hxB := pw_cell_below HB.out hB0
            clear hu ht hP0 hB0
            by_cases hneg : q < 0
            · have c6 : decide (q < 0) = true := decide_eq_true hneg
              clear hin
              go_wp2
              go_still_tail 11, (by kernel_rfl)
              obtain ⟨W1, hW1⟩ : ∃ W1, W1 = wr.drew := ⟨_, rfl⟩
              have HB := Aside0.mk (show Below w.heap.size w W1 by rw [hW1]; exact below_drew1 HB.out)
              have HT := Aside0.mk (show Two W1 w.heap.size l.length A7 c7 gc Ah ch zs zs by rw [hW1]; exact HT.out.below (below_drew1 (Below.refl _ _)))
              change wpList _ _ _ _ _ wr.drew
              rw [← hW1]
              clear hW1 hxP hxB
              have hxP := pw_cell_below HB.out HP0.out
              have hxB := pw_cell_below HB.out HB0.out
              have HTO := Aside0.mk (tick_two_out HT.out q y HIN.out)
              have HRO := Aside0.mk (read_two_out HT.out q HIN.out)
              go_wp2_with (first
                | (go_at_call 8; (with_reducible refine HTO.out.mono ?_); rintro e w4 ⟨rfl, rfl⟩)
                | (go_at_call 9; (with_reducible refine HRO.out.mono ?_); rintro e w4 ⟨rfl, rfl⟩))
              go_roundg k1
              case measure => omega
              case rel => exact ⟨j + 1, by go_num, ⟨by have := HK.out; omega⟩, ⟨zs, HU2.out, HT.out⟩, HB⟩
            · have c6 : decide (q < 0) = false := decide_eq_false hneg
              have d7 : decide ((l.length : Int) ≤ q) = true := decide_eq_true (by omega)
              clear hin
              go_wp2
              go_still_tail 11, (by kernel_rfl)
              obtain ⟨W1, hW1⟩ : ∃ W1, W1 = wr.drew := ⟨_, rfl⟩
              have HB := Aside0.mk (show Below w.heap.size w W1 by rw [hW1]; exact below_drew1 HB.out)
              have HT := Aside0.mk (show Two W1 w.heap.size l.length A7 c7 gc Ah ch zs zs by rw [hW1]; exact HT.out.below (below_drew1 (Below.refl _ _)))
              change wpList _ _ _ _ _ wr.drew
              rw [← hW1]
              clear hW1 hxP hxB
              have hxP := pw_cell_below HB.out HP0.out
              have hxB := pw_cell_below HB.out HB0.out
              have HTO := Aside0.mk (tick_two_out HT.out q y HIN.out)
              have HRO := Aside0.mk (read_two_out HT.out q HIN.out)
              go_wp2_with (first
                | (go_at_call 8; (with_reducible refine HTO.out.mono ?_); rintro e w4 ⟨rfl, rfl⟩)
                | (go_at_call 9; (with_reducible refine HRO.out.mono ?_); rintro e w4 ⟨rfl, rfl⟩))
              go_roundg k1
              case measure => omega
              case rel => exact ⟨j + 1, by go_num, ⟨by have := HK.out; omega⟩, ⟨zs, HU2.out, HT.out⟩, HB⟩
        · have c5 : decide ((j : Int) < (ac.length : Int)) = false := decide_eq_false (by omega)
          obtain ⟨zs, hu, ht⟩ := HT.out
          have HU2 := Aside0.mk hu
          have HT := Aside0.mk ht
          have n1 := Aside0.mk ht.n1
          have HCL := Aside0.mk (hands_two ht hl)
          clear hu ht HK
          go_wp2_with (first
            | (go_at_call 10; (with_reducible refine HCL.out.mono ?_); clear HCL; rintro e w4 ⟨v, rfl, ho, hb⟩; obtain ⟨A4, c4_, e4, _⟩ := Ow.rd ho; rw [← n1.out] at e4; subst e4; have H74 := Aside0.mk (fresh_apart HT.out.now ho); have H4h := Aside0.mk (Apart.symm (fresh_apart HT.out.hands ho)); have HO4 := Aside0.mk (own_weaken ho HB.out.size); have HT := Aside0.mk (HT.out.below hb); have HB := Aside0.mk (below_step HB.out hb); clear ho hb)
            | (go_at_call 15; have HS := same_two HT.out HO4.out; (with_reducible refine HS.mono ?_); clear HS; rintro e w5 ⟨rfl, hd⟩; have hb := hd.below; have HT := Aside0.mk (HT.out.below hb); have HO4 := Aside0.mk (pw_own_below HO4.out hb); have HB := Aside0.mk (below_step HB.out hb); clear hd hb))
          go_loopg [15] l.length (fun kq v15 w' => ∃ i : Nat, v15 = .int .i64 (i : Int) ∧ Aside0 (i + kq = l.length) ∧ Aside0 (∃ z4 : List Int, l.length = z4.length ∧ Ow w' w.heap.size (.slice A4 l.length c4_) z4) ∧ Aside0 (Two w' w.heap.size l.length A7 c7 gc Ah ch zs zs) ∧ Aside0 (Below w.heap.size w w'))
          case atStart => exact ⟨0, rfl, ⟨by omega⟩, ⟨zs, n1.out, HO4.out⟩, HT, HB⟩
          case round =>
            clear HO4 HT HB hlt c5
            obtain ⟨i, rfl, HK, HO4, HT, HB⟩ := hrel
            by_cases hlt : i < l.length
            · have c5 : decide ((i : Int) < (l.length : Int)) = true := decide_eq_true (by omega)
              have p1 : (i : Int) < (l.length : Int) := by omega
              cases gk with
              | zero => exact absurd HK.out (by omega)
              | succ k1 =>
              obtain ⟨z4, hz, ho4⟩ := HO4.out
              obtain ⟨g4, e, e2, hb4, _, _⟩ := Ow.form ho4 (by omega)
              clear e2
              cases e
              obtain ⟨hx, hf⟩ := own_cell ho4 i (by omega)
              have HG := Aside0.mk hb4
              have HP := Aside0.mk (third ho4 HT.out H74.out H4h.out (by omega) i 5)
              have HZ := Aside0.mk (show l.length = (z4.set i 5).length by rw [List.length_set]; exact hz)
              clear hz ho4 hb4
              go_wp2
              clear hx hf
              go_roundg k1
              case measure => omega
              case rel => exact ⟨i + 1, by go_num, ⟨by have := HK.out; omega⟩, ⟨_, HZ.out, HP.out.1⟩, ⟨HP.out.2⟩, ⟨below_set HB.out HG.out⟩⟩
            · have c5 : decide ((i : Int) < (l.length : Int)) = false := decide_eq_false (by omega)
              clear HO4 H74 H4h HK
              have HCL := Aside0.mk (hands_two HT.out hl)
              have HL := Aside0.mk hl
              have x1 : (skew zs == skew zs) = true := by simp
              cases hd : decide (skew zs ≤ s)
              all_goals
                go_wp2_with (first
                  | (go_at_call 10; (with_reducible refine HCL.out.mono ?_); clear HCL; rintro e w4 ⟨v, rfl, ho, hb⟩; obtain ⟨A5, c5_, e5, _⟩ := Ow.rd ho; rw [← n1.out] at e5; subst e5; have HO5 := Aside0.mk ho; have HT := Aside0.mk (HT.out.below hb); have HB := Aside0.mk (below_step HB.out hb); clear ho hb)
                  | (go_at_call 15; have HS := same_two HT.out HO5.out; (with_reducible refine HS.mono ?_); clear HS; rintro e w5 ⟨rfl, hd⟩; have hb := hd.below; have HT := Aside0.mk (HT.out.below hb); have HB := Aside0.mk (below_step HB.out hb); clear hd hb)
                  | (go_at_call 11; have HS := skew_two HT.out HL.out HU2.out; (with_reducible refine HS.mono ?_); clear HS; rintro e w5 ⟨rfl, hb⟩; have HT := Aside0.mk (HT.out.below hb); have HB := Aside0.mk (below_step HB.out hb); clear hb)
                  | (go_at_call 12; have HS := within_two HT.out s HL.out HU2.out; (with_reducible refine HS.mono ?_); clear HS; rintro e w5 ⟨rfl, hb⟩; have HT := Aside0.mk (HT.out.below hb); have HB := Aside0.mk (below_step HB.out hb); clear hb)
                  | (go_at_call 18; have HS := rskew_two HT.out HU2.out; (with_reducible refine HS.mono ?_); clear HS; rintro e w5 ⟨rfl, hd⟩; have hb := hd.below; have HT := Aside0.mk (HT.out.below hb); have HB := Aside0.mk (below_step HB.out hb); clear hd hb)
                  | (go_at_call 13; (with_reducible refine (works_calls _).mono ?_); rintro e w6 ⟨rfl, hb⟩; have HB := Aside0.mk (below_step HB.out hb); clear hb))
                go_ret
                exact ⟨rfl, HB.out⟩

theorem plays_walk (A B : Option Addr) (cap bcap : Nat) (l : List Int) (ac : List (Int × Int)) (s : Int) (w : World) (hr : Rd w A l) (hu : U l) (ha : RdA w B ac) (hua : UA ac) :
    Calls Try.prog 5 #[.slice A l.length cap, .slice B ac.length bcap, .int .u64 s] w (Right w) := by
  by_cases h : 70 < l.length ∨ 60 < ac.length
  · exact plays_out A B cap bcap l.length ac.length s w hr.2.1 ha.1 h
  · exact plays_in A B cap bcap l ac s w hr hu ha hua (by omega) (by omega)

theorem plays_row (a0 : Option Addr) (len0 cap0 : Nat) (z0 : List Int) (a1 : Option Addr) (cap1 : Nat) (z1 : List (Int × Int)) (a2 : Int) (w : World)
    (w0 : (a0 = none ∧ len0 = 0 ∧ cap0 = 0 ∧ z0 = []) ∨ ∃ x, a0 = some x ∧ len0 ≤ cap0 ∧ cap0 ≤ maxLen ∧ z0.length = cap0 ∧ (∀ i, i < z0.length → w.cell? (x.add i) = some (.int .u64 (z0.getD i 0))) ∧ ∀ n ∈ z0, (Lit.int .u64 n).wf = true)
    (w1 : RdA w a1 z1) (f1 : UA z1) : Calls Try.prog 5 #[.slice a0 len0 cap0, .slice a1 z1.length cap1, .int .u64 a2] w (Right w) := by
  obtain ⟨l, rfl, hr, hu⟩ := open_row w0
  exact plays_walk a0 a1 cap0 cap1 l z1 a2 w hr hu w1 f1
end Go.Proofs.Ytonchomjddhciaa.Clk
