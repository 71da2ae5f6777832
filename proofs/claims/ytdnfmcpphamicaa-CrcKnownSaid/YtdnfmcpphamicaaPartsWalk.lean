/- CrcParts' walk: bytes that are parted anywhere have the same check, by Sum and by Update; for every slice that can be read. -/
import Derived.Test.YtdnfmcpphamicaaXorsWalk
namespace Go.Proofs.Ytdnfmcpphamicaa
open Go.RowKit Go.Proofs.YtdnfmcpphamicaaW.PrintWords Go.Proofs.YtdnfmcpphamicaaW.PrintLast Go.Proofs.YtdnfmcpphamicaaW.PrintMore
open Go.Proofs.Ytdnfmcpphamicaa.Crc Go.Proofs.Ytdnfmcpphamicaa.Pc

def PFact (A AN AM : Option Addr) (ca n m : Nat) (l : List Int) (i : Nat) (v : Value) (w_ : World) : Prop :=
  match i with
  | 0 => v = Value.slice A l.length ca
  | 1 => v = Value.int IntKind.i64 (n : Int)
  | 2 => v = Value.slice A n ca
  | 3 => v = Value.slice A l.length ca
  | 4 => v = Value.int IntKind.i64 (n : Int)
  | 5 => v = Value.int IntKind.i64 (m : Int)
  | 6 => v = Value.slice AN (m - n) (ca - n)
  | 7 => v = Value.slice A l.length ca
  | 8 => v = Value.int IntKind.i64 (m : Int)
  | 9 => v = Value.slice AM (l.length - m) (ca - m)
  | 10 => ∃ g : Nat, v = Value.slice (some ⟨g, 0, none⟩) 3 3 ∧ Kd.C (Kd.slice 5 (Kd.int .u8)) w_ (some ⟨g, 0, none⟩) [l.take n, (l.take m).drop n, l.drop m].length [l.take n, (l.take m).drop n, l.drop m]
  | 11 => v = Value.int IntKind.u32 (n32 (sum [l]))
  | 12 => v = Value.int IntKind.u32 (n32 (sum [l]))
  | 13 => v = Value.bool true
  | 14 => v = Value.bool true
  | 15 => v = Value.slice A l.length ca
  | 16 => v = Value.int IntKind.i64 (n : Int)
  | 17 => v = Value.slice A n ca
  | 18 => ∃ g : Nat, v = Value.slice (some ⟨g, 0, none⟩) 1 1 ∧ Kd.C (Kd.slice 5 (Kd.int .u8)) w_ (some ⟨g, 0, none⟩) [l.take n].length [l.take n]
  | 19 => v = Value.int IntKind.u32 (n32 (sum [l.take n]))
  | 20 => v = Value.slice A l.length ca
  | 21 => v = Value.int IntKind.i64 (n : Int)
  | 22 => v = Value.slice AN (l.length - n) (ca - n)
  | 23 => v = Value.int IntKind.u32 (n32 (sum [l]))
  | 24 => v = Value.int IntKind.u32 (n32 (sum [l]))
  | 25 => v = Value.bool true
  | 26 => v = Value.bool true
  | 27 => v = Value.bool true
  | 28 => v = Value.slice A l.length ca
  | 29 => v = Value.int IntKind.i64 (n : Int)
  | 30 => v = Value.slice A n ca
  | 31 => v = Value.int IntKind.u32 (n32 (upd 0#32 (l.take n)))
  | 32 => v = Value.slice A l.length ca
  | 33 => v = Value.int IntKind.i64 (n : Int)
  | 34 => v = Value.int IntKind.i64 (m : Int)
  | 35 => v = Value.slice AN (m - n) (ca - n)
  | 36 => v = Value.int IntKind.u32 (n32 (upd (upd 0#32 (l.take n)) ((l.take m).drop n)))
  | 37 => v = Value.slice A l.length ca
  | 38 => v = Value.int IntKind.i64 (m : Int)
  | 39 => v = Value.slice AM (l.length - m) (ca - m)
  | 40 => v = Value.int IntKind.u32 (n32 (sum [l]))
  | 41 => v = Value.int IntKind.u32 (n32 (sum [l]))
  | 42 => v = Value.bool true
  | 43 => v = Value.bool true
  | 44 => v = Value.bool true
  | 45 => v = Value.slice A l.length ca
  | 46 => ∃ (A : Option Addr) (c : Nat), v = Value.slice A 0 c ∧ Kd.C (Kd.int .u8) w_ A ([] : List Int).length []
  | 47 => ∃ g : Nat, v = Value.slice (some ⟨g, 0, none⟩) 3 3 ∧ Kd.C (Kd.slice 5 (Kd.int .u8)) w_ (some ⟨g, 0, none⟩) [[], l, []].length [[], l, []]
  | 48 => v = Value.int IntKind.u32 (n32 (sum [l]))
  | 49 => v = Value.int IntKind.u32 (n32 (sum [l]))
  | 50 => v = Value.bool true
  | 51 => v = Value.bool true
  | 52 => v = Value.bool true
  | 53 => v = Value.bool true
  | 54 => v = Value.bool true
  | 55 => v = Value.bool true
  | _ => True

theorem pfact_stable {A AN AM : Option Addr} {ca n m : Nat} {l : List Int} (j : Nat) (v : Value) (w1 w2 : World) (hb : Below w1.heap.size w1 w2) (h : PFact A AN AM ca n m l j v w1) : PFact A AN AM ca n m l j v w2 := by
  unfold PFact at h ⊢
  split at h <;> first | exact h | (obtain ⟨g, e, hC⟩ := h; exact ⟨g, e, Kd.C_below hC hb⟩) | (obtain ⟨A, c, e, hC⟩ := h; exact ⟨A, c, e, Kd.C_below hC hb⟩)

theorem parts_m (n len : Nat) (k : Int) (hn : n ≤ len) (hl : len ≤ 400) : ∃ m : Nat, wrap64 ((n : Int) + k % ((len : Int) - (n : Int) + 1)) = (m : Int) ∧ n ≤ m ∧ m ≤ len := by
  have h1 := Int.emod_nonneg k (show (len : Int) - (n : Int) + 1 ≠ 0 by omega)
  have h2 := Int.emod_lt_of_pos k (show 0 < (len : Int) - (n : Int) + 1 by omega)
  generalize k % ((len : Int) - (n : Int) + 1) = r at h1 h2 ⊢
  refine ⟨n + r.toNat, ?_, by omega, by omega⟩
  unfold wrap64
  omega

theorem parts_three (l : List Int) (n m : Nat) (h : n ≤ m) : l.take n ++ ((l.take m).drop n ++ l.drop m) = l := by
  have e : (l.take m).take n = l.take n := by rw [List.take_take, Nat.min_eq_left h]
  rw [← e, ← List.append_assoc, List.take_append_drop, List.take_append_drop]

theorem C_row3 {w : World} {g : Nat} {t : TypeId} {A B C : Option Addr} {n c m d k e : Nat} (p q r : List Int) (h : w.heap[g]? = some (.cells #[.slice A n c, .slice B m d, .slice C k e] t (0, 0))) (hn : n = p.length) (hm : m = q.length) (hk : k = r.length) (hc : p.length ≤ c) (hd : q.length ≤ d) (he : r.length ≤ e)
    (hp : Kd.C (Kd.int .u8) w A p.length p) (hq : Kd.C (Kd.int .u8) w B q.length q) (hr : Kd.C (Kd.int .u8) w C r.length r) :
    Kd.C (Kd.slice 5 (Kd.int .u8)) w (some ⟨g, 0, none⟩) [p, q, r].length [p, q, r] := by
  subst hn hm hk
  refine C_rows [p, q, r] h (by simp) (fun j x hj => ?_)
  match j, hj with
  | 0, hj => simp at hj; subst hj; exact ⟨A, c, rfl, hc, hp⟩
  | 1, hj => simp at hj; subst hj; exact ⟨B, d, rfl, hd, hq⟩
  | 2, hj => simp at hj; subst hj; exact ⟨C, e, rfl, he, hr⟩
  | j + 3, hj => simp at hj

theorem sum_rows3 {g : Nat} (p q r l : List Int) (he : sum [p, q, r] = sum [l]) (w : World) (h : Kd.C (Kd.slice 5 (Kd.int .u8)) w (some ⟨g, 0, none⟩) [p, q, r].length [p, q, r]) :
    Calls Try.prog 9 #[.slice (some ⟨g, 0, none⟩) 3 3] w fun e w' => e = .returned (.int .u32 (n32 (sum [l]))) ∧ Below w.heap.size w w' :=
  crc_Sum.calls (some ⟨g, 0, none⟩) 3 [p, q, r] _ w h (Nat.le_refl _) (by rw [← he]; rfl)

theorem upd_row {A : Option Addr} {n k : Nat} (c : BitVec 32) (l : List Int) (w : World) (hn : n = l.length) (hk : l.length ≤ k) (h : Kd.C (Kd.int .u8) w A l.length l) :
    Calls Try.prog 10 #[.int .u32 (n32 c), .slice A n k] w fun e w' => e = .returned (.int .u32 (n32 (upd c l))) ∧ Below w.heap.size w w' := by
  subst hn
  exact crc_Update.calls (n32 c) A k l _ w h hk (by unfold crc_Update.f; rw [of_n32])

theorem upd_row0 {A : Option Addr} {n k : Nat} (l : List Int) (w : World) (hn : n = l.length) (hk : l.length ≤ k) (h : Kd.C (Kd.int .u8) w A l.length l) :
    Calls Try.prog 10 #[.int .u32 0, .slice A n k] w fun e w' => e = .returned (.int .u32 (n32 (upd 0#32 l))) ∧ Below w.heap.size w w' := upd_row 0#32 l w hn hk h

set_option maxHeartbeats 1000000 in
set_option maxRecDepth 100000 in
theorem parts_walk (A : Option Addr) (ca : Nat) (l : List Int) (i_ k_ : Int) (w : World) (hr : Kd.C (Kd.int .u8) w A l.length l) (hc : l.length ≤ ca) (hi0 : 0 ≤ i_) (hi1 : i_ ≤ 65535) (hk0 : 0 ≤ k_) (hk1 : k_ ≤ 65535) :
    Calls Try.prog 5 #[.slice A l.length ca, .int .u16 i_, .int .u16 k_] w (Right w) := by
  have HR := Aside0.mk hr
  have HC := Aside0.mk hc
  have HW := Aside0.mk (Below.refl w.heap.size w)
  have hm := Kd.C_max hr
  clear hr hc
  by_cases h1 : 400 < l.length
  · have c2 : decide (400 < (l.length : Int)) = true := decide_eq_true (by omega)
    have c3 : decide (400 < l.length) = true := decide_eq_true h1
    go_enter Try.func5, Try.ntmps5
    go_wp2_with (go_at_call 8; (with_reducible refine (chartroomlaw02_works.calls true _ rfl).mono ?_); rintro e w1 ⟨rfl, hb⟩; have HW := Aside0.mk (below_step HW.out hb); clear hb)
    go_ret
    exact ⟨rfl, HW.out⟩
  · have c2 : decide (400 < (l.length : Int)) = false := decide_eq_false (by omega)
    have c3 : decide (400 < l.length) = false := decide_eq_false h1
    have p2 : l.length ≤ 400 := by omega
    clear h1
    go_enter Try.func5, Try.ntmps5
    go_upto_region 4 with (fail)
    obtain ⟨n, hn⟩ : ∃ n : Nat, i_ % ((l.length : Int) + 1) = (n : Int) := ⟨(i_ % ((l.length : Int) + 1)).toNat, (Int.toNat_of_nonneg (Int.emod_nonneg _ (by omega))).symm⟩
    have hnl : n ≤ l.length := by have := Int.emod_lt_of_pos i_ (show 0 < (l.length : Int) + 1 by omega); omega
    rw [hn]
    clear hn
    go_upto_region 5 with (fail)
    obtain ⟨m, hmm⟩ : ∃ m : Nat, wrap64 ((n : Int) + k_ % ((l.length : Int) - (n : Int) + 1)) = (m : Int) ∧ n ≤ m ∧ m ≤ l.length := parts_m n l.length k_ hnl p2
    obtain ⟨hm1, hnm, hml⟩ := hmm
    rw [hm1]
    clear hm1
    go_wp2_with (first
      | ((with_reducible refine gate_dst (N := 31) rfl ?_); refine lit_event rfl (N := 31) rfl _ _ _ (build_run 31 22 1 #[Value.slice A l.length ca] info22 Try.underlying31 _ rfl (by omega) (by omega) _ (fill1 _ _ _) (by go_simp)) ?_; intro g0 _ w1 hbox hb; have H0 := Aside0.mk hbox; have HW := Aside0.mk (below_step HW.out hb); clear hbox hb)
      | (go_at_call 9; have HS := sum_one l (n32 (sum [l])) _ H0.out rfl HC.out (Kd.C_below HR.out HW.out) rfl; (with_reducible refine HS.mono ?_); clear HS; rintro e w2 ⟨rfl, hb⟩; have HW := Aside0.mk (below_step HW.out hb); clear hb))
    have HLP := Aside0.mk (show (l.take n).length = n by rw [List.length_take]; omega)
    have HLM := Aside0.mk (show ((l.take m).drop n).length = m - n by rw [List.length_drop, List.length_take]; omega)
    have HLT := Aside0.mk (show (l.drop m).length = l.length - m from List.length_drop)
    have HLR := Aside0.mk (show (l.drop n).length = l.length - n from List.length_drop)
    have hca := HC.out
    obtain ⟨AN, hAN⟩ : ∃ X, X = (if ca = n then A else A.map (·.add (n * 1))) := ⟨_, rfl⟩
    obtain ⟨AM, hAM⟩ : ∃ X, X = (if ca = m then A else A.map (·.add (m * 1))) := ⟨_, rfl⟩
    obtain ⟨i5, hi5, hz5⟩ := Option.map_eq_some_iff.1 info5
    simp only [Prod.mk.injEq] at hz5
    have KP := Aside0.mk (cut_to (P := Try.prog) 22 5 .i64 Try.underlying22 hi5 A l.length ca (n : Int) (by omega) (by omega) hca)
    have KM := Aside0.mk (show ∀ W : World, (Instr.slice 22 (.slice A l.length ca) (some (.int .i64 (n : Int))) (some (.int .i64 (m : Int))) none).run Try.prog W = .ok (.slice AN (m - n) (ca - n)) W by rw [hAN]; exact cut_mid (P := Try.prog) 22 5 .i64 .i64 Try.underlying22 hi5 1 hz5.2.1 A l.length ca (n : Int) (m : Int) (by omega) (by omega) (by omega) hca)
    have KT := Aside0.mk (show ∀ W : World, (Instr.slice 22 (.slice A l.length ca) (some (.int .i64 (m : Int))) none none).run Try.prog W = .ok (.slice AM (l.length - m) (ca - m)) W by rw [hAM]; exact cut_from (P := Try.prog) 22 5 .i64 Try.underlying22 hi5 1 hz5.2.1 A l.length ca (m : Int) (by omega) (by omega))
    have KR := Aside0.mk (show ∀ W : World, (Instr.slice 22 (.slice A l.length ca) (some (.int .i64 (n : Int))) none none).run Try.prog W = .ok (.slice AN (l.length - n) (ca - n)) W by rw [hAN]; exact cut_from (P := Try.prog) 22 5 .i64 Try.underlying22 hi5 1 hz5.2.1 A l.length ca (n : Int) (by omega) (by omega))
    have HCP := Aside0.mk (Kd.C_take HR.out hnl)
    have HCM := Aside0.mk (show Kd.C (Kd.int .u8) w AN ((l.take m).drop n).length ((l.take m).drop n) by rw [hAN]; exact Kd.C_mid HR.out hnm hml hca)
    have HCT := Aside0.mk (show Kd.C (Kd.int .u8) w AM (l.drop m).length (l.drop m) by rw [hAM]; exact Kd.C_drop HR.out hml hca)
    have HCR := Aside0.mk (show Kd.C (Kd.int .u8) w AN (l.drop n).length (l.drop n) by rw [hAN]; exact Kd.C_drop HR.out hnl hca)
    have HPT := Aside0.mk (parts_three l n m hnm)
    have HE3 := Aside0.mk (show sum [l.take n, (l.take m).drop n, l.drop m] = sum [l] by rw [sum_three, HPT.out])
    have HER := Aside0.mk (show upd (sum [l.take n]) (l.drop n) = sum [l] by rw [upd_sum, List.take_append_drop])
    have HEU := Aside0.mk (show upd (upd (upd 0#32 (l.take n)) ((l.take m).drop n)) (l.drop m) = sum [l] by rw [upd_upd_upd, HPT.out])
    have HEE := Aside0.mk (sum_around l)
    clear hi5 hz5 hAN hAM hca
    refine Reg.region (fr := (fun x : Nat → Value => (⟨#[Value.slice A l.length ca, Value.int IntKind.u16 i_, Value.int IntKind.u16 k_, undef, undef, undef, x 6, Value.int IntKind.i64 ↑n, Value.int IntKind.i64 ↑m, Value.int IntKind.u32 (n32 (sum [l])), Value.slice A l.length ca, Value.int IntKind.i64 ↑l.length, Value.bool false, undef, Value.int IntKind.u16 i_, Value.int IntKind.i64 i_, Value.slice A l.length ca, Value.int IntKind.i64 ↑l.length, Value.int IntKind.i64 (↑l.length + 1), Value.int IntKind.i64 ↑n, Value.int IntKind.i64 ↑n, Value.int IntKind.u16 k_, Value.int IntKind.i64 k_, Value.slice A l.length ca, Value.int IntKind.i64 ↑l.length, Value.int IntKind.i64 ↑n, Value.int IntKind.i64 (↑l.length - ↑n), Value.int IntKind.i64 (↑l.length - ↑n + 1), Value.int IntKind.i64 (k_ % (↑l.length - ↑n + 1)), Value.int IntKind.i64 ↑m, Value.slice A l.length ca, Value.slice (some ⟨g0, 0, none⟩) 1 1, Value.int IntKind.u32 (n32 (sum [l])), x 33, x 34, x 35, x 36, x 37, x 38, x 39, x 40, x 41, x 42, x 43, x 44, x 45, x 46, x 47, x 48, x 49, x 50, x 51, x 52, x 53, x 54, x 55, x 56, x 57, x 58, x 59, x 60, x 61, x 62, x 63, x 64, x 65, x 66, x 67, x 68, x 69, x 70, x 71, x 72, x 73, x 74, x 75, x 76, x 77, x 78, x 79, x 80, x 81, x 82, x 83, x 84, x 85, x 86, x 87], []⟩ : Act))) (dst := fun i => if i < 55 then 33 + i else 6) (fun w' => Below w.heap.size w w') (PFact A AN AM ca n m l) (fun s => if s = 6 then .bool false else undef) rfl (by kernel_rfl) (by kernel_rfl) ?inj ?stable ?inv ?step ?fin
    case inj =>
      intro i j hi hj h
      have hi2 : i < 56 := hi
      have hj2 : j < 56 := hj
      have h' : (if i < 55 then 33 + i else 6) = (if j < 55 then 33 + j else 6) := h
      split at h' <;> split at h' <;> omega
    case stable => exact fun j v w1 w2 hb h => pfact_stable j v w1 w2 hb h
    case inv => exact below_drew1 HW.out
    case fin =>
      intro x w' hG hF
      have h6 : x 6 = Value.bool true := hF 55 (by decide)
      have hB : Below w.heap.size w w' := hG
      dsimp only []
      go_wp2
      go_ret
      exact ⟨congrArg Ending.returned h6, hB⟩
    case step =>
      clear HW
      intro i hi
      have hi2 : i < 56 := hi
      have hi3 : i = 0 ∨ i = 1 ∨ i = 2 ∨ i = 3 ∨ i = 4 ∨ i = 5 ∨ i = 6 ∨ i = 7 ∨ i = 8 ∨ i = 9 ∨ i = 10 ∨ i = 11 ∨ i = 12 ∨ i = 13 ∨ i = 14 ∨ i = 15 ∨ i = 16 ∨ i = 17 ∨ i = 18 ∨ i = 19 ∨ i = 20 ∨ i = 21 ∨ i = 22 ∨ i = 23 ∨ i = 24 ∨ i = 25 ∨ i = 26 ∨ i = 27 ∨ i = 28 ∨ i = 29 ∨ i = 30 ∨ i = 31 ∨ i = 32 ∨ i = 33 ∨ i = 34 ∨ i = 35 ∨ i = 36 ∨ i = 37 ∨ i = 38 ∨ i = 39 ∨ i = 40 ∨ i = 41 ∨ i = 42 ∨ i = 43 ∨ i = 44 ∨ i = 45 ∨ i = 46 ∨ i = 47 ∨ i = 48 ∨ i = 49 ∨ i = 50 ∨ i = 51 ∨ i = 52 ∨ i = 53 ∨ i = 54 ∨ i = 55 := by omega
      clear hi hi2
      rcases hi3 with rfl | rfl | rfl | rfl | rfl | rfl | rfl | rfl | rfl | rfl | rfl | rfl | rfl | rfl | rfl | rfl | rfl | rfl | rfl | rfl | rfl | rfl | rfl | rfl | rfl | rfl | rfl | rfl | rfl | rfl | rfl | rfl | rfl | rfl | rfl | rfl | rfl | rfl | rfl | rfl | rfl | rfl | rfl | rfl | rfl | rfl | rfl | rfl | rfl | rfl | rfl | rfl | rfl | rfl | rfl | rfl
      · intro o ho x w' hG hd
        injection ho with ho
        subst ho
        have hB : Below w.heap.size w w' := hG
        dsimp only []
        go_wp2
        exact ⟨_, (by simp [Reg.upd]), hB, Below.refl _ _, rfl⟩
      · intro o ho x w' hG hd
        injection ho with ho
        subst ho
        have hB : Below w.heap.size w w' := hG
        dsimp only []
        go_wp2
        exact ⟨_, (by simp [Reg.upd]), hB, Below.refl _ _, rfl⟩
      · intro o ho x w' hG hd
        injection ho with ho
        subst ho
        have hB : Below w.heap.size w w' := hG
        have h0 : x 33 = Value.slice A l.length ca := hd 0 rfl
        have h1 : x 34 = Value.int IntKind.i64 (n : Int) := hd 1 rfl
        dsimp only []
        have k1 := KP.out
        go_wp2
        exact ⟨_, (by simp [Reg.upd, h0, h1]), hB, Below.refl _ _, rfl⟩
      · intro o ho x w' hG hd
        injection ho with ho
        subst ho
        have hB : Below w.heap.size w w' := hG
        dsimp only []
        go_wp2
        exact ⟨_, (by simp [Reg.upd]), hB, Below.refl _ _, rfl⟩
      · intro o ho x w' hG hd
        injection ho with ho
        subst ho
        have hB : Below w.heap.size w w' := hG
        dsimp only []
        go_wp2
        exact ⟨_, (by simp [Reg.upd]), hB, Below.refl _ _, rfl⟩
      · intro o ho x w' hG hd
        injection ho with ho
        subst ho
        have hB : Below w.heap.size w w' := hG
        dsimp only []
        go_wp2
        exact ⟨_, (by simp [Reg.upd]), hB, Below.refl _ _, rfl⟩
      · intro o ho x w' hG hd
        injection ho with ho
        subst ho
        have hB : Below w.heap.size w w' := hG
        have h3 : x 36 = Value.slice A l.length ca := hd 3 rfl
        have h4 : x 37 = Value.int IntKind.i64 (n : Int) := hd 4 rfl
        have h5 : x 38 = Value.int IntKind.i64 (m : Int) := hd 5 rfl
        dsimp only []
        have k1 := KM.out
        go_wp2
        exact ⟨_, (by simp [Reg.upd, h3, h4, h5]), hB, Below.refl _ _, rfl⟩
      · intro o ho x w' hG hd
        injection ho with ho
        subst ho
        have hB : Below w.heap.size w w' := hG
        dsimp only []
        go_wp2
        exact ⟨_, (by simp [Reg.upd]), hB, Below.refl _ _, rfl⟩
      · intro o ho x w' hG hd
        injection ho with ho
        subst ho
        have hB : Below w.heap.size w w' := hG
        dsimp only []
        go_wp2
        exact ⟨_, (by simp [Reg.upd]), hB, Below.refl _ _, rfl⟩
      · intro o ho x w' hG hd
        injection ho with ho
        subst ho
        have hB : Below w.heap.size w w' := hG
        have h7 : x 40 = Value.slice A l.length ca := hd 7 rfl
        have h8 : x 41 = Value.int IntKind.i64 (m : Int) := hd 8 rfl
        dsimp only []
        have k1 := KT.out
        go_wp2
        exact ⟨_, (by simp [Reg.upd, h7, h8]), hB, Below.refl _ _, rfl⟩
      · intro o ho x w' hG hd
        injection ho with ho
        subst ho
        have hB : Below w.heap.size w w' := hG
        have h2 : x 35 = Value.slice A n ca := hd 2 rfl
        have h6 : x 39 = Value.slice AN (m - n) (ca - n) := hd 6 rfl
        have h9 : x 42 = Value.slice AM (l.length - m) (ca - m) := hd 9 rfl
        dsimp only []
        go_wp2_with ((with_reducible refine gate_dst (N := 43) rfl ?_); refine lit_event rfl (N := 43) rfl _ _ _ (build_run 31 22 3 #[Value.slice A n ca, Value.slice AN (m - n) (ca - n), Value.slice AM (l.length - m) (ca - m)] info22 Try.underlying31 _ rfl (by omega) (by omega) _ (fill3 _ _ _ _ _ _ _ _ _) (by go_simp)) ?_; intro g _ w1 hbox hb)
        exact ⟨_, (by simp [Reg.upd, h2, h6, h9]), below_step hB hb, hb, g, rfl, C_row3 (l.take n) ((l.take m).drop n) (l.drop m) hbox HLP.out.symm HLM.out.symm HLT.out.symm (by have := HC.out; rw [HLP.out]; omega) (by have := HC.out; rw [HLM.out]; omega) (by have := HC.out; rw [HLT.out]; omega) (Kd.C_below HCP.out (below_step hB hb)) (Kd.C_below HCM.out (below_step hB hb)) (Kd.C_below HCT.out (below_step hB hb))⟩
      · intro o ho x w' hG hd
        injection ho with ho
        subst ho
        have hB : Below w.heap.size w w' := hG
        have h10 : ∃ g : Nat, x 43 = Value.slice (some ⟨g, 0, none⟩) 3 3 ∧ Kd.C (Kd.slice 5 (Kd.int .u8)) w' (some ⟨g, 0, none⟩) [l.take n, (l.take m).drop n, l.drop m].length [l.take n, (l.take m).drop n, l.drop m] := hd 10 rfl
        dsimp only []
        obtain ⟨g, e, hC⟩ := h10
        go_wp2_with (go_at_call 9; (with_reducible refine (sum_rows3 (l.take n) ((l.take m).drop n) (l.drop m) l HE3.out _ hC).mono ?_); rintro e1 w1 ⟨rfl, hb⟩)
        exact ⟨_, (by simp [Reg.upd, e]), below_step hB hb, hb, rfl⟩
      · intro o ho x w' hG hd
        injection ho with ho
        subst ho
        have hB : Below w.heap.size w w' := hG
        dsimp only []
        go_wp2
        exact ⟨_, (by simp [Reg.upd]), hB, Below.refl _ _, rfl⟩
      · intro o ho x w' hG hd
        injection ho with ho
        subst ho
        have hB : Below w.heap.size w w' := hG
        have h11 : x 44 = Value.int IntKind.u32 (n32 (sum [l])) := hd 11 rfl
        have h12 : x 45 = Value.int IntKind.u32 (n32 (sum [l])) := hd 12 rfl
        dsimp only []
        go_wp2
        exact ⟨_, (by simp [Reg.upd, h11, h12]), hB, Below.refl _ _, rfl⟩
      · intro o ho x w' hG hd
        injection ho with ho
        subst ho
        have hB : Below w.heap.size w w' := hG
        have h13 : x 46 = Value.bool true := hd 13 rfl
        dsimp only []
        go_wp2
        exact ⟨_, (by simp [Reg.upd, h13]), hB, Below.refl _ _, rfl⟩
      · intro o ho x w' hG hd
        injection ho with ho
        subst ho
        have hB : Below w.heap.size w w' := hG
        have h14 : x 47 = Value.bool true := hd 14 rfl
        dsimp only []
        go_wp2
        exact ⟨_, (by simp [Reg.upd, h14]), hB, Below.refl _ _, rfl⟩
      · intro o ho x w' hG hd
        injection ho with ho
        subst ho
        have hB : Below w.heap.size w w' := hG
        have h14 : x 47 = Value.bool true := hd 14 rfl
        dsimp only []
        go_wp2
        exact ⟨_, (by simp [Reg.upd, h14]), hB, Below.refl _ _, rfl⟩
      · intro o ho x w' hG hd
        injection ho with ho
        subst ho
        have hB : Below w.heap.size w w' := hG
        have h15 : x 48 = Value.slice A l.length ca := hd 15 rfl
        have h16 : x 49 = Value.int IntKind.i64 (n : Int) := hd 16 rfl
        have h14 : x 47 = Value.bool true := hd 14 rfl
        dsimp only []
        have k1 := KP.out
        go_wp2
        exact ⟨_, (by simp [Reg.upd, h15, h16, h14]), hB, Below.refl _ _, rfl⟩
      · intro o ho x w' hG hd
        injection ho with ho
        subst ho
        have hB : Below w.heap.size w w' := hG
        have h17 : x 50 = Value.slice A n ca := hd 17 rfl
        have h14 : x 47 = Value.bool true := hd 14 rfl
        dsimp only []
        go_wp2_with ((with_reducible refine gate_dst (N := 51) rfl ?_); refine lit_event_g (N := 51) rfl (by go_simp) _ _ _ (build_run 31 22 1 #[Value.slice A n ca] info22 Try.underlying31 _ rfl (by omega) (by omega) _ (fill1 _ _ _) (by go_simp)) ?_; intro g _ w1 hbox hb)
        exact ⟨_, (by simp [Reg.upd, h17, h14]), below_step hB hb, hb, g, rfl, C_row1 (l.take n) hbox HLP.out.symm (by have := HC.out; rw [HLP.out]; omega) (Kd.C_below HCP.out (below_step hB hb))⟩
      · intro o ho x w' hG hd
        injection ho with ho
        subst ho
        have hB : Below w.heap.size w w' := hG
        have h18 : ∃ g : Nat, x 51 = Value.slice (some ⟨g, 0, none⟩) 1 1 ∧ Kd.C (Kd.slice 5 (Kd.int .u8)) w' (some ⟨g, 0, none⟩) [l.take n].length [l.take n] := hd 18 rfl
        have h14 : x 47 = Value.bool true := hd 14 rfl
        dsimp only []
        obtain ⟨g, e, hC⟩ := h18
        go_wp2_with (go_at_call 9; (with_reducible refine (sum_rows (l.take n) _ hC).mono ?_); rintro e1 w1 ⟨rfl, hb⟩)
        exact ⟨_, (by simp [Reg.upd, h14, e]), below_step hB hb, hb, rfl⟩
      · intro o ho x w' hG hd
        injection ho with ho
        subst ho
        have hB : Below w.heap.size w w' := hG
        have h14 : x 47 = Value.bool true := hd 14 rfl
        dsimp only []
        go_wp2
        exact ⟨_, (by simp [Reg.upd, h14]), hB, Below.refl _ _, rfl⟩
      · intro o ho x w' hG hd
        injection ho with ho
        subst ho
        have hB : Below w.heap.size w w' := hG
        have h14 : x 47 = Value.bool true := hd 14 rfl
        dsimp only []
        go_wp2
        exact ⟨_, (by simp [Reg.upd, h14]), hB, Below.refl _ _, rfl⟩
      · intro o ho x w' hG hd
        injection ho with ho
        subst ho
        have hB : Below w.heap.size w w' := hG
        have h20 : x 53 = Value.slice A l.length ca := hd 20 rfl
        have h21 : x 54 = Value.int IntKind.i64 (n : Int) := hd 21 rfl
        have h14 : x 47 = Value.bool true := hd 14 rfl
        dsimp only []
        have k1 := KR.out
        go_wp2
        exact ⟨_, (by simp [Reg.upd, h20, h21, h14]), hB, Below.refl _ _, rfl⟩
      · intro o ho x w' hG hd
        injection ho with ho
        subst ho
        have hB : Below w.heap.size w w' := hG
        have h19 : x 52 = Value.int IntKind.u32 (n32 (sum [l.take n])) := hd 19 rfl
        have h22 : x 55 = Value.slice AN (l.length - n) (ca - n) := hd 22 rfl
        have h14 : x 47 = Value.bool true := hd 14 rfl
        dsimp only []
        go_wp2_with (go_at_call 10; have HS := upd_row (k := ca - n) (sum [l.take n]) (l.drop n) w' HLR.out.symm (by have := HC.out; rw [HLR.out]; omega) (Kd.C_below HCR.out hB); (with_reducible refine HS.mono ?_); clear HS; rintro e1 w1 ⟨rfl, hb⟩)
        exact ⟨Value.int IntKind.u32 (n32 (upd (sum [l.take n]) (l.drop n))), (by simp [Reg.upd, h19, h22, h14]), below_step hB hb, hb, congrArg (fun c => Value.int IntKind.u32 (n32 c)) HER.out⟩
      · intro o ho x w' hG hd
        injection ho with ho
        subst ho
        have hB : Below w.heap.size w w' := hG
        have h14 : x 47 = Value.bool true := hd 14 rfl
        dsimp only []
        go_wp2
        exact ⟨_, (by simp [Reg.upd, h14]), hB, Below.refl _ _, rfl⟩
      · intro o ho x w' hG hd
        injection ho with ho
        subst ho
        have hB : Below w.heap.size w w' := hG
        have h23 : x 56 = Value.int IntKind.u32 (n32 (sum [l])) := hd 23 rfl
        have h24 : x 57 = Value.int IntKind.u32 (n32 (sum [l])) := hd 24 rfl
        have h14 : x 47 = Value.bool true := hd 14 rfl
        dsimp only []
        go_wp2
        exact ⟨_, (by simp [Reg.upd, h23, h24, h14]), hB, Below.refl _ _, rfl⟩
      · intro o ho x w' hG hd
        injection ho with ho
        subst ho
        have hB : Below w.heap.size w w' := hG
        have h14 : x 47 = Value.bool true := hd 14 rfl
        have h25 : x 58 = Value.bool true := hd 25 rfl
        dsimp only []
        go_wp2
        exact ⟨_, (by simp [Reg.upd, h14, h25]), hB, Below.refl _ _, rfl⟩
      · intro o ho x w' hG hd
        injection ho with ho
        subst ho
        have hB : Below w.heap.size w w' := hG
        have h26 : x 59 = Value.bool true := hd 26 rfl
        dsimp only []
        go_wp2
        exact ⟨_, (by simp [Reg.upd, h26]), hB, Below.refl _ _, rfl⟩
      · intro o ho x w' hG hd
        injection ho with ho
        subst ho
        have hB : Below w.heap.size w w' := hG
        have h27 : x 60 = Value.bool true := hd 27 rfl
        dsimp only []
        go_wp2
        exact ⟨_, (by simp [Reg.upd, h27]), hB, Below.refl _ _, rfl⟩
      · intro o ho x w' hG hd
        injection ho with ho
        subst ho
        have hB : Below w.heap.size w w' := hG
        have h27 : x 60 = Value.bool true := hd 27 rfl
        dsimp only []
        go_wp2
        exact ⟨_, (by simp [Reg.upd, h27]), hB, Below.refl _ _, rfl⟩
      · intro o ho x w' hG hd
        injection ho with ho
        subst ho
        have hB : Below w.heap.size w w' := hG
        have h28 : x 61 = Value.slice A l.length ca := hd 28 rfl
        have h29 : x 62 = Value.int IntKind.i64 (n : Int) := hd 29 rfl
        have h27 : x 60 = Value.bool true := hd 27 rfl
        dsimp only []
        have k1 := KP.out
        go_wp2
        exact ⟨_, (by simp [Reg.upd, h28, h29, h27]), hB, Below.refl _ _, rfl⟩
      · intro o ho x w' hG hd
        injection ho with ho
        subst ho
        have hB : Below w.heap.size w w' := hG
        have h30 : x 63 = Value.slice A n ca := hd 30 rfl
        have h27 : x 60 = Value.bool true := hd 27 rfl
        dsimp only []
        go_wp2_with (go_at_call 10; have HS := upd_row0 (k := ca) (l.take n) w' HLP.out.symm (by have := HC.out; rw [HLP.out]; omega) (Kd.C_below HCP.out hB); (with_reducible refine HS.mono ?_); clear HS; rintro e1 w1 ⟨rfl, hb⟩)
        exact ⟨Value.int IntKind.u32 (n32 (upd 0#32 (l.take n))), (by simp [Reg.upd, h30, h27]), below_step hB hb, hb, rfl⟩
      · intro o ho x w' hG hd
        injection ho with ho
        subst ho
        have hB : Below w.heap.size w w' := hG
        have h27 : x 60 = Value.bool true := hd 27 rfl
        dsimp only []
        go_wp2
        exact ⟨_, (by simp [Reg.upd, h27]), hB, Below.refl _ _, rfl⟩
      · intro o ho x w' hG hd
        injection ho with ho
        subst ho
        have hB : Below w.heap.size w w' := hG
        have h27 : x 60 = Value.bool true := hd 27 rfl
        dsimp only []
        go_wp2
        exact ⟨_, (by simp [Reg.upd, h27]), hB, Below.refl _ _, rfl⟩
      · intro o ho x w' hG hd
        injection ho with ho
        subst ho
        have hB : Below w.heap.size w w' := hG
        have h27 : x 60 = Value.bool true := hd 27 rfl
        dsimp only []
        go_wp2
        exact ⟨_, (by simp [Reg.upd, h27]), hB, Below.refl _ _, rfl⟩
      · intro o ho x w' hG hd
        injection ho with ho
        subst ho
        have hB : Below w.heap.size w w' := hG
        have h32 : x 65 = Value.slice A l.length ca := hd 32 rfl
        have h33 : x 66 = Value.int IntKind.i64 (n : Int) := hd 33 rfl
        have h34 : x 67 = Value.int IntKind.i64 (m : Int) := hd 34 rfl
        have h27 : x 60 = Value.bool true := hd 27 rfl
        dsimp only []
        have k1 := KM.out
        go_wp2
        exact ⟨_, (by simp [Reg.upd, h32, h33, h34, h27]), hB, Below.refl _ _, rfl⟩
      · intro o ho x w' hG hd
        injection ho with ho
        subst ho
        have hB : Below w.heap.size w w' := hG
        have h31 : x 64 = Value.int IntKind.u32 (n32 (upd 0#32 (l.take n))) := hd 31 rfl
        have h35 : x 68 = Value.slice AN (m - n) (ca - n) := hd 35 rfl
        have h27 : x 60 = Value.bool true := hd 27 rfl
        dsimp only []
        go_wp2_with (go_at_call 10; have HS := upd_row (k := ca - n) (upd 0#32 (l.take n)) ((l.take m).drop n) w' HLM.out.symm (by have := HC.out; rw [HLM.out]; omega) (Kd.C_below HCM.out hB); (with_reducible refine HS.mono ?_); clear HS; rintro e1 w1 ⟨rfl, hb⟩)
        exact ⟨Value.int IntKind.u32 (n32 (upd (upd 0#32 (l.take n)) ((l.take m).drop n))), (by simp [Reg.upd, h31, h35, h27]), below_step hB hb, hb, rfl⟩
      · intro o ho x w' hG hd
        injection ho with ho
        subst ho
        have hB : Below w.heap.size w w' := hG
        have h27 : x 60 = Value.bool true := hd 27 rfl
        dsimp only []
        go_wp2
        exact ⟨_, (by simp [Reg.upd, h27]), hB, Below.refl _ _, rfl⟩
      · intro o ho x w' hG hd
        injection ho with ho
        subst ho
        have hB : Below w.heap.size w w' := hG
        have h27 : x 60 = Value.bool true := hd 27 rfl
        dsimp only []
        go_wp2
        exact ⟨_, (by simp [Reg.upd, h27]), hB, Below.refl _ _, rfl⟩
      · intro o ho x w' hG hd
        injection ho with ho
        subst ho
        have hB : Below w.heap.size w w' := hG
        have h37 : x 70 = Value.slice A l.length ca := hd 37 rfl
        have h38 : x 71 = Value.int IntKind.i64 (m : Int) := hd 38 rfl
        have h27 : x 60 = Value.bool true := hd 27 rfl
        dsimp only []
        have k1 := KT.out
        go_wp2
        exact ⟨_, (by simp [Reg.upd, h37, h38, h27]), hB, Below.refl _ _, rfl⟩
      · intro o ho x w' hG hd
        injection ho with ho
        subst ho
        have hB : Below w.heap.size w w' := hG
        have h36 : x 69 = Value.int IntKind.u32 (n32 (upd (upd 0#32 (l.take n)) ((l.take m).drop n))) := hd 36 rfl
        have h39 : x 72 = Value.slice AM (l.length - m) (ca - m) := hd 39 rfl
        have h27 : x 60 = Value.bool true := hd 27 rfl
        dsimp only []
        go_wp2_with (go_at_call 10; have HS := upd_row (k := ca - m) (upd (upd 0#32 (l.take n)) ((l.take m).drop n)) (l.drop m) w' HLT.out.symm (by have := HC.out; rw [HLT.out]; omega) (Kd.C_below HCT.out hB); (with_reducible refine HS.mono ?_); clear HS; rintro e1 w1 ⟨rfl, hb⟩)
        exact ⟨Value.int IntKind.u32 (n32 (upd (upd (upd 0#32 (l.take n)) ((l.take m).drop n)) (l.drop m))), (by simp [Reg.upd, h36, h39, h27]), below_step hB hb, hb, congrArg (fun c => Value.int IntKind.u32 (n32 c)) HEU.out⟩
      · intro o ho x w' hG hd
        injection ho with ho
        subst ho
        have hB : Below w.heap.size w w' := hG
        have h27 : x 60 = Value.bool true := hd 27 rfl
        dsimp only []
        go_wp2
        exact ⟨_, (by simp [Reg.upd, h27]), hB, Below.refl _ _, rfl⟩
      · intro o ho x w' hG hd
        injection ho with ho
        subst ho
        have hB : Below w.heap.size w w' := hG
        have h40 : x 73 = Value.int IntKind.u32 (n32 (sum [l])) := hd 40 rfl
        have h41 : x 74 = Value.int IntKind.u32 (n32 (sum [l])) := hd 41 rfl
        have h27 : x 60 = Value.bool true := hd 27 rfl
        dsimp only []
        go_wp2
        exact ⟨_, (by simp [Reg.upd, h40, h41, h27]), hB, Below.refl _ _, rfl⟩
      · intro o ho x w' hG hd
        injection ho with ho
        subst ho
        have hB : Below w.heap.size w w' := hG
        have h27 : x 60 = Value.bool true := hd 27 rfl
        have h42 : x 75 = Value.bool true := hd 42 rfl
        dsimp only []
        go_wp2
        exact ⟨_, (by simp [Reg.upd, h27, h42]), hB, Below.refl _ _, rfl⟩
      · intro o ho x w' hG hd
        injection ho with ho
        subst ho
        have hB : Below w.heap.size w w' := hG
        have h43 : x 76 = Value.bool true := hd 43 rfl
        dsimp only []
        go_wp2
        exact ⟨_, (by simp [Reg.upd, h43]), hB, Below.refl _ _, rfl⟩
      · intro o ho x w' hG hd
        injection ho with ho
        subst ho
        have hB : Below w.heap.size w w' := hG
        have h44 : x 77 = Value.bool true := hd 44 rfl
        dsimp only []
        go_wp2
        exact ⟨_, (by simp [Reg.upd, h44]), hB, Below.refl _ _, rfl⟩
      · intro o ho x w' hG hd
        injection ho with ho
        subst ho
        have hB : Below w.heap.size w w' := hG
        have h44 : x 77 = Value.bool true := hd 44 rfl
        dsimp only []
        go_wp2
        exact ⟨.slice (some ⟨w'.heap.size, 0, none⟩) 0 0, (by simp [Reg.upd, h44]), below_alloc hB _, below_alloc (Below.refl _ _) _, _, 0, rfl, ⟨rfl, by simp, fun h => absurd h (by simp)⟩⟩
      · intro o ho x w' hG hd
        injection ho with ho
        subst ho
        have hB : Below w.heap.size w w' := hG
        have h45 : x 78 = Value.slice A l.length ca := hd 45 rfl
        have h46 : ∃ (A : Option Addr) (c : Nat), x 79 = Value.slice A 0 c ∧ Kd.C (Kd.int .u8) w' A ([] : List Int).length [] := hd 46 rfl
        have h44 : x 77 = Value.bool true := hd 44 rfl
        dsimp only []
        obtain ⟨E, ce, e46, hE⟩ := h46
        go_wp2_with ((with_reducible refine gate_dst (N := 80) rfl ?_); refine lit_event_g (N := 80) rfl (by go_simp) _ _ _ (build_run 31 22 3 #[Value.slice none 0 0, Value.slice A l.length ca, Value.slice E 0 ce] info22 Try.underlying31 _ rfl (by omega) (by omega) _ (fill3 _ _ _ _ _ _ _ _ _) (by go_simp)) ?_; intro g _ w1 hbox hb)
        exact ⟨_, (by simp [Reg.upd, h45, h44, e46]), below_step hB hb, hb, g, rfl, C_row3 [] l [] hbox rfl rfl rfl (Nat.zero_le _) HC.out (Nat.zero_le _) (Kd.C_nil _ _) (Kd.C_below HR.out (below_step hB hb)) (Kd.C_below hE hb)⟩
      · intro o ho x w' hG hd
        injection ho with ho
        subst ho
        have hB : Below w.heap.size w w' := hG
        have h47 : ∃ g : Nat, x 80 = Value.slice (some ⟨g, 0, none⟩) 3 3 ∧ Kd.C (Kd.slice 5 (Kd.int .u8)) w' (some ⟨g, 0, none⟩) [[], l, []].length [[], l, []] := hd 47 rfl
        have h44 : x 77 = Value.bool true := hd 44 rfl
        dsimp only []
        obtain ⟨g, e, hC⟩ := h47
        go_wp2_with (go_at_call 9; (with_reducible refine (sum_rows3 [] l [] l HEE.out _ hC).mono ?_); rintro e1 w1 ⟨rfl, hb⟩)
        exact ⟨_, (by simp [Reg.upd, h44, e]), below_step hB hb, hb, rfl⟩
      · intro o ho x w' hG hd
        injection ho with ho
        subst ho
        have hB : Below w.heap.size w w' := hG
        have h44 : x 77 = Value.bool true := hd 44 rfl
        dsimp only []
        go_wp2
        exact ⟨_, (by simp [Reg.upd, h44]), hB, Below.refl _ _, rfl⟩
      · intro o ho x w' hG hd
        injection ho with ho
        subst ho
        have hB : Below w.heap.size w w' := hG
        have h48 : x 81 = Value.int IntKind.u32 (n32 (sum [l])) := hd 48 rfl
        have h49 : x 82 = Value.int IntKind.u32 (n32 (sum [l])) := hd 49 rfl
        have h44 : x 77 = Value.bool true := hd 44 rfl
        dsimp only []
        go_wp2
        exact ⟨_, (by simp [Reg.upd, h48, h49, h44]), hB, Below.refl _ _, rfl⟩
      · intro o ho x w' hG hd
        injection ho with ho
        subst ho
        have hB : Below w.heap.size w w' := hG
        have h44 : x 77 = Value.bool true := hd 44 rfl
        have h50 : x 83 = Value.bool true := hd 50 rfl
        dsimp only []
        go_wp2
        exact ⟨_, (by simp [Reg.upd, h44, h50]), hB, Below.refl _ _, rfl⟩
      · intro o ho x w' hG hd
        injection ho with ho
        subst ho
        have hB : Below w.heap.size w w' := hG
        have h51 : x 84 = Value.bool true := hd 51 rfl
        dsimp only []
        go_wp2
        exact ⟨_, (by simp [Reg.upd, h51]), hB, Below.refl _ _, rfl⟩
      · intro o ho x w' hG hd
        injection ho with ho
        subst ho
        have hB : Below w.heap.size w w' := hG
        have h52 : x 85 = Value.bool true := hd 52 rfl
        dsimp only []
        go_wp2_with (go_at_call 8; (with_reducible refine (chartroomlaw02_works.calls true _ rfl).mono ?_); rintro e1 w1 ⟨rfl, hb⟩)
        exact ⟨_, (by simp [Reg.upd, h52]), below_step hB hb, hb, rfl⟩
      · intro o ho x w' hG hd
        injection ho with ho
        subst ho
        have hB : Below w.heap.size w w' := hG
        have h52 : x 85 = Value.bool true := hd 52 rfl
        have h53 : x 86 = Value.bool true := hd 53 rfl
        dsimp only []
        go_wp2
        exact ⟨_, (by simp [Reg.upd, h52, h53]), hB, Below.refl _ _, rfl⟩
      · intro o ho x w' hG hd
        injection ho with ho
        subst ho
        have hB : Below w.heap.size w w' := hG
        have h54 : x 87 = Value.bool true := hd 54 rfl
        dsimp only []
        go_wp2
        exact ⟨_, (by simp [Reg.upd, h54]), hB, Below.refl _ _, rfl⟩

theorem parts_row (a0 : Option Addr) (len0 cap0 : Nat) (z0 : List Int) (a1 a2 : Int) (w : World)
    (w0 : (a0 = none ∧ len0 = 0 ∧ cap0 = 0 ∧ z0 = []) ∨ ∃ x, a0 = some x ∧ len0 ≤ cap0 ∧ cap0 ≤ maxLen ∧ z0.length = cap0 ∧ (∀ i, i < z0.length → w.cell? (x.add i) = some (.int .u8 (z0.getD i 0))) ∧ ∀ n ∈ z0, (Lit.int .u8 n).wf = true)
    (w1 : (Lit.int .u16 a1).wf = true) (w2 : (Lit.int .u16 a2).wf = true) : Calls Try.prog 5 #[.slice a0 len0 cap0, .int .u16 a1, .int .u16 a2] w (fun e w' => e = .returned (.bool true) ∧ Below w.heap.size w w') := by
  obtain ⟨l0, rfl, hr0, _, _, hc0⟩ := ReadsInt.ofRowC w0
  exact parts_walk a0 cap0 l0 a1 a2 w (Kd.C_of_reads (d := (0 : Int)) (h1 := fun _ => rfl) hr0) hc0 (wf_u16 w1).1 (wf_u16 w1).2 (wf_u16 w2).1 (wf_u16 w2).2
end Go.Proofs.Ytdnfmcpphamicaa
