/- CrcSums' walk: of any rows the check is the document's, and told to match just then; they stay; for all rows that can be read. -/
import Derived.Test.YtdnfmcpphamicaaPartsWalk
import Derived.Test.YtdnfmcpphamicaaPcx1
namespace Go.Proofs.Ytdnfmcpphamicaa
open Go.RowKit Go.Proofs.YtdnfmcpphamicaaW.PrintWords Go.Proofs.YtdnfmcpphamicaaW.PrintLast Go.Proofs.YtdnfmcpphamicaaW.PrintMore
open Go.Proofs.Ytdnfmcpphamicaa.Crc Go.Proofs.Ytdnfmcpphamicaa.Pc

/-- The reference's check of rows, by its own loop. -/
theorem ref_sum_loop (l0 : List (List Int)) (hn : l0.length ≤ 6) (hr : ∀ j, (rd_L1 l0 j).length ≤ 300) (d : Nat) : ∀ (k : Nat) (acc : List Int) (i : Nat), i + d = l0.length → d < k → acc = (l0.take i).flatten → acc.length ≤ 300 * i →
    chartroomref02_Sum.l0 k l0 acc (i : Int) = some (n32 (sum l0)) := by
  induction d with
  | zero =>
    intro k acc i h1 h2 h3 _
    obtain ⟨k, rfl⟩ : ∃ m, k = m + 1 := ⟨k - 1, by omega⟩
    simp only [chartroomref02_Sum.l0]
    rw [if_neg (by omega), h3, List.take_of_length_le (by omega)]
    show some (n32 (upd (BitVec.ofInt 32 0) l0.flatten)) = _
    rw [sum_flat]; rfl
  | succ d ih =>
    intro k acc i h1 h2 h3 h4
    obtain ⟨k, rfl⟩ : ∃ m, k = m + 1 := ⟨k - 1, by omega⟩
    simp only [chartroomref02_Sum.l0]
    have h5 := hr (i : Int)
    rw [if_pos (by omega), if_pos (by omega), if_pos (by omega)]
    have e : wrap64 ((i : Int) + 1) = ((i + 1 : Nat) : Int) := by unfold wrap64; omega
    rw [e]
    refine ih k _ (i + 1) (by omega) (by omega) ?_ (by rw [List.length_append]; omega)
    have hi : i < l0.length := by omega
    have e2 : rd_L1 l0 (i : Int) = l0[i] := by simp [rd_L1, hi]
    rw [h3, e2, List.take_succ_eq_append_getElem hi]
    simp only [List.flatten_append, List.flatten_cons, List.flatten_nil, List.append_nil]

theorem ref_sum_rows (A : Option Addr) (c : Nat) (l0 : List (List Int)) (w : World) (hr0 : Kd.C (Kd.slice 5 (Kd.int .u8)) w A l0.length l0) (hc0 : l0.length ≤ c) (hn : l0.length ≤ 6) (hr : ∀ j, (rd_L1 l0 j).length ≤ 300) :
    Calls Try.prog 11 #[.slice A l0.length c] w fun e w' => e = .returned (.int .u32 (n32 (sum l0))) ∧ Below w.heap.size w w' :=
  chartroomref02_Sum.calls (l0.length + 1) A c l0 (n32 (sum l0)) w hr0 hc0 (ref_sum_loop l0 hn hr l0.length (l0.length + 1) [] 0 (by omega) (by omega) rfl (by simp))

theorem rows_300 (l0 : List (List Int)) (h : ∀ j : Nat, j < l0.length → (rd_L1 l0 (j : Int)).length ≤ 300) (j : Int) : (rd_L1 l0 j).length ≤ 300 := by
  by_cases e : j.toNat < l0.length
  · have h1 := h j.toNat e
    have e2 : rd_L1 l0 ((j.toNat : Nat) : Int) = rd_L1 l0 j := by unfold rd_L1; rw [Int.toNat_natCast]
    rw [e2] at h1; exact h1
  · have : rd_L1 l0 j = [] := by unfold rd_L1; rw [List.getD_eq_getElem?_getD, List.getElem?_eq_none (by omega)]; rfl
    rw [this]; simp

theorem xor_one_ne (c : BitVec 32) : n32 c ≠ Go.bits .xor .u32 (n32 c) 1 := fun h => by
  rw [bits_xor32, of_n32] at h
  have h1 := n32_inj h
  have h2 := congrArg (c ^^^ ·) h1
  simp only [← BitVec.xor_assoc, BitVec.xor_self, BitVec.zero_xor] at h2
  exact absurd h2 (by decide)

theorem beq_comm_int (a b : Int) : (a == b) = (b == a) := by
  by_cases h : a = b
  · subst h; rfl
  · rw [beq_eq_false_iff_ne.mpr h, beq_eq_false_iff_ne.mpr (fun e => h e.symm)]

def SFact (ad ad5 : Addr) (A1 B1 : Option Addr) (ca c1 c5 d1 j : Nat) (a1 : Int) (l0 : List (List Int)) (y : List Int) (i : Nat) (v : Value) : Prop :=
  match i with
  | 0 => v = Value.int IntKind.u32 a1
  | 1 => v = Value.slice (some ad) l0.length ca
  | 2 => v = Value.int IntKind.i64 (j : Int)
  | 3 => v = Value.pointer (some (ad.add j))
  | 4 => v = Value.slice A1 y.length c1
  | 5 => v = Value.int IntKind.u32 (n32 (upd (BitVec.ofInt 32 a1) y))
  | 6 => v = Value.int IntKind.u32 a1
  | 7 => v = Value.slice (some ad) l0.length ca
  | 8 => v = Value.int IntKind.i64 (j : Int)
  | 9 => v = Value.pointer (some (ad.add j))
  | 10 => v = Value.slice A1 y.length c1
  | 11 => v = Value.int IntKind.u32 (n32 (upd (BitVec.ofInt 32 a1) y))
  | 12 => v = Value.bool false
  | 13 => v = Value.bool false
  | 14 => v = Value.slice (some ad5) l0.length c5
  | 15 => v = Value.int IntKind.i64 (j : Int)
  | 16 => v = Value.pointer (some (ad5.add j))
  | 17 => v = Value.slice B1 y.length d1
  | 18 => v = Value.string (strOfNums y)
  | 19 => v = Value.slice (some ad) l0.length ca
  | 20 => v = Value.int IntKind.i64 (j : Int)
  | 21 => v = Value.pointer (some (ad.add j))
  | 22 => v = Value.slice A1 y.length c1
  | 23 => v = Value.string (strOfNums y)
  | 24 => v = Value.bool false
  | 25 => v = Value.bool false
  | _ => True

set_option maxHeartbeats 1000000 in
set_option maxRecDepth 100000 in
theorem sums_walk (A : Option Addr) (ca : Nat) (l0 : List (List Int)) (a1 : Int) (w : World) (hr : Kd.C (Kd.slice 5 (Kd.int .u8)) w A l0.length l0) (hc : l0.length ≤ ca) :
    Calls Try.prog 6 #[.slice A l0.length ca, .int .u32 a1] w (Right w) := by
  have HR := Aside0.mk hr
  have HC := Aside0.mk hc
  have HB := Aside0.mk (Below.refl w.heap.size w)
  have hm := Kd.C_max hr
  clear hr hc
  by_cases h1 : 6 < l0.length
  · have c2 : decide (6 < (l0.length : Int)) = true := decide_eq_true (by omega)
    have c3 : decide (6 < l0.length) = true := decide_eq_true h1
    go_enter Try.func6, Try.ntmps6
    go_wp2_with (go_at_call 8; (with_reducible refine (chartroomlaw02_works.calls true _ rfl).mono ?_); rintro e w1 ⟨rfl, hb⟩; have HB := Aside0.mk (below_step HB.out hb); clear hb)
    go_ret
    exact ⟨rfl, HB.out⟩
  · have c2 : decide (6 < (l0.length : Int)) = false := decide_eq_false (by omega)
    have c3 : decide (6 < l0.length) = false := decide_eq_false h1
    have p2 : l0.length ≤ 6 := by omega
    clear h1
    go_enter Try.func6, Try.ntmps6
    go_wp2
    go_loopg [5, 6] l0.length (fun kq v5 v6 w' => ∃ i : Nat, v6 = .int .i64 (i : Int) ∧ Aside0 (i + kq = l0.length) ∧ Aside0 (∀ j : Nat, j < i → (rd_L1 l0 (j : Int)).length ≤ 300) ∧ Aside0 (Kd.S (Kd.slice 5 (Kd.int .u8)) 22 w' w.heap.size (fun _ => True) v5 (l0.take i)) ∧ Aside0 (Below w.heap.size w w'))
    case atStart => exact ⟨0, rfl, ⟨by omega⟩, ⟨fun j h => absurd h (Nat.not_lt_zero _)⟩, ⟨Kd.S_nil _ _ _ _ _⟩, HB⟩
    case round =>
      clear HB
      obtain ⟨i, rfl, HK, HJ, HO, HB⟩ := hrel
      by_cases hlt : i < l0.length
      · have c4 : decide ((i : Int) < (l0.length : Int)) = true := decide_eq_true (by omega)
        have p3 : (i : Int) < (l0.length : Int) := by omega
        cases gk with
        | zero => exact absurd HK.out (by omega)
        | succ k1 =>
        obtain ⟨ad, A1, c1, e, hx, hl, hi⟩ := at_L1 HR.out (i : Int) (by omega) p3
        cases e
        rw [Int.toNat_natCast] at hx
        replace hx := pw_cell_below HB.out hx
        have HI := Aside0.mk (Kd.C_below hi HB.out)
        have HL := Aside0.mk hl
        have HY := Aside0.mk (show l0.take (i + 1) = l0.take i ++ [rd_L1 l0 (i : Int)] by rw [List.take_succ_eq_append_getElem hlt]; simp [rd_L1, hlt])
        have hm2 := Kd.C_max hi
        obtain ⟨y, hy⟩ : ∃ y, y = rd_L1 l0 (i : Int) := ⟨_, rfl⟩
        rw [← hy] at hx HI HL HY hm2
        have Hy := Aside0.mk hy
        clear hi hl hy
        by_cases h3 : 300 < y.length
        · have c5 : decide (300 < (y.length : Int)) = true := decide_eq_true (by omega)
          have c6 : decide (300 < y.length) = true := decide_eq_true h3
          clear h3
          go_wp2_with (go_at_call 8; (with_reducible refine (chartroomlaw02_works.calls true _ rfl).mono ?_); rintro e w1 ⟨rfl, hb⟩; have HB := Aside0.mk (below_step HB.out hb); clear hb)
          go_ret
          exact ⟨rfl, HB.out⟩
        · have c5 : decide (300 < (y.length : Int)) = false := decide_eq_false (by omega)
          have c6 : decide (300 < y.length) = false := decide_eq_false h3
          have p4 : y.length ≤ 300 := by omega
          clear h3
          go_wp2_with (first
            | ((with_reducible refine gate_dst (N := 33) rfl ?_); refine Kd.R_append_rows (Kd.int .u8) (w0 := w) w.heap.size rfl (.tmp 28) (.tmp 32) 22 5 (.int .u8 0) 1 rfl Try.underlying22 info5 rfl (by decide) (by omega) (.slice none 0 0) ([] : List Int) y _ _ _ (fun _ => True) (fun _ => False) rfl rfl (Kd.R_nil _ _ _ _ (fun _ => True)) HI.out (fun _ _ h => h) (fun _ h => h.elim) (fun _ _ => trivial) HB.out (below_size HB.out) (by simp; omega) ?_; intro v33 w13 ho hb hg hat; have HO := Aside0.mk (Kd.S_after (Kd.S_apart_nil HO.out) hg hat); have HB := Aside0.mk hb; have H33 := Aside0.mk (show Kd.R (Kd.int .u8) 5 w13 w.heap.size (fun _ => True) v33 y from ho); clear ho hb hg hat; obtain ⟨A33, c33, e33⟩ := Kd.R_slice H33.out; subst e33)
            | ((with_reducible refine gate_dst (N := 35) rfl ?_); refine Kd.S_append (Kd.slice 5 (Kd.int .u8)) (w0 := w) w.heap.size rfl (.tmp 27) (.tmp 34) 31 22 (.slice none 0 0) 24 rfl Try.underlying31 info22 rfl (by decide) (by omega) u5 (l0.take i) y [.slice A33 y.length c33] (fun _ => True) (fun k_ => some k_ = (.slice A33 y.length c33 : Value).ownBlock) rfl rfl ?aP (fun k_ hk_ => ((Kd.R_mono (ok' := fun k_ => ((fun _ => True)) k_ ∧ some k_ ≠ (u5 : Value).ownBlock) (Kd.R_apart' (H33.out) (Kd.S_typed HO.out) (by decide)) (fun k_ hk => ⟨trivial, hk.2⟩))).1 k_ hk_.symm) ?aF ?aO ?aB ?aS ?aL ?_; (case aP => exact Kd.M_row (Kd.R_mono (Kd.R_tight rfl (Kd.R_mono (ok' := fun k_ => ((fun _ => True)) k_ ∧ some k_ ≠ (u5 : Value).ownBlock) (Kd.R_apart' (H33.out) (Kd.S_typed HO.out) (by decide)) (fun k_ hk => ⟨trivial, hk.2⟩))) (fun _ h_ => h_))); (case aB => exact HB.out); (case aF => exact (fun _ _ => trivial)); (case aO => exact (Kd.S_mono HO.out (fun k_ hk => ⟨trivial, fun e_ => hk.2 e_⟩))); (case aS => exact (below_size HB.out)); (case aL => rw [List.length_take]; omega); intro v35 w14 ho hb hg hat; have HB := Aside0.mk hb; have H35 := Aside0.mk ho; clear ho hb hg hat))
          go_roundg k1
          case measure => omega
          case rel => exact ⟨i + 1, by go_num, ⟨by have := HK.out; omega⟩, ⟨fun j hj => by
            by_cases e : j < i
            · exact HJ.out j e
            · have : j = i := by omega
              subst this; rw [← Hy.out]; exact p4⟩, ⟨by rw [HY.out]; exact H35.out⟩, HB⟩
      · have c4 : decide ((i : Int) < (l0.length : Int)) = false := decide_eq_false (by omega)
        have ei : i = l0.length := by have := HK.out; omega
        have hJ := HJ.out
        have hO := HO.out
        rw [ei] at hJ
        rw [List.take_of_length_le (by omega)] at hO
        have HJ := Aside0.mk (rows_300 l0 hJ)
        have HO := Aside0.mk hO
        clear hJ hO
        obtain ⟨A5, c5, e5⟩ := Kd.S_slice HO.out
        subst e5
        obtain ⟨s, hs⟩ : ∃ s, s = n32 (sum l0) := ⟨_, rfl⟩
        have HS := Aside0.mk hs
        have q1 : (s != s) = false := bne_self_eq_false s
        have HX := Aside0.mk (show (s == Go.bits .xor .u32 s 1) = false from beq_eq_false_iff_ne.mpr (by rw [hs]; exact xor_one_ne _))
        have HM : ∀ (x : Int) (W : World), Below w.heap.size w W → Calls Try.prog 12 #[.int .u32 x, .slice A l0.length ca] W fun e w' => e = .returned (.bool (s == x)) ∧ Below W.heap.size W w' := fun x W hb => crc_Match.calls x A ca l0 (s == x) W (Kd.C_below HR.out hb) HC.out (by rw [hs]; rfl)
        replace HM := Aside0.mk HM
        have HM1 := Aside0.mk (fun (W : World) (hb : Below w.heap.size w W) => (show Calls Try.prog 12 #[.int .u32 s, .slice A l0.length ca] W fun e w' => e = .returned (.bool true) ∧ Below W.heap.size W w' by have h := HM.out s W hb; rw [beq_self_eq_true] at h; exact h))
        have HM2 := Aside0.mk (fun (W : World) (hb : Below w.heap.size w W) => (show Calls Try.prog 12 #[.int .u32 (Go.bits .xor .u32 s 1), .slice A l0.length ca] W fun e w' => e = .returned (.bool false) ∧ Below W.heap.size W w' by have h := HM.out (Go.bits .xor .u32 s 1) W hb; rw [HX.out] at h; exact h))
        have HSUM := Aside0.mk (fun (W : World) (hb : Below w.heap.size w W) => (show Calls Try.prog 9 #[.slice A l0.length ca] W fun e w' => e = .returned (.int .u32 s) ∧ Below W.heap.size W w' by rw [hs]; exact crc_Sum.calls A ca l0 _ W (Kd.C_below HR.out hb) HC.out rfl))
        have HREF := Aside0.mk (fun (W : World) (hb : Below w.heap.size w W) => (show Calls Try.prog 11 #[.slice A l0.length ca] W fun e w' => e = .returned (.int .u32 s) ∧ Below W.heap.size W w' by rw [hs]; exact ref_sum_rows A ca l0 W (Kd.C_below HR.out hb) HC.out p2 HJ.out))
        obtain ⟨b, hb1⟩ : ∃ b : Bool, (s == a1) = b := ⟨_, rfl⟩
        have hb2 : (a1 == s) = b := by rw [← beq_comm_int s a1]; exact hb1
        have HM3 := Aside0.mk (fun (W : World) (hb : Below w.heap.size w W) => (show Calls Try.prog 12 #[.int .u32 a1, .slice A l0.length ca] W fun e w' => e = .returned (.bool b) ∧ Below W.heap.size W w' by have h := HM.out a1 W hb; rw [hb1] at h; exact h))
        clear hb1
        have hlt2 : decide (i < l0.length) = false := decide_eq_false hlt
        clear hs ei HK
        go_wp2_with (first
          | (go_at_call 11; (with_reducible refine (HREF.out _ HB.out).mono ?_); rintro e w1 ⟨rfl, hb⟩; have HO := Aside0.mk (Kd.S_below HO.out hb); have HB := Aside0.mk (below_step HB.out hb); clear hb)
          | (go_at_call 9; (with_reducible refine (HSUM.out _ HB.out).mono ?_); rintro e w1 ⟨rfl, hb⟩; have HO := Aside0.mk (Kd.S_below HO.out hb); have HB := Aside0.mk (below_step HB.out hb); clear hb)
          | (go_at_call 12; (with_reducible refine (HM1.out _ HB.out).mono ?_); rintro e w1 ⟨rfl, hb⟩; have HO := Aside0.mk (Kd.S_below HO.out hb); have HB := Aside0.mk (below_step HB.out hb); clear hb)
          | (go_at_call 12; (with_reducible refine (HM2.out _ HB.out).mono ?_); rintro e w1 ⟨rfl, hb⟩; have HO := Aside0.mk (Kd.S_below HO.out hb); have HB := Aside0.mk (below_step HB.out hb); clear hb)
          | (go_at_call 12; (with_reducible refine (HM3.out _ HB.out).mono ?_); rintro e w1 ⟨rfl, hb⟩; have HO := Aside0.mk (Kd.S_below HO.out hb); have HB := Aside0.mk (below_step HB.out hb); clear hb))
        have HO1 := HO
        have HB1 := HB
        go_loopg [9] l0.length (fun kq v9 w' => ∃ j : Nat, v9 = .int .i64 (j : Int) ∧ Aside0 (j + kq = l0.length) ∧ Aside0 (Kd.S (Kd.slice 5 (Kd.int .u8)) 22 w' w.heap.size (fun _ => True) (.slice A5 l0.length c5) l0) ∧ Aside0 (Below w.heap.size w w'))
        case atStart => exact ⟨0, rfl, ⟨by omega⟩, HO1, HB1⟩
        case round =>
          clear HO1 HB1
          obtain ⟨j, rfl, HK, HO, HB⟩ := hrel
          by_cases hj : j < l0.length
          · have c7 : decide (j < l0.length) = true := decide_eq_true hj
            cases gk with
            | zero => exact absurd HK.out (by omega)
            | succ k1 =>
            obtain ⟨ad, A1, c1, e, hx1, hl1, hi1⟩ := at_L1 HR.out (j : Int) (by omega) (by omega)
            subst e
            obtain ⟨_, _, hC5⟩ := Kd.S_reads' HO.out
            obtain ⟨ad5, B1, d1, e, hx5, hl5, hi5⟩ := at_L1 hC5 (j : Int) (by omega) (by omega)
            subst e
            rw [Int.toNat_natCast] at hx1 hx5
            generalize rd_L1 l0 (j : Int) = y at hx1 hl1 hi1 hx5 hl5 hi5
            have HX1 := Aside0.mk (pw_cell_below HB.out hx1)
            have HX5 := Aside0.mk hx5
            have HC1 := Aside0.mk (Kd.C_below hi1 HB.out)
            have HC5 := Aside0.mk hi5
            have HL1 := Aside0.mk hl1
            clear hx1 hx5 hi1 hi5 hl1 hl5 hC5
            go_upto_region 17 with (fail)
            refine Reg.region (fr := (fun x : Nat → Value => (⟨#[Value.slice (some ad) l0.length ca, Value.int IntKind.u32 a1, undef, undef, u4, Value.slice (some ad5) l0.length c5, Value.int IntKind.i64 ↑i, u7, Value.int IntKind.u32 s, Value.int IntKind.i64 ↑j, Value.slice (some ad) l0.length ca, Value.int IntKind.i64 ↑l0.length, Value.bool false, undef, Value.int IntKind.i64 ↑i, Value.slice (some ad) l0.length ca, Value.int IntKind.i64 ↑l0.length, Value.bool false, u18, u19, u20, u21, u22, u23, u24, u25, u26, u27, u28, u29, u30, u31, u32, u33, u34, u35, Value.slice (some ad) l0.length ca, Value.int IntKind.u32 s, Value.slice (some ad) l0.length ca, Value.int IntKind.u32 s, Value.int IntKind.u32 s, Value.bool false, Value.bool false, Value.int IntKind.u32 s, Value.slice (some ad) l0.length ca, Value.bool true, Value.bool false, Value.bool false, Value.bool false, Value.int IntKind.u32 s, Value.int IntKind.u32 (bits BinOp.xor IntKind.u32 s 1), Value.slice (some ad) l0.length ca, Value.bool false, Value.bool false, Value.bool false, Value.int IntKind.u32 a1, Value.slice (some ad) l0.length ca, Value.bool b, Value.int IntKind.u32 a1, Value.int IntKind.u32 s, Value.bool b, Value.bool false, Value.bool false, Value.int IntKind.i64 ↑j, Value.slice (some ad) l0.length ca, Value.int IntKind.i64 ↑l0.length, Value.bool true, u67, u68, x 69, x 70, x 71, x 72, x 73, x 74, x 75, x 76, x 77, x 78, x 79, x 80, x 81, x 82, x 83, x 84, x 85, x 86, x 87, x 88, x 89, x 90, x 91, x 92, x 93, x 94, undef], []⟩ : Act))) (dst := fun i => 69 + i) (fun w' => Below wr.heap.size wr w') (fun i v _ => SFact ad ad5 A1 B1 ca c1 c5 d1 j a1 l0 y i v) (fun s_ => [u69, u70, u71, u72, u73, u74, u75, u76, u77, u78, u79, u80, u81, u82, u83, u84, u85, u86, u87, u88, u89, u90, u91, u92, u93, u94].getD (s_ - 69) undef) rfl (by kernel_rfl) (by kernel_rfl) ?inj ?stable ?inv ?step ?fin
            case inj =>
              intro i j hi hj h
              have h' : 69 + i = 69 + j := h
              omega
            case stable => exact fun _ _ _ _ _ h => h
            case inv => exact below_drew1 (Below.refl _ _)
            case fin =>
              intro x w' hG hF
              have h94 : x 94 = Value.bool false := hF 25 (by decide)
              have HW := Aside0.mk (show Below wr.heap.size wr w' from hG)
              dsimp only []
              go_wp2
              go_roundg k1
              case measure => omega
              case rel => exact ⟨j + 1, by go_num, ⟨by have := HK.out; omega⟩, ⟨Kd.S_below HO.out HW.out⟩, ⟨below_step HB.out HW.out⟩⟩
            case step =>
              intro i_ hi
              have hi2 : i_ < 26 := hi
              have hi3 : i_ = 0 ∨ i_ = 1 ∨ i_ = 2 ∨ i_ = 3 ∨ i_ = 4 ∨ i_ = 5 ∨ i_ = 6 ∨ i_ = 7 ∨ i_ = 8 ∨ i_ = 9 ∨ i_ = 10 ∨ i_ = 11 ∨ i_ = 12 ∨ i_ = 13 ∨ i_ = 14 ∨ i_ = 15 ∨ i_ = 16 ∨ i_ = 17 ∨ i_ = 18 ∨ i_ = 19 ∨ i_ = 20 ∨ i_ = 21 ∨ i_ = 22 ∨ i_ = 23 ∨ i_ = 24 ∨ i_ = 25 := by omega
              clear hi hi2
              rcases hi3 with rfl | rfl | rfl | rfl | rfl | rfl | rfl | rfl | rfl | rfl | rfl | rfl | rfl | rfl | rfl | rfl | rfl | rfl | rfl | rfl | rfl | rfl | rfl | rfl | rfl | rfl
              · intro o ho x w' hG hd
                injection ho with ho
                subst ho
                have hW : Below wr.heap.size wr w' := hG
                dsimp only []
                go_wp2
                exact ⟨_, (by simp [Reg.upd]), hW, Below.refl _ _, rfl⟩
              · intro o ho x w' hG hd
                injection ho with ho
                subst ho
                have hW : Below wr.heap.size wr w' := hG
                dsimp only []
                go_wp2
                exact ⟨_, (by simp [Reg.upd]), hW, Below.refl _ _, rfl⟩
              · intro o ho x w' hG hd
                injection ho with ho
                subst ho
                have hW : Below wr.heap.size wr w' := hG
                dsimp only []
                go_wp2
                exact ⟨_, (by simp [Reg.upd]), hW, Below.refl _ _, rfl⟩
              · intro o ho x w' hG hd
                injection ho with ho
                subst ho
                have hW : Below wr.heap.size wr w' := hG
                have h1 : x 70 = Value.slice (some ad) l0.length ca := hd 1 rfl
                have h2 : x 71 = Value.int IntKind.i64 (j : Int) := hd 2 rfl
                dsimp only []
                have hj2 : (j : Int) < (l0.length : Int) := by omega
                go_wp2
                exact ⟨_, (by simp [Reg.upd, h1, h2]), hW, Below.refl _ _, rfl⟩
              · intro o ho x w' hG hd
                injection ho with ho
                subst ho
                have hW : Below wr.heap.size wr w' := hG
                have h3 : x 72 = Value.pointer (some (ad.add j)) := hd 3 rfl
                dsimp only []
                have hx := pw_cell_below hW HX1.out
                go_wp2
                exact ⟨_, (by simp [Reg.upd, h3]), hW, Below.refl _ _, rfl⟩
              · intro o ho x w' hG hd
                injection ho with ho
                subst ho
                have hW : Below wr.heap.size wr w' := hG
                have h0 : x 69 = Value.int IntKind.u32 a1 := hd 0 rfl
                have h4 : x 73 = Value.slice A1 y.length c1 := hd 4 rfl
                dsimp only []
                go_wp2_with (go_at_call 10; (with_reducible refine (crc_Update.calls a1 A1 c1 y _ w' (Kd.C_below HC1.out hW) HL1.out rfl).mono ?_); rintro e1 w1 ⟨rfl, hb⟩)
                exact ⟨_, (by simp [Reg.upd, h0, h4]), below_step hW hb, hb, rfl⟩
              · intro o ho x w' hG hd
                injection ho with ho
                subst ho
                have hW : Below wr.heap.size wr w' := hG
                dsimp only []
                go_wp2
                exact ⟨_, (by simp [Reg.upd]), hW, Below.refl _ _, rfl⟩
              · intro o ho x w' hG hd
                injection ho with ho
                subst ho
                have hW : Below wr.heap.size wr w' := hG
                dsimp only []
                go_wp2
                exact ⟨_, (by simp [Reg.upd]), hW, Below.refl _ _, rfl⟩
              · intro o ho x w' hG hd
                injection ho with ho
                subst ho
                have hW : Below wr.heap.size wr w' := hG
                dsimp only []
                go_wp2
                exact ⟨_, (by simp [Reg.upd]), hW, Below.refl _ _, rfl⟩
              · intro o ho x w' hG hd
                injection ho with ho
                subst ho
                have hW : Below wr.heap.size wr w' := hG
                have h7 : x 76 = Value.slice (some ad) l0.length ca := hd 7 rfl
                have h8 : x 77 = Value.int IntKind.i64 (j : Int) := hd 8 rfl
                dsimp only []
                have hj2 : (j : Int) < (l0.length : Int) := by omega
                go_wp2
                exact ⟨_, (by simp [Reg.upd, h7, h8]), hW, Below.refl _ _, rfl⟩
              · intro o ho x w' hG hd
                injection ho with ho
                subst ho
                have hW : Below wr.heap.size wr w' := hG
                have h9 : x 78 = Value.pointer (some (ad.add j)) := hd 9 rfl
                dsimp only []
                have hx := pw_cell_below hW HX1.out
                go_wp2
                exact ⟨_, (by simp [Reg.upd, h9]), hW, Below.refl _ _, rfl⟩
              · intro o ho x w' hG hd
                injection ho with ho
                subst ho
                have hW : Below wr.heap.size wr w' := hG
                have h6 : x 75 = Value.int IntKind.u32 a1 := hd 6 rfl
                have h10 : x 79 = Value.slice A1 y.length c1 := hd 10 rfl
                dsimp only []
                go_wp2_with (go_at_call 13; (with_reducible refine (chartroomref02_Update.calls a1 A1 c1 y _ w' (Kd.C_below HC1.out hW) HL1.out rfl).mono ?_); rintro e1 w1 ⟨rfl, hb⟩)
                exact ⟨_, (by simp [Reg.upd, h6, h10]), below_step hW hb.below, hb.below, rfl⟩
              · intro o ho x w' hG hd
                injection ho with ho
                subst ho
                have hW : Below wr.heap.size wr w' := hG
                have h5 : x 74 = Value.int IntKind.u32 (n32 (upd (BitVec.ofInt 32 a1) y)) := hd 5 rfl
                have h11 : x 80 = Value.int IntKind.u32 (n32 (upd (BitVec.ofInt 32 a1) y)) := hd 11 rfl
                dsimp only []
                go_wp2
                exact ⟨_, (by simp [Reg.upd, h5, h11]), hW, Below.refl _ _, rfl⟩
              · intro o ho x w' hG hd
                injection ho with ho
                subst ho
                have hW : Below wr.heap.size wr w' := hG
                have h12 : x 81 = Value.bool false := hd 12 rfl
                dsimp only []
                go_wp2
                exact ⟨_, (by simp [Reg.upd, h12]), hW, Below.refl _ _, rfl⟩
              · intro o ho x w' hG hd
                injection ho with ho
                subst ho
                have hW : Below wr.heap.size wr w' := hG
                have h13 : x 82 = Value.bool false := hd 13 rfl
                dsimp only []
                go_wp2
                exact ⟨_, (by simp [Reg.upd, h13]), hW, Below.refl _ _, rfl⟩
              · intro o ho x w' hG hd
                injection ho with ho
                subst ho
                have hW : Below wr.heap.size wr w' := hG
                have h13 : x 82 = Value.bool false := hd 13 rfl
                dsimp only []
                go_wp2
                exact ⟨_, (by simp [Reg.upd, h13]), hW, Below.refl _ _, rfl⟩
              · intro o ho x w' hG hd
                injection ho with ho
                subst ho
                have hW : Below wr.heap.size wr w' := hG
                have h14 : x 83 = Value.slice (some ad5) l0.length c5 := hd 14 rfl
                have h15 : x 84 = Value.int IntKind.i64 (j : Int) := hd 15 rfl
                have h13 : x 82 = Value.bool false := hd 13 rfl
                dsimp only []
                have hj2 : (j : Int) < (l0.length : Int) := by omega
                go_wp2
                exact ⟨_, (by simp [Reg.upd, h14, h15, h13]), hW, Below.refl _ _, rfl⟩
              · intro o ho x w' hG hd
                injection ho with ho
                subst ho
                have hW : Below wr.heap.size wr w' := hG
                have h16 : x 85 = Value.pointer (some (ad5.add j)) := hd 16 rfl
                have h13 : x 82 = Value.bool false := hd 13 rfl
                dsimp only []
                have hx := pw_cell_below hW HX5.out
                go_wp2
                exact ⟨_, (by simp [Reg.upd, h16, h13]), hW, Below.refl _ _, rfl⟩
              · intro o ho x w' hG hd
                injection ho with ho
                subst ho
                have hW : Below wr.heap.size wr w' := hG
                have h17 : x 86 = Value.slice B1 y.length d1 := hd 17 rfl
                have h13 : x 82 = Value.bool false := hd 13 rfl
                dsimp only []
                have kc := Kd.C_string (P := Try.prog) (c := d1) Try.underlying22 Try.underlying5 Try.underlying9 (Kd.C_below HC5.out hW)
                go_wp2
                exact ⟨_, (by simp [Reg.upd, h17, h13]), hW, Below.refl _ _, rfl⟩
              · intro o ho x w' hG hd
                injection ho with ho
                subst ho
                have hW : Below wr.heap.size wr w' := hG
                have h13 : x 82 = Value.bool false := hd 13 rfl
                dsimp only []
                go_wp2
                exact ⟨_, (by simp [Reg.upd, h13]), hW, Below.refl _ _, rfl⟩
              · intro o ho x w' hG hd
                injection ho with ho
                subst ho
                have hW : Below wr.heap.size wr w' := hG
                have h13 : x 82 = Value.bool false := hd 13 rfl
                dsimp only []
                go_wp2
                exact ⟨_, (by simp [Reg.upd, h13]), hW, Below.refl _ _, rfl⟩
              · intro o ho x w' hG hd
                injection ho with ho
                subst ho
                have hW : Below wr.heap.size wr w' := hG
                have h19 : x 88 = Value.slice (some ad) l0.length ca := hd 19 rfl
                have h20 : x 89 = Value.int IntKind.i64 (j : Int) := hd 20 rfl
                have h13 : x 82 = Value.bool false := hd 13 rfl
                dsimp only []
                have hj2 : (j : Int) < (l0.length : Int) := by omega
                go_wp2
                exact ⟨_, (by simp [Reg.upd, h19, h20, h13]), hW, Below.refl _ _, rfl⟩
              · intro o ho x w' hG hd
                injection ho with ho
                subst ho
                have hW : Below wr.heap.size wr w' := hG
                have h21 : x 90 = Value.pointer (some (ad.add j)) := hd 21 rfl
                have h13 : x 82 = Value.bool false := hd 13 rfl
                dsimp only []
                have hx := pw_cell_below hW HX1.out
                go_wp2
                exact ⟨_, (by simp [Reg.upd, h21, h13]), hW, Below.refl _ _, rfl⟩
              · intro o ho x w' hG hd
                injection ho with ho
                subst ho
                have hW : Below wr.heap.size wr w' := hG
                have h22 : x 91 = Value.slice A1 y.length c1 := hd 22 rfl
                have h13 : x 82 = Value.bool false := hd 13 rfl
                dsimp only []
                have kc := Kd.C_string (P := Try.prog) (c := c1) Try.underlying22 Try.underlying5 Try.underlying9 (Kd.C_below HC1.out hW)
                go_wp2
                exact ⟨_, (by simp [Reg.upd, h22, h13]), hW, Below.refl _ _, rfl⟩
              · intro o ho x w' hG hd
                injection ho with ho
                subst ho
                have hW : Below wr.heap.size wr w' := hG
                have h18 : x 87 = Value.string (strOfNums y) := hd 18 rfl
                have h23 : x 92 = Value.string (strOfNums y) := hd 23 rfl
                have h13 : x 82 = Value.bool false := hd 13 rfl
                dsimp only []
                go_wp2
                exact ⟨_, (by simp [Reg.upd, h18, h23, h13]), hW, Below.refl _ _, rfl⟩
              · intro o ho x w' hG hd
                injection ho with ho
                subst ho
                have hW : Below wr.heap.size wr w' := hG
                have h13 : x 82 = Value.bool false := hd 13 rfl
                have h24 : x 93 = Value.bool false := hd 24 rfl
                dsimp only []
                go_wp2
                exact ⟨_, (by simp [Reg.upd, h13, h24]), hW, Below.refl _ _, rfl⟩
          · have c7 : decide (j < l0.length) = false := decide_eq_false hj
            go_wp2_with (go_at_call 8; (with_reducible refine (chartroomlaw02_works.calls true _ rfl).mono ?_); rintro e w1 ⟨rfl, hb⟩; have HB := Aside0.mk (below_step HB.out hb); clear hb)
            go_ret
            exact ⟨rfl, HB.out⟩
end Go.Proofs.Ytdnfmcpphamicaa
