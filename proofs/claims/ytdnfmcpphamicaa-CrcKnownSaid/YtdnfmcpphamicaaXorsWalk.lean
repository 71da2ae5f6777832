/- CrcXors' walk: of two rows as long as one another the xor of their checks, and that of noughts of that length, is the check of their xor; for all slices that can be read. -/
import Derived.Test.YtdnfmcpphamicaaFlipsWalk
import Derived.Test.YtdnfmcpphamicaaRegion
namespace Go.Proofs.Ytdnfmcpphamicaa
open Go.RowKit Go.Proofs.YtdnfmcpphamicaaW.PrintWords Go.Proofs.YtdnfmcpphamicaaW.PrintLast Go.Proofs.YtdnfmcpphamicaaW.PrintMore
open Go.Proofs.Ytdnfmcpphamicaa.Crc Go.Proofs.Ytdnfmcpphamicaa.Pc

/-- The xor of two rows, when k of its n places are written. -/
def xorTo (la lb : List Int) (n k : Nat) : List Int := (List.range n).map fun j => if j < k then Go.bits .xor .u8 (rd la (j : Int)) (rd lb (j : Int)) else 0
theorem xorTo_zero (la lb : List Int) (n : Nat) : xorTo la lb n 0 = List.replicate n 0 := by
  apply List.ext_getElem
  · simp [xorTo]
  · intro i h1 h2; simp [xorTo]
theorem xorTo_length (la lb : List Int) (n k : Nat) : (xorTo la lb n k).length = n := by simp [xorTo]
theorem xorTo_set (la lb : List Int) (n k : Nat) : (xorTo la lb n k).set k (Go.bits .xor .u8 (rd la (k : Int)) (rd lb (k : Int))) = xorTo la lb n (k + 1) := by
  apply List.ext_getElem
  · simp [xorTo]
  · intro i h1 h2
    rw [List.getElem_set]
    by_cases e : k = i
    · subst e; simp [xorTo]
    · rw [if_neg e]
      simp only [xorTo, List.getElem_map, List.getElem_range]
      by_cases e2 : i < k
      · rw [if_pos e2, if_pos (by omega)]
      · rw [if_neg e2, if_neg (by omega)]

def XFact (A B : Option Addr) (ca cb n : Nat) (la lb : List Int) (A6 : Option Addr) (c6 : Nat) (i : Nat) (v : Value) (w_ : World) : Prop :=
  match i with
  | 0 => v = Value.slice A6 n c6
  | 1 => ∃ g : Nat, v = Value.slice (some ⟨g, 0, none⟩) 1 1 ∧ Kd.C (Kd.slice 5 (Kd.int .u8)) w_ (some ⟨g, 0, none⟩) [xorTo la lb n n].length [xorTo la lb n n]
  | 2 => v = Value.int IntKind.u32 (n32 (sum [xorTo la lb n n]))
  | 3 => v = Value.slice A la.length ca
  | 4 => v = Value.int IntKind.i64 (n : Int)
  | 5 => v = Value.slice A n ca
  | 6 => ∃ g : Nat, v = Value.slice (some ⟨g, 0, none⟩) 1 1 ∧ Kd.C (Kd.slice 5 (Kd.int .u8)) w_ (some ⟨g, 0, none⟩) [la.take n].length [la.take n]
  | 7 => v = Value.int IntKind.u32 (n32 (sum [la.take n]))
  | 8 => v = Value.slice B lb.length cb
  | 9 => v = Value.int IntKind.i64 (n : Int)
  | 10 => v = Value.slice B n cb
  | 11 => ∃ g : Nat, v = Value.slice (some ⟨g, 0, none⟩) 1 1 ∧ Kd.C (Kd.slice 5 (Kd.int .u8)) w_ (some ⟨g, 0, none⟩) [lb.take n].length [lb.take n]
  | 12 => v = Value.int IntKind.u32 (n32 (sum [lb.take n]))
  | 13 => v = Value.int IntKind.u32 (n32 (sum [la.take n] ^^^ sum [lb.take n]))
  | 14 => v = Value.int IntKind.i64 (n : Int)
  | 15 => ∃ (A : Option Addr) (c : Nat), v = Value.slice A n c ∧ n ≤ c ∧ Kd.C (Kd.int .u8) w_ A (List.replicate n (0 : Int)).length (List.replicate n (0 : Int))
  | 16 => ∃ g : Nat, v = Value.slice (some ⟨g, 0, none⟩) 1 1 ∧ Kd.C (Kd.slice 5 (Kd.int .u8)) w_ (some ⟨g, 0, none⟩) [List.replicate n (0 : Int)].length [List.replicate n (0 : Int)]
  | 17 => v = Value.int IntKind.u32 (n32 (sum [List.replicate n (0 : Int)]))
  | 18 => v = Value.int IntKind.u32 (n32 (sum [xorTo la lb n n]))
  | 19 => v = Value.bool true
  | 20 => v = Value.bool true
  | 21 => v = Value.bool true
  | 22 => v = Value.bool true
  | 23 => v = Value.bool true
  | _ => True

theorem xfact_stable {A B : Option Addr} {ca cb n : Nat} {la lb : List Int} {A6 : Option Addr} {c6 : Nat} (j : Nat) (v : Value) (w1 w2 : World) (hb : Below w1.heap.size w1 w2) (h : XFact A B ca cb n la lb A6 c6 j v w1) : XFact A B ca cb n la lb A6 c6 j v w2 := by
  unfold XFact at h ⊢
  split at h <;> first | exact h | (obtain ⟨g, e, hC⟩ := h; exact ⟨g, e, Kd.C_below hC hb⟩) | (obtain ⟨A, c, e, hl, hC⟩ := h; exact ⟨A, c, e, hl, Kd.C_below hC hb⟩)

theorem sum_rows {g : Nat} (l : List Int) (w : World) (h : Kd.C (Kd.slice 5 (Kd.int .u8)) w (some ⟨g, 0, none⟩) [l].length [l]) :
    Calls Try.prog 9 #[.slice (some ⟨g, 0, none⟩) 1 1] w fun e w' => e = .returned (.int .u32 (n32 (sum [l]))) ∧ Below w.heap.size w w' :=
  crc_Sum.calls (some ⟨g, 0, none⟩) 1 [l] _ w h (Nat.le_refl _) rfl

theorem xor_n32 (c d : BitVec 32) : Go.bits .xor .u32 (n32 c) (n32 d) = n32 (c ^^^ d) := by rw [bits_xor32, of_n32, of_n32]

theorem xors_eq (la lb : List Int) (n : Nat) (ha : n ≤ la.length) (hb : n ≤ lb.length) : sum [la.take n] ^^^ sum [lb.take n] ^^^ sum [List.replicate n 0] = sum [xorTo la lb n n] := by
  have h := sum_xor (la.take n) (lb.take n) (xorTo la lb n n) (by rw [xorTo_length, List.length_take]; omega) (by rw [xorTo_length, List.length_take]; omega) (fun i hi => by
    rw [xorTo_length] at hi
    have e1 : (xorTo la lb n n).getD i 0 = Go.bits .xor .u8 (rd la (i : Int)) (rd lb (i : Int)) := by simp [xorTo, hi]
    have e2 : (la.take n).getD i 0 = rd la (i : Int) := by simp [rd, hi]
    have e3 : (lb.take n).getD i 0 = rd lb (i : Int) := by simp [rd, hi]
    rw [e1, e2, e3, by8_xor])
  rw [xorTo_length] at h
  exact h.symm

set_option maxHeartbeats 1000000 in
set_option maxRecDepth 100000 in
theorem xors_walk (A B : Option Addr) (ca cb : Nat) (la lb : List Int) (w : World) (hra : Kd.C (Kd.int .u8) w A la.length la) (hca : la.length ≤ ca) (hrb : Kd.C (Kd.int .u8) w B lb.length lb) (hcb : lb.length ≤ cb) :
    Calls Try.prog 4 #[.slice A la.length ca, .slice B lb.length cb] w (Right w) := by
  have HA := Aside0.mk hra
  have HCA := Aside0.mk hca
  have HB := Aside0.mk hrb
  have HCB := Aside0.mk hcb
  have HW := Aside0.mk (Below.refl w.heap.size w)
  have hma := Kd.C_max hra
  have hmb := Kd.C_max hrb
  clear hra hca hrb hcb
  go_enter Try.func4, Try.ntmps4
  go_upto_region 2 with (fail)
  obtain ⟨n, hn⟩ : ∃ n : Nat, (if lb.length < la.length then (lb.length : Int) else (la.length : Int)) = (n : Int) := ⟨if lb.length < la.length then lb.length else la.length, by split <;> rfl⟩
  have hna : n ≤ la.length := by split at hn <;> omega
  have hnb : n ≤ lb.length := by split at hn <;> omega
  rw [hn]
  clear hn
  by_cases h1 : 300 < n
  · have c2 : decide (300 < (n : Int)) = true := decide_eq_true (by omega)
    have c3 : decide (300 < n) = true := decide_eq_true h1
    go_wp2_with (go_at_call 8; (with_reducible refine (chartroomlaw02_works.calls true _ rfl).mono ?_); rintro e w1 ⟨rfl, hb⟩; have HW := Aside0.mk (below_step HW.out hb); clear hb)
    go_ret
    exact ⟨rfl, HW.out⟩
  · have c2 : decide (300 < (n : Int)) = false := decide_eq_false (by omega)
    have c3 : decide (300 < n) = false := decide_eq_false h1
    have p2 : n ≤ 300 := by omega
    clear h1
    go_wp2_with (first
      | ((with_reducible refine gate_dst (N := 17) rfl ?_); refine Kd.R_make (Kd.int .u8) (w0 := w) w.heap.size 5 rfl (N := 17) rfl 22 (.tmp 16) (.tmp 16) rfl (n : Int) rfl rfl Try.underlying22 (.int .u8 0) 1 info5 rfl (by decide) (by decide) (0 : Int) (ok := fun _ => True) (okp := fun _ => True) rfl (fun _ _ => trivial) trivial (by omega) (by omega) HW.out (Nat.le_refl _) ?_; intro v6 w1 hown hb _ _; have HO := Aside0.mk (show Kd.R (Kd.int .u8) 5 w1 w.heap.size (fun _ => True) v6 (xorTo la lb n 0) by rw [xorTo_zero]; exact hown); have HW := Aside0.mk hb; clear hown hb))
    go_loopg [7] n (fun kq v7 w' => ∃ i : Nat, v7 = .int .i64 (i : Int) ∧ Aside0 (i + kq = n) ∧ Aside0 (Kd.R (Kd.int .u8) 5 w' w.heap.size (fun _ => True) v6 (xorTo la lb n i)) ∧ Aside0 (Below w.heap.size w w'))
    case atStart => exact ⟨0, rfl, ⟨by omega⟩, HO, HW⟩
    case round =>
      clear HO HW
      obtain ⟨i, rfl, HK, HO, HW⟩ := hrel
      by_cases hlt : i < n
      · have c4 : decide ((i : Int) < (n : Int)) = true := decide_eq_true (by omega)
        cases gk with
        | zero => exact absurd HK.out (by omega)
        | succ k1 =>
        obtain ⟨g, cap, e, hg, _, _⟩ := Kd.R_form HO.out (by rw [xorTo_length]; omega)
        rw [xorTo_length] at e
        subst e
        have HG := Aside0.mk hg
        clear hg
        obtain ⟨ad, e, hx⟩ := Kd.at_int (Kd.C_below HA.out HW.out) (i : Int) (by omega) (by omega)
        cases e
        obtain ⟨bd, e, hy⟩ := Kd.at_int (Kd.C_below HB.out HW.out) (i : Int) (by omega) (by omega)
        cases e
        obtain ⟨hz, hf⟩ := Kd.R_celln (0 : Int) HO.out (i : Int) (by omega) (by omega)
        rw [Int.toNat_natCast] at hx hy hz hf
        have pa : (i : Int) < (la.length : Int) := by omega
        have pb : (i : Int) < (lb.length : Int) := by omega
        have pn : (i : Int) < (n : Int) := by omega
        have HO2 := Aside0.mk (show Kd.R (Kd.int .u8) 5 (wr.setCell ⟨g, i, none⟩ (.int .u8 (Go.bits .xor .u8 (rd la (i : Int)) (rd lb (i : Int))))) w.heap.size (fun _ => True) (.slice (some ⟨g, 0, none⟩) n cap) (xorTo la lb n (i + 1)) by
          have h := Kd.R_putn HO.out (i : Int) (Go.bits .xor .u8 (rd la (i : Int)) (rd lb (i : Int)))
          rw [Int.toNat_natCast, xorTo_set] at h
          exact h)
        go_wp2
        go_region
        go_wp2
        go_roundg k1
        case measure => omega
        case rel => exact ⟨i + 1, by go_num, ⟨by have := HK.out; omega⟩, ⟨Kd.R_drew HO2.out⟩, ⟨below_drew1 (below_set HW.out HG.out)⟩⟩
      · have c4 : decide ((i : Int) < (n : Int)) = false := decide_eq_false (by omega)
        have e : n = i := by have := HK.out; omega
        subst e
        clear hlt HK c4
        go_upto_region 9 with (fail)
        have HV := Aside0.mk (xors_eq la lb n hna hnb)
        obtain ⟨A6, c6, e6, hl6, hC6⟩ := Kd.R_reads HO.out
        rw [xorTo_length] at e6
        subst e6
        have H6 := Aside0.mk (show n ≤ c6 by rw [xorTo_length] at hl6; exact hl6)
        have HX := Aside0.mk (show n = (xorTo la lb n n).length by rw [xorTo_length])
        have HC6 := Aside0.mk hC6
        clear HO hl6 hC6
        obtain ⟨i5, hi5, _⟩ := Option.map_eq_some_iff.1 info5
        have KA := Aside0.mk (cut_to (P := Try.prog) 22 5 .i64 Try.underlying22 hi5 A la.length ca (n : Int) (by omega) (by omega) HCA.out)
        have KB := Aside0.mk (cut_to (P := Try.prog) 22 5 .i64 Try.underlying22 hi5 B lb.length cb (n : Int) (by omega) (by omega) HCB.out)
        have HTA := Aside0.mk (show (la.take n).length = n by rw [List.length_take]; omega)
        have HTB := Aside0.mk (show (lb.take n).length = n by rw [List.length_take]; omega)
        have HCTA := Aside0.mk (Kd.C_take HA.out hna)
        have HCTB := Aside0.mk (Kd.C_take HB.out hnb)
        clear hi5
        refine Reg.region (fr := (fun x : Nat → Value => (⟨#[Value.slice A la.length ca, Value.slice B lb.length cb, undef, undef, x 4, Value.int IntKind.i64 ↑n, Value.slice A6 n c6, Value.int IntKind.i64 ↑n, Value.slice A la.length ca, Value.int IntKind.i64 ↑la.length, Value.slice B lb.length cb, Value.int IntKind.i64 ↑lb.length, Value.int IntKind.i64 ↑n, Value.int IntKind.i64 ↑n, Value.bool false, undef, Value.int IntKind.i64 ↑n, Value.slice A6 n c6, Value.int IntKind.i64 ↑n, Value.int IntKind.i64 ↑n, Value.bool false, u21, u22, u23, u24, u25, u26, u27, u28, u29, u30, u31, u32, u33, u34, x 35, x 36, x 37, x 38, x 39, x 40, x 41, x 42, x 43, x 44, x 45, x 46, x 47, x 48, x 49, x 50, x 51, x 52, x 53, x 54, x 55, x 56, x 57], []⟩ : Act))) (dst := fun i => if i < 23 then 35 + i else 4) (fun w' => Below w.heap.size w w' ∧ Kd.C (Kd.int .u8) w' A6 (xorTo la lb n n).length (xorTo la lb n n)) (XFact A B ca cb n la lb A6 c6) (fun s => if s = 4 then .bool false else undef) rfl (by kernel_rfl) (by kernel_rfl) ?inj ?stable ?inv ?step ?fin
        case inj =>
          intro i j hi hj h
          have hi2 : i < 24 := hi
          have hj2 : j < 24 := hj
          have h' : (if i < 23 then 35 + i else 4) = (if j < 23 then 35 + j else 4) := h
          split at h' <;> split at h' <;> omega
        case stable => exact fun j v w1 w2 hb h => xfact_stable j v w1 w2 hb h
        case inv => exact ⟨below_drew1 HW.out, Kd.C_drew HC6.out⟩
        case fin =>
          intro x w' hG hF
          have h4 : x 4 = Value.bool true := hF 23 (by decide)
          obtain ⟨hB, _⟩ := hG
          dsimp only []
          go_wp2
          go_ret
          exact ⟨congrArg Ending.returned h4, hB⟩
        case step =>
          clear HW HC6
          intro i hi
          have hi2 : i < 24 := hi
          have hi3 : i = 0 ∨ i = 1 ∨ i = 2 ∨ i = 3 ∨ i = 4 ∨ i = 5 ∨ i = 6 ∨ i = 7 ∨ i = 8 ∨ i = 9 ∨ i = 10 ∨ i = 11 ∨ i = 12 ∨ i = 13 ∨ i = 14 ∨ i = 15 ∨ i = 16 ∨ i = 17 ∨ i = 18 ∨ i = 19 ∨ i = 20 ∨ i = 21 ∨ i = 22 ∨ i = 23 := by omega
          clear hi hi2
          rcases hi3 with rfl | rfl | rfl | rfl | rfl | rfl | rfl | rfl | rfl | rfl | rfl | rfl | rfl | rfl | rfl | rfl | rfl | rfl | rfl | rfl | rfl | rfl | rfl | rfl
          · intro o ho x w' hG hd
            injection ho with ho
            subst ho
            obtain ⟨hB, hO⟩ := hG
            dsimp only []
            go_wp2
            exact ⟨_, (by simp [Reg.upd]), ⟨hB, hO⟩, Below.refl _ _, rfl⟩
          · intro o ho x w' hG hd
            injection ho with ho
            subst ho
            obtain ⟨hB, hO⟩ := hG
            have h0 : x 35 = Value.slice A6 n c6 := hd 0 rfl
            dsimp only []
            go_wp2_with ((with_reducible refine gate_dst (N := 36) rfl ?_); refine lit_event rfl (N := 36) rfl _ _ _ (build_run 31 22 1 #[Value.slice A6 n c6] info22 Try.underlying31 _ rfl (by omega) (by omega) _ (fill1 _ _ _) (by go_simp)) ?_; intro g _ w1 hbox hb)
            exact ⟨_, (by simp [Reg.upd, h0]), ⟨below_step hB hb, Kd.C_below hO hb⟩, hb, g, rfl, C_row1 (xorTo la lb n n) hbox HX.out (by rw [xorTo_length]; exact H6.out) (Kd.C_below hO hb)⟩
          · intro o ho x w' hG hd
            injection ho with ho
            subst ho
            obtain ⟨hB, hO⟩ := hG
            have h1 : ∃ g : Nat, x 36 = Value.slice (some ⟨g, 0, none⟩) 1 1 ∧ Kd.C (Kd.slice 5 (Kd.int .u8)) w' (some ⟨g, 0, none⟩) [xorTo la lb n n].length [xorTo la lb n n] := hd 1 rfl
            dsimp only []
            obtain ⟨g, e, hC⟩ := h1
            go_wp2_with (go_at_call 9; (with_reducible refine (sum_rows (xorTo la lb n n) _ hC).mono ?_); rintro e1 w1 ⟨rfl, hb⟩)
            exact ⟨_, (by simp [Reg.upd, e]), ⟨below_step hB hb, Kd.C_below hO hb⟩, hb, rfl⟩
          · intro o ho x w' hG hd
            injection ho with ho
            subst ho
            obtain ⟨hB, hO⟩ := hG
            dsimp only []
            go_wp2
            exact ⟨_, (by simp [Reg.upd]), ⟨hB, hO⟩, Below.refl _ _, rfl⟩
          · intro o ho x w' hG hd
            injection ho with ho
            subst ho
            obtain ⟨hB, hO⟩ := hG
            dsimp only []
            go_wp2
            exact ⟨_, (by simp [Reg.upd]), ⟨hB, hO⟩, Below.refl _ _, rfl⟩
          · intro o ho x w' hG hd
            injection ho with ho
            subst ho
            obtain ⟨hB, hO⟩ := hG
            have h3 : x 38 = Value.slice A la.length ca := hd 3 rfl
            have h4 : x 39 = Value.int IntKind.i64 (n : Int) := hd 4 rfl
            dsimp only []
            have ka := KA.out
            go_wp2
            exact ⟨_, (by simp [Reg.upd, h3, h4]), ⟨hB, hO⟩, Below.refl _ _, rfl⟩
          · intro o ho x w' hG hd
            injection ho with ho
            subst ho
            obtain ⟨hB, hO⟩ := hG
            have h5 : x 40 = Value.slice A n ca := hd 5 rfl
            dsimp only []
            go_wp2_with ((with_reducible refine gate_dst (N := 41) rfl ?_); refine lit_event rfl (N := 41) rfl _ _ _ (build_run 31 22 1 #[Value.slice A n ca] info22 Try.underlying31 _ rfl (by omega) (by omega) _ (fill1 _ _ _) (by go_simp)) ?_; intro g _ w1 hbox hb)
            exact ⟨_, (by simp [Reg.upd, h5]), ⟨below_step hB hb, Kd.C_below hO hb⟩, hb, g, rfl, C_row1 (la.take n) hbox HTA.out.symm (by rw [HTA.out]; exact Nat.le_trans hna HCA.out) (Kd.C_below (Kd.C_below HCTA.out hB) hb)⟩
          · intro o ho x w' hG hd
            injection ho with ho
            subst ho
            obtain ⟨hB, hO⟩ := hG
            have h6 : ∃ g : Nat, x 41 = Value.slice (some ⟨g, 0, none⟩) 1 1 ∧ Kd.C (Kd.slice 5 (Kd.int .u8)) w' (some ⟨g, 0, none⟩) [la.take n].length [la.take n] := hd 6 rfl
            dsimp only []
            obtain ⟨g, e, hC⟩ := h6
            go_wp2_with (go_at_call 9; (with_reducible refine (sum_rows (la.take n) _ hC).mono ?_); rintro e1 w1 ⟨rfl, hb⟩)
            exact ⟨_, (by simp [Reg.upd, e]), ⟨below_step hB hb, Kd.C_below hO hb⟩, hb, rfl⟩
          · intro o ho x w' hG hd
            injection ho with ho
            subst ho
            obtain ⟨hB, hO⟩ := hG
            dsimp only []
            go_wp2
            exact ⟨_, (by simp [Reg.upd]), ⟨hB, hO⟩, Below.refl _ _, rfl⟩
          · intro o ho x w' hG hd
            injection ho with ho
            subst ho
            obtain ⟨hB, hO⟩ := hG
            dsimp only []
            go_wp2
            exact ⟨_, (by simp [Reg.upd]), ⟨hB, hO⟩, Below.refl _ _, rfl⟩
          · intro o ho x w' hG hd
            injection ho with ho
            subst ho
            obtain ⟨hB, hO⟩ := hG
            have h8 : x 43 = Value.slice B lb.length cb := hd 8 rfl
            have h9 : x 44 = Value.int IntKind.i64 (n : Int) := hd 9 rfl
            dsimp only []
            have kb := KB.out
            go_wp2
            exact ⟨_, (by simp [Reg.upd, h8, h9]), ⟨hB, hO⟩, Below.refl _ _, rfl⟩
          · intro o ho x w' hG hd
            injection ho with ho
            subst ho
            obtain ⟨hB, hO⟩ := hG
            have h10 : x 45 = Value.slice B n cb := hd 10 rfl
            dsimp only []
            go_wp2_with ((with_reducible refine gate_dst (N := 46) rfl ?_); refine lit_event rfl (N := 46) rfl _ _ _ (build_run 31 22 1 #[Value.slice B n cb] info22 Try.underlying31 _ rfl (by omega) (by omega) _ (fill1 _ _ _) (by go_simp)) ?_; intro g _ w1 hbox hb)
            exact ⟨_, (by simp [Reg.upd, h10]), ⟨below_step hB hb, Kd.C_below hO hb⟩, hb, g, rfl, C_row1 (lb.take n) hbox HTB.out.symm (by rw [HTB.out]; exact Nat.le_trans hnb HCB.out) (Kd.C_below (Kd.C_below HCTB.out hB) hb)⟩
          · intro o ho x w' hG hd
            injection ho with ho
            subst ho
            obtain ⟨hB, hO⟩ := hG
            have h11 : ∃ g : Nat, x 46 = Value.slice (some ⟨g, 0, none⟩) 1 1 ∧ Kd.C (Kd.slice 5 (Kd.int .u8)) w' (some ⟨g, 0, none⟩) [lb.take n].length [lb.take n] := hd 11 rfl
            dsimp only []
            obtain ⟨g, e, hC⟩ := h11
            go_wp2_with (go_at_call 9; (with_reducible refine (sum_rows (lb.take n) _ hC).mono ?_); rintro e1 w1 ⟨rfl, hb⟩)
            exact ⟨_, (by simp [Reg.upd, e]), ⟨below_step hB hb, Kd.C_below hO hb⟩, hb, rfl⟩
          · intro o ho x w' hG hd
            injection ho with ho
            subst ho
            obtain ⟨hB, hO⟩ := hG
            have h7 : x 42 = Value.int IntKind.u32 (n32 (sum [la.take n])) := hd 7 rfl
            have h12 : x 47 = Value.int IntKind.u32 (n32 (sum [lb.take n])) := hd 12 rfl
            dsimp only []
            have hx := xor_n32 (sum [la.take n]) (sum [lb.take n])
            go_wp2
            exact ⟨_, (by simp [Reg.upd, h7, h12]), ⟨hB, hO⟩, Below.refl _ _, rfl⟩
          · intro o ho x w' hG hd
            injection ho with ho
            subst ho
            obtain ⟨hB, hO⟩ := hG
            dsimp only []
            go_wp2
            exact ⟨_, (by simp [Reg.upd]), ⟨hB, hO⟩, Below.refl _ _, rfl⟩
          · intro o ho x w' hG hd
            injection ho with ho
            subst ho
            obtain ⟨hB, hO⟩ := hG
            have h14 : x 49 = Value.int IntKind.i64 (n : Int) := hd 14 rfl
            dsimp only []
            go_wp2_with ((with_reducible refine gate_dst (N := 50) rfl ?_); refine Kd.R_make (Kd.int .u8) (w0 := w') w'.heap.size 5 rfl (N := 50) rfl 22 (.tmp 49) (.tmp 49) rfl (n : Int) (by go_simp) (by go_simp) Try.underlying22 (.int .u8 0) 1 info5 rfl (by decide) (by decide) (0 : Int) (ok := fun _ => True) (okp := fun _ => True) rfl (fun _ _ => trivial) trivial (by omega) (by omega) (Below.refl _ _) (Nat.le_refl _) ?_; intro v1 w1 hown hb _ _)
            obtain ⟨A1, k1, e1, hl1, hC1⟩ := Kd.R_reads hown
            rw [List.length_replicate, Int.toNat_natCast] at e1 hl1
            rw [Int.toNat_natCast] at hC1
            subst e1
            exact ⟨_, (by simp [Reg.upd, h14]), ⟨below_step hB hb, Kd.C_below hO hb⟩, hb, A1, k1, rfl, hl1, hC1⟩
          · intro o ho x w' hG hd
            injection ho with ho
            subst ho
            obtain ⟨hB, hO⟩ := hG
            have h15 : ∃ (A : Option Addr) (c : Nat), x 50 = Value.slice A n c ∧ n ≤ c ∧ Kd.C (Kd.int .u8) w' A (List.replicate n (0 : Int)).length (List.replicate n (0 : Int)) := hd 15 rfl
            dsimp only []
            obtain ⟨A1, k1, e1, hl1, hC1⟩ := h15
            go_wp2_with ((with_reducible refine gate_dst (N := 51) rfl ?_); refine lit_event rfl (N := 51) rfl _ _ _ (build_run 31 22 1 #[Value.slice A1 n k1] info22 Try.underlying31 _ rfl (by omega) (by omega) _ (fill1 _ _ _) (by go_simp)) ?_; intro g _ w1 hbox hb)
            exact ⟨_, (by simp [Reg.upd, e1]), ⟨below_step hB hb, Kd.C_below hO hb⟩, hb, g, rfl, C_row1 (List.replicate n (0 : Int)) hbox (by simp) (by simpa using hl1) (Kd.C_below hC1 hb)⟩
          · intro o ho x w' hG hd
            injection ho with ho
            subst ho
            obtain ⟨hB, hO⟩ := hG
            have h16 : ∃ g : Nat, x 51 = Value.slice (some ⟨g, 0, none⟩) 1 1 ∧ Kd.C (Kd.slice 5 (Kd.int .u8)) w' (some ⟨g, 0, none⟩) [List.replicate n (0 : Int)].length [List.replicate n (0 : Int)] := hd 16 rfl
            dsimp only []
            obtain ⟨g, e, hC⟩ := h16
            go_wp2_with (go_at_call 9; (with_reducible refine (sum_rows (List.replicate n (0 : Int)) _ hC).mono ?_); rintro e1 w1 ⟨rfl, hb⟩)
            exact ⟨_, (by simp [Reg.upd, e]), ⟨below_step hB hb, Kd.C_below hO hb⟩, hb, rfl⟩
          · intro o ho x w' hG hd
            injection ho with ho
            subst ho
            obtain ⟨hB, hO⟩ := hG
            have h13 : x 48 = Value.int IntKind.u32 (n32 (sum [la.take n] ^^^ sum [lb.take n])) := hd 13 rfl
            have h17 : x 52 = Value.int IntKind.u32 (n32 (sum [List.replicate n (0 : Int)])) := hd 17 rfl
            dsimp only []
            have hx := xor_n32 (sum [la.take n] ^^^ sum [lb.take n]) (sum [List.replicate n (0 : Int)])
            rw [HV.out] at hx
            go_wp2
            exact ⟨_, (by simp [Reg.upd, h13, h17]), ⟨hB, hO⟩, Below.refl _ _, rfl⟩
          · intro o ho x w' hG hd
            injection ho with ho
            subst ho
            obtain ⟨hB, hO⟩ := hG
            have h2 : x 37 = Value.int IntKind.u32 (n32 (sum [xorTo la lb n n])) := hd 2 rfl
            have h18 : x 53 = Value.int IntKind.u32 (n32 (sum [xorTo la lb n n])) := hd 18 rfl
            dsimp only []
            go_wp2
            exact ⟨_, (by simp [Reg.upd, h2, h18]), ⟨hB, hO⟩, Below.refl _ _, rfl⟩
          · intro o ho x w' hG hd
            injection ho with ho
            subst ho
            obtain ⟨hB, hO⟩ := hG
            have h19 : x 54 = Value.bool true := hd 19 rfl
            dsimp only []
            go_wp2
            exact ⟨_, (by simp [Reg.upd, h19]), ⟨hB, hO⟩, Below.refl _ _, rfl⟩
          · intro o ho x w' hG hd
            injection ho with ho
            subst ho
            obtain ⟨hB, hO⟩ := hG
            have h20 : x 55 = Value.bool true := hd 20 rfl
            dsimp only []
            go_wp2_with (go_at_call 8; (with_reducible refine (chartroomlaw02_works.calls true _ rfl).mono ?_); rintro e1 w1 ⟨rfl, hb⟩)
            exact ⟨_, (by simp [Reg.upd, h20]), ⟨below_step hB hb, Kd.C_below hO hb⟩, hb, rfl⟩
          · intro o ho x w' hG hd
            injection ho with ho
            subst ho
            obtain ⟨hB, hO⟩ := hG
            have h20 : x 55 = Value.bool true := hd 20 rfl
            have h21 : x 56 = Value.bool true := hd 21 rfl
            dsimp only []
            go_wp2
            exact ⟨_, (by simp [Reg.upd, h20, h21]), ⟨hB, hO⟩, Below.refl _ _, rfl⟩
          · intro o ho x w' hG hd
            injection ho with ho
            subst ho
            obtain ⟨hB, hO⟩ := hG
            have h22 : x 57 = Value.bool true := hd 22 rfl
            dsimp only []
            go_wp2
            exact ⟨_, (by simp [Reg.upd, h22]), ⟨hB, hO⟩, Below.refl _ _, rfl⟩

theorem xors_row (a0 : Option Addr) (len0 cap0 : Nat) (z0 : List Int) (a1 : Option Addr) (len1 cap1 : Nat) (z1 : List Int) (w : World)
    (w0 : (a0 = none ∧ len0 = 0 ∧ cap0 = 0 ∧ z0 = []) ∨ ∃ x, a0 = some x ∧ len0 ≤ cap0 ∧ cap0 ≤ maxLen ∧ z0.length = cap0 ∧ (∀ i, i < z0.length → w.cell? (x.add i) = some (.int .u8 (z0.getD i 0))) ∧ ∀ n ∈ z0, (Lit.int .u8 n).wf = true)
    (w1 : (a1 = none ∧ len1 = 0 ∧ cap1 = 0 ∧ z1 = []) ∨ ∃ x, a1 = some x ∧ len1 ≤ cap1 ∧ cap1 ≤ maxLen ∧ z1.length = cap1 ∧ (∀ i, i < z1.length → w.cell? (x.add i) = some (.int .u8 (z1.getD i 0))) ∧ ∀ n ∈ z1, (Lit.int .u8 n).wf = true) :
    Calls Try.prog 4 #[.slice a0 len0 cap0, .slice a1 len1 cap1] w (fun e w' => e = .returned (.bool true) ∧ Below w.heap.size w w') := by
  obtain ⟨l0, rfl, hr0, _, _, hc0⟩ := ReadsInt.ofRowC w0
  obtain ⟨l1, rfl, hr1, _, _, hc1⟩ := ReadsInt.ofRowC w1
  exact xors_walk a0 a1 cap0 cap1 l0 l1 w (Kd.C_of_reads (d := (0 : Int)) (h1 := fun _ => rfl) hr0) hc0 (Kd.C_of_reads (d := (0 : Int)) (h1 := fun _ => rfl) hr1) hc1
end Go.Proofs.Ytdnfmcpphamicaa
