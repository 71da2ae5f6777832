/- ClockKnown's walk: the examples of the chapter; numbers about their bounds, with one another; a closed statement. -/
import Derived.Test.YtonchomjddhciaaNew
import Derived.Test.YtonchomjddhciaaRegion
namespace Go.Proofs.Ytonchomjddhciaa.Clk
open Go.RowKit Go.Proofs.YtonchomjddhciaaW.PrintWords Go.Proofs.YtonchomjddhciaaW.PrintLast Go.Proofs.YtonchomjddhciaaW.PrintMore
set_option linter.unusedVariables false
set_option linter.unusedSimpArgs false

def KFact (gl i k n : Nat) (a b c : Int) (j_ : Nat) (v : Value) (w_ : World) : Prop :=
  match j_ with
  | 0 => v = Value.slice (some ⟨gl, 0, none⟩) 7 7
  | 1 => v = Value.int IntKind.i64 (i : Int)
  | 2 => v = Value.pointer (some ⟨gl, i, none⟩)
  | 3 => v = Value.int IntKind.u64 a
  | 4 => v = Value.slice (some ⟨gl, 0, none⟩) 7 7
  | 5 => v = Value.int IntKind.i64 (k : Int)
  | 6 => v = Value.pointer (some ⟨gl, k, none⟩)
  | 7 => v = Value.int IntKind.u64 b
  | 8 => v = Value.slice (some ⟨gl, 0, none⟩) 7 7
  | 9 => v = Value.int IntKind.i64 (n : Int)
  | 10 => v = Value.pointer (some ⟨gl, n, none⟩)
  | 11 => v = Value.int IntKind.u64 c
  | 12 => ∃ g : Nat, v = Value.slice (some ⟨g, 0, none⟩) 3 3 ∧ Rd w_ (some ⟨g, 0, none⟩) [a, b, c]
  | 13 => v = Value.slice (some ⟨gl, 0, none⟩) 7 7
  | 14 => v = Value.int IntKind.i64 (i : Int)
  | 15 => v = Value.pointer (some ⟨gl, i, none⟩)
  | 16 => v = Value.int IntKind.u64 a
  | 17 => v = Value.slice (some ⟨gl, 0, none⟩) 7 7
  | 18 => v = Value.int IntKind.i64 (k : Int)
  | 19 => v = Value.pointer (some ⟨gl, k, none⟩)
  | 20 => v = Value.int IntKind.u64 b
  | 21 => v = Value.slice (some ⟨gl, 0, none⟩) 7 7
  | 22 => v = Value.int IntKind.i64 (n : Int)
  | 23 => v = Value.pointer (some ⟨gl, n, none⟩)
  | 24 => v = Value.int IntKind.u64 c
  | 25 => v = Value.bool true
  | 26 => v = Value.bool false
  | 27 => v = Value.bool false
  | 28 => v = Value.slice (some ⟨gl, 0, none⟩) 7 7
  | 29 => v = Value.int IntKind.i64 (i : Int)
  | 30 => v = Value.pointer (some ⟨gl, i, none⟩)
  | 31 => v = Value.int IntKind.u64 a
  | 32 => v = Value.slice (some ⟨gl, 0, none⟩) 7 7
  | 33 => v = Value.int IntKind.i64 (k : Int)
  | 34 => v = Value.pointer (some ⟨gl, k, none⟩)
  | 35 => v = Value.int IntKind.u64 b
  | 36 => ∃ g : Nat, v = Value.slice (some ⟨g, 0, none⟩) 3 3 ∧ Rd w_ (some ⟨g, 0, none⟩) [a, b, 5]
  | 37 => v = Value.int IntKind.i64 (n : Int)
  | 38 => ∃ z : Int, v = Value.int IntKind.i64 z
  | 39 => ∃ z : Int, v = Value.int IntKind.i64 z
  | 40 => v = Value.slice (some ⟨gl, 0, none⟩) 7 7
  | 41 => v = Value.int IntKind.i64 (n : Int)
  | 42 => v = Value.pointer (some ⟨gl, n, none⟩)
  | 43 => v = Value.int IntKind.u64 c
  | 44 => v = Value.slice (some ⟨gl, 0, none⟩) 7 7
  | 45 => v = Value.int IntKind.i64 (k : Int)
  | 46 => v = Value.pointer (some ⟨gl, k, none⟩)
  | 47 => v = Value.int IntKind.u64 b
  | 48 => v = Value.slice (some ⟨gl, 0, none⟩) 7 7
  | 49 => v = Value.int IntKind.i64 (i : Int)
  | 50 => v = Value.pointer (some ⟨gl, i, none⟩)
  | 51 => v = Value.int IntKind.u64 a
  | 52 => v = Value.bool true
  | 53 => v = Value.bool false
  | 54 => v = Value.bool false
  | 55 => v = Value.bool false
  | 56 => v = Value.slice (some ⟨gl, 0, none⟩) 7 7
  | 57 => v = Value.int IntKind.i64 (i : Int)
  | 58 => v = Value.pointer (some ⟨gl, i, none⟩)
  | 59 => v = Value.int IntKind.u64 a
  | 60 => v = Value.slice (some ⟨gl, 0, none⟩) 7 7
  | 61 => v = Value.int IntKind.i64 (k : Int)
  | 62 => v = Value.pointer (some ⟨gl, k, none⟩)
  | 63 => v = Value.int IntKind.u64 b
  | 64 => ∃ g : Nat, v = Value.slice (some ⟨g, 0, none⟩) 2 2 ∧ Rd w_ (some ⟨g, 0, none⟩) [a, b]
  | 65 => v = Value.int IntKind.i64 (n : Int)
  | 66 => ∃ z : Int, v = Value.int IntKind.i64 z
  | 67 => ∃ z : Int, v = Value.int IntKind.i64 z
  | 68 => v = Value.slice (some ⟨gl, 0, none⟩) 7 7
  | 69 => v = Value.int IntKind.i64 (n : Int)
  | 70 => v = Value.pointer (some ⟨gl, n, none⟩)
  | 71 => v = Value.int IntKind.u64 c
  | 72 => ∃ z : Int, v = Value.agg #[Value.int IntKind.i64 z, Value.int IntKind.u64 c]
  | 73 => v = Value.slice (some ⟨gl, 0, none⟩) 7 7
  | 74 => v = Value.int IntKind.i64 (i : Int)
  | 75 => v = Value.pointer (some ⟨gl, i, none⟩)
  | 76 => v = Value.int IntKind.u64 a
  | 77 => v = Value.agg #[Value.int IntKind.i64 1, Value.int IntKind.u64 a]
  | 78 => ∃ (g : Nat) (z : Int), v = Value.slice (some ⟨g, 0, none⟩) 2 2 ∧ RdA w_ (some ⟨g, 0, none⟩) [(z, c), (1, a)]
  | 79 => v = Value.slice (some ⟨gl, 0, none⟩) 7 7
  | 80 => v = Value.int IntKind.i64 (n : Int)
  | 81 => v = Value.pointer (some ⟨gl, n, none⟩)
  | 82 => v = Value.int IntKind.u64 c
  | 83 => v = Value.bool true
  | 84 => v = Value.bool false
  | 85 => v = Value.bool false
  | _ => True

theorem kfact_stable {gl i k n : Nat} {a b c : Int} (j : Nat) (v : Value) (w1 w2 : World) (hb : Below w1.heap.size w1 w2) (h : KFact gl i k n a b c j v w1) : KFact gl i k n a b c j v w2 := by
  unfold KFact at h ⊢
  split at h <;> first | exact h | (obtain ⟨g, e, hC⟩ := h; exact ⟨g, e, hC.below hb⟩) | (obtain ⟨g, z, e, hC⟩ := h; exact ⟨g, z, e, hC.below hb⟩)

set_option maxHeartbeats 4000000 in
set_option maxRecDepth 100000 in
theorem known_walk (w : World) : Calls Try.prog 4 #[] w (Right w) := by
  go_enter Try.func4, Try.ntmps4
  go_wp2_with ((with_reducible refine gate_dst (N := 6) rfl ?_); refine lit_event rfl (N := 6) rfl _ _ _ (build_runN 27 22 7 #[Value.int .u64 0, Value.int .u64 1, Value.int .u64 2, Value.int .u64 9223372036854775807, Value.int .u64 9223372036854775808, Value.int .u64 18446744073709551614, Value.int .u64 18446744073709551615] info22 Try.underlying27 _ rfl (by omega) (by omega) _ (fillU7 _ _ _ _ _ _ _) (by go_simp)) ?_; intro gl _ w1 hbox hb; have HL := Aside0.mk (rd_blk vals hbox rfl (by decide)); have HB := Aside0.mk hb; clear hbox hb)
  go_loopg [2] 7 (fun kq v2 w' => ∃ i : Nat, v2 = .int .i64 (i : Int) ∧ Aside0 (i + kq = 7) ∧ Aside0 (Rd w' (some ⟨gl, 0, none⟩) vals) ∧ Aside0 (Below w.heap.size w w'))
  case atStart => exact ⟨0, rfl, ⟨rfl⟩, HL, HB⟩
  case round =>
    clear HL HB
    obtain ⟨i, rfl, HKi, HL, HB⟩ := hrel
    by_cases hi : i < 7
    · have ci : decide ((i : Int) < 7) = true := decide_eq_true (by omega)
      have HI := Aside0.mk hi
      have pi : (i : Int) < 7 := by omega
      cases gk with
      | zero => exact absurd HKi.out (by omega)
      | succ k1 =>
      clear hi
      go_wp2
      go_loopg [3] 7 (fun kq v3 w' => ∃ k : Nat, v3 = .int .i64 (k : Int) ∧ Aside0 (k + kq = 7) ∧ Aside0 (Rd w' (some ⟨gl, 0, none⟩) vals) ∧ Aside0 (Below w.heap.size w w'))
      case atStart => exact ⟨0, rfl, ⟨rfl⟩, HL, HB⟩
      case round =>
        clear HL HB
        obtain ⟨k, rfl, HKk, HL, HB⟩ := hrel
        by_cases hk : k < 7
        · have ck : decide ((k : Int) < 7) = true := decide_eq_true (by omega)
          have HK := Aside0.mk hk
          have pk : (k : Int) < 7 := by omega
          cases gk with
          | zero => exact absurd HKk.out (by omega)
          | succ k2 =>
          clear hk
          go_wp2
          go_loopg [4] 7 (fun kq v4 w' => ∃ n : Nat, v4 = .int .i64 (n : Int) ∧ Aside0 (n + kq = 7) ∧ Aside0 (Rd w' (some ⟨gl, 0, none⟩) vals) ∧ Aside0 (Below w.heap.size w w'))
          case atStart => exact ⟨0, rfl, ⟨rfl⟩, HL, HB⟩
          case round =>
            clear HL HB
            obtain ⟨n, rfl, HKn, HL, HB⟩ := hrel
            by_cases hn : n < 7
            · have cn : decide ((n : Int) < 7) = true := decide_eq_true (by omega)
              have HN := Aside0.mk hn
              have pn : (n : Int) < 7 := by omega
              cases gk with
              | zero => exact absurd HKn.out (by omega)
              | succ k3 =>
              clear hn
              go_wp2
              simp only [List.append_eq, List.cons_append, List.nil_append]
              obtain ⟨ad, e, hxi⟩ := Rd.val HL.out i HI.out
              cases e
              rw [add_plain] at hxi
              obtain ⟨ad, e, hxk⟩ := Rd.val HL.out k HK.out
              cases e
              rw [add_plain] at hxk
              obtain ⟨ad, e, hxn⟩ := Rd.val HL.out n HN.out
              cases e
              rw [add_plain] at hxn
              obtain ⟨a, ha⟩ : ∃ z, z = nth vals i := ⟨_, rfl⟩
              have FA := Aside0.mk (show Fit a by rw [ha]; exact vals_fit i HI.out)
              have HXi := Aside0.mk (show wr.cell? ⟨gl, i, none⟩ = some (.int .u64 a) by rw [ha]; exact hxi)
              obtain ⟨b, hb⟩ : ∃ z, z = nth vals k := ⟨_, rfl⟩
              have FB := Aside0.mk (show Fit b by rw [hb]; exact vals_fit k HK.out)
              have HXk := Aside0.mk (show wr.cell? ⟨gl, k, none⟩ = some (.int .u64 b) by rw [hb]; exact hxk)
              obtain ⟨c, hc⟩ : ∃ z, z = nth vals n := ⟨_, rfl⟩
              have FC := Aside0.mk (show Fit c by rw [hc]; exact vals_fit n HN.out)
              have HXn := Aside0.mk (show wr.cell? ⟨gl, n, none⟩ = some (.int .u64 c) by rw [hc]; exact hxn)
              clear hxi hxk hxn ha hb hc
              refine Reg.region (fr := (fun x : Nat → Value => (⟨#[u0, Value.slice (some ⟨gl, 0, none⟩) 7 7, Value.int IntKind.i64 (i : Int), Value.int IntKind.i64 (k : Int), Value.int IntKind.i64 (n : Int), undef, Value.slice (some ⟨gl, 0, none⟩) 7 7, Value.int IntKind.i64 (i : Int), Value.slice (some ⟨gl, 0, none⟩) 7 7, Value.int IntKind.i64 7, Value.bool true, u11, u12, Value.int IntKind.i64 (k : Int), Value.slice (some ⟨gl, 0, none⟩) 7 7, Value.int IntKind.i64 7, Value.bool true, u17, u18, Value.int IntKind.i64 (n : Int), Value.slice (some ⟨gl, 0, none⟩) 7 7, Value.int IntKind.i64 7, Value.bool true, u23, u24, x 25, x 26, x 27, x 28, x 29, x 30, x 31, x 32, x 33, x 34, x 35, x 36, x 37, x 38, x 39, x 40, x 41, x 42, x 43, x 44, x 45, x 46, x 47, x 48, x 49, x 50, x 51, x 52, x 53, x 54, x 55, x 56, x 57, x 58, x 59, x 60, x 61, x 62, x 63, x 64, x 65, x 66, x 67, x 68, x 69, x 70, x 71, x 72, x 73, x 74, x 75, x 76, x 77, x 78, x 79, x 80, x 81, x 82, x 83, x 84, x 85, x 86, x 87, x 88, x 89, x 90, x 91, x 92, x 93, x 94, x 95, x 96, x 97, x 98, x 99, x 100, x 101, x 102, x 103, x 104, x 105, x 106, x 107, x 108, x 109, x 110, undef, undef, undef, undef, undef, undef, undef, undef, undef, undef, undef, undef, undef, undef, undef, undef, undef, undef, undef, undef, undef, undef, undef], []⟩ : Act))) (dst := fun i => 25 + i) (fun w' => Below wr.heap.size wr w') (KFact gl i k n a b c) (fun s_ => [u25, u26, u27, u28, u29, u30, u31, u32, u33, u34, u35, u36, u37, u38, u39, u40, u41, u42, u43, u44, u45, u46, u47, u48, u49, u50, u51, u52, u53, u54, u55, u56, u57, u58, u59, u60, u61, u62, u63, u64, u65, u66, u67, u68, u69, u70, u71, u72, u73, u74, u75, u76, u77, u78, u79, u80, u81, u82, u83, u84, u85, u86, u87, u88, u89, u90, u91, u92, u93, u94, u95, u96, u97, u98, u99, u100, u101, u102, u103, u104, u105, u106, u107, u108, u109, u110].getD (s_ - 25) undef) rfl (by kernel_rfl) (by kernel_rfl) ?inj ?stable ?inv ?step ?fin
              case inj =>
                intro i j hi hj h
                have h' : 25 + i = 25 + j := h
                omega
              case stable => exact fun j v w1 w2 hb h => kfact_stable j v w1 w2 hb h
              case inv => exact below_drew1 (Below.refl _ _)
              case fin =>
                intro x w' hG hF
                have h110 : x 110 = Value.bool false := hF 85 (by decide)
                have HW := Aside0.mk (show Below wr.heap.size wr w' from hG)
                dsimp only []
                go_wp2
                go_simp
                go_wp2
                go_roundg k3
                case measure => omega
                case rel => exact ⟨n + 1, by go_num, ⟨by have := HKn.out; omega⟩, ⟨HL.out.below HW.out⟩, ⟨below_step HB.out HW.out⟩⟩
              case step =>
                intro i_ hi_
                have hi2 : i_ < 86 := hi_
                have hi3 : i_ = 0 ∨ i_ = 1 ∨ i_ = 2 ∨ i_ = 3 ∨ i_ = 4 ∨ i_ = 5 ∨ i_ = 6 ∨ i_ = 7 ∨ i_ = 8 ∨ i_ = 9 ∨ i_ = 10 ∨ i_ = 11 ∨ i_ = 12 ∨ i_ = 13 ∨ i_ = 14 ∨ i_ = 15 ∨ i_ = 16 ∨ i_ = 17 ∨ i_ = 18 ∨ i_ = 19 ∨ i_ = 20 ∨ i_ = 21 ∨ i_ = 22 ∨ i_ = 23 ∨ i_ = 24 ∨ i_ = 25 ∨ i_ = 26 ∨ i_ = 27 ∨ i_ = 28 ∨ i_ = 29 ∨ i_ = 30 ∨ i_ = 31 ∨ i_ = 32 ∨ i_ = 33 ∨ i_ = 34 ∨ i_ = 35 ∨ i_ = 36 ∨ i_ = 37 ∨ i_ = 38 ∨ i_ = 39 ∨ i_ = 40 ∨ i_ = 41 ∨ i_ = 42 ∨ i_ = 43 ∨ i_ = 44 ∨ i_ = 45 ∨ i_ = 46 ∨ i_ = 47 ∨ i_ = 48 ∨ i_ = 49 ∨ i_ = 50 ∨ i_ = 51 ∨ i_ = 52 ∨ i_ = 53 ∨ i_ = 54 ∨ i_ = 55 ∨ i_ = 56 ∨ i_ = 57 ∨ i_ = 58 ∨ i_ = 59 ∨ i_ = 60 ∨ i_ = 61 ∨ i_ = 62 ∨ i_ = 63 ∨ i_ = 64 ∨ i_ = 65 ∨ i_ = 66 ∨ i_ = 67 ∨ i_ = 68 ∨ i_ = 69 ∨ i_ = 70 ∨ i_ = 71 ∨ i_ = 72 ∨ i_ = 73 ∨ i_ = 74 ∨ i_ = 75 ∨ i_ = 76 ∨ i_ = 77 ∨ i_ = 78 ∨ i_ = 79 ∨ i_ = 80 ∨ i_ = 81 ∨ i_ = 82 ∨ i_ = 83 ∨ i_ = 84 ∨ i_ = 85 := by omega
                clear hi_ hi2
                rcases hi3 with rfl | rfl | rfl | rfl | rfl | rfl | rfl | rfl | rfl | rfl | rfl | rfl | rfl | rfl | rfl | rfl | rfl | rfl | rfl | rfl | rfl | rfl | rfl | rfl | rfl | rfl | rfl | rfl | rfl | rfl | rfl | rfl | rfl | rfl | rfl | rfl | rfl | rfl | rfl | rfl | rfl | rfl | rfl | rfl | rfl | rfl | rfl | rfl | rfl | rfl | rfl | rfl | rfl | rfl | rfl | rfl | rfl | rfl | rfl | rfl | rfl | rfl | rfl | rfl | rfl | rfl | rfl | rfl | rfl | rfl | rfl | rfl | rfl | rfl | rfl | rfl | rfl | rfl | rfl | rfl | rfl | rfl | rfl | rfl | rfl | rfl
                · intro o ho x w' hG hd
                  injection ho with ho
                  subst ho
                  have hW : Below wr.heap.size wr w' := hG
                  dsimp only []
                  go_wp2
                  exact ⟨_, (by simp [Reg.upd]), hW, Below.refl _ _, rfl⟩
                · intro o ho x w' hG hd
                  injection ho with ho
                  subst ho
                  have hW : Below wr.heap.size wr w' := hG
                  dsimp only []
                  go_wp2
                  exact ⟨_, (by simp [Reg.upd]), hW, Below.refl _ _, rfl⟩
                · intro o ho x w' hG hd
                  injection ho with ho
                  subst ho
                  have hW : Below wr.heap.size wr w' := hG
                  have h0 : x 25 = Value.slice (some ⟨gl, 0, none⟩) 7 7 := hd 0 rfl
                  have h1 : x 26 = Value.int IntKind.i64 (i : Int) := hd 1 rfl
                  dsimp only []
                  go_wp2
                  exact ⟨_, (by simp [Reg.upd, h0, h1]), hW, Below.refl _ _, rfl⟩
                · intro o ho x w' hG hd
                  injection ho with ho
                  subst ho
                  have hW : Below wr.heap.size wr w' := hG
                  have h2 : x 27 = Value.pointer (some ⟨gl, i, none⟩) := hd 2 rfl
                  dsimp only []
                  have hx := pw_cell_below hW HXi.out
                  go_wp2
                  exact ⟨_, (by simp [Reg.upd, h2]), hW, Below.refl _ _, rfl⟩
                · intro o ho x w' hG hd
                  injection ho with ho
                  subst ho
                  have hW : Below wr.heap.size wr w' := hG
                  dsimp only []
                  go_wp2
                  exact ⟨_, (by simp [Reg.upd]), hW, Below.refl _ _, rfl⟩
                · intro o ho x w' hG hd
                  injection ho with ho
                  subst ho
                  have hW : Below wr.heap.size wr w' := hG
                  dsimp only []
                  go_wp2
                  exact ⟨_, (by simp [Reg.upd]), hW, Below.refl _ _, rfl⟩
                · intro o ho x w' hG hd
                  injection ho with ho
                  subst ho
                  have hW : Below wr.heap.size wr w' := hG
                  have h4 : x 29 = Value.slice (some ⟨gl, 0, none⟩) 7 7 := hd 4 rfl
                  have h5 : x 30 = Value.int IntKind.i64 (k : Int) := hd 5 rfl
                  dsimp only []
                  go_wp2
                  exact ⟨_, (by simp [Reg.upd, h4, h5]), hW, Below.refl _ _, rfl⟩
                · intro o ho x w' hG hd
                  injection ho with ho
                  subst ho
                  have hW : Below wr.heap.size wr w' := hG
                  have h6 : x 31 = Value.pointer (some ⟨gl, k, none⟩) := hd 6 rfl
                  dsimp only []
                  have hx := pw_cell_below hW HXk.out
                  go_wp2
                  exact ⟨_, (by simp [Reg.upd, h6]), hW, Below.refl _ _, rfl⟩
                · intro o ho x w' hG hd
                  injection ho with ho
                  subst ho
                  have hW : Below wr.heap.size wr w' := hG
                  dsimp only []
                  go_wp2
                  exact ⟨_, (by simp [Reg.upd]), hW, Below.refl _ _, rfl⟩
                · intro o ho x w' hG hd
                  injection ho with ho
                  subst ho
                  have hW : Below wr.heap.size wr w' := hG
                  dsimp only []
                  go_wp2
                  exact ⟨_, (by simp [Reg.upd]), hW, Below.refl _ _, rfl⟩
                · intro o ho x w' hG hd
                  injection ho with ho
                  subst ho
                  have hW : Below wr.heap.size wr w' := hG
                  have h8 : x 33 = Value.slice (some ⟨gl, 0, none⟩) 7 7 := hd 8 rfl
                  have h9 : x 34 = Value.int IntKind.i64 (n : Int) := hd 9 rfl
                  dsimp only []
                  go_wp2
                  exact ⟨_, (by simp [Reg.upd, h8, h9]), hW, Below.refl _ _, rfl⟩
                · intro o ho x w' hG hd
                  injection ho with ho
                  subst ho
                  have hW : Below wr.heap.size wr w' := hG
                  have h10 : x 35 = Value.pointer (some ⟨gl, n, none⟩) := hd 10 rfl
                  dsimp only []
                  have hx := pw_cell_below hW HXn.out
                  go_wp2
                  exact ⟨_, (by simp [Reg.upd, h10]), hW, Below.refl _ _, rfl⟩
                · intro o ho x w' hG hd
                  injection ho with ho
                  subst ho
                  have hW : Below wr.heap.size wr w' := hG
                  have h3 : x 28 = Value.int IntKind.u64 a := hd 3 rfl
                  have h7 : x 32 = Value.int IntKind.u64 b := hd 7 rfl
                  have h11 : x 36 = Value.int IntKind.u64 c := hd 11 rfl
                  dsimp only []
                  go_wp2_with ((with_reducible refine gate_dst (N := 37) rfl ?_); refine lit_event_g (N := 37) rfl (by go_simp) _ _ _ (build_runN 27 22 3 #[Value.int .u64 a, Value.int .u64 b, Value.int .u64 c] info22 Try.underlying27 _ rfl (by omega) (by omega) _ (fillU3 _ _ _) (by go_simp)) ?_; intro g _ w1 hbox hb)
                  exact ⟨_, (by simp [Reg.upd, h3, h7, h11]), below_step hW hb, hb, g, rfl, rd_blk [a, b, c] hbox rfl (by simp)⟩
                · intro o ho x w' hG hd
                  injection ho with ho
                  subst ho
                  have hW : Below wr.heap.size wr w' := hG
                  dsimp only []
                  go_wp2
                  exact ⟨_, (by simp [Reg.upd]), hW, Below.refl _ _, rfl⟩
                · intro o ho x w' hG hd
                  injection ho with ho
                  subst ho
                  have hW : Below wr.heap.size wr w' := hG
                  dsimp only []
                  go_wp2
                  exact ⟨_, (by simp [Reg.upd]), hW, Below.refl _ _, rfl⟩
                · intro o ho x w' hG hd
                  injection ho with ho
                  subst ho
                  have hW : Below wr.heap.size wr w' := hG
                  have h13 : x 38 = Value.slice (some ⟨gl, 0, none⟩) 7 7 := hd 13 rfl
                  have h14 : x 39 = Value.int IntKind.i64 (i : Int) := hd 14 rfl
                  dsimp only []
                  go_wp2
                  exact ⟨_, (by simp [Reg.upd, h13, h14]), hW, Below.refl _ _, rfl⟩
                · intro o ho x w' hG hd
                  injection ho with ho
                  subst ho
                  have hW : Below wr.heap.size wr w' := hG
                  have h15 : x 40 = Value.pointer (some ⟨gl, i, none⟩) := hd 15 rfl
                  dsimp only []
                  have hx := pw_cell_below hW HXi.out
                  go_wp2
                  exact ⟨_, (by simp [Reg.upd, h15]), hW, Below.refl _ _, rfl⟩
                · intro o ho x w' hG hd
                  injection ho with ho
                  subst ho
                  have hW : Below wr.heap.size wr w' := hG
                  dsimp only []
                  go_wp2
                  exact ⟨_, (by simp [Reg.upd]), hW, Below.refl _ _, rfl⟩
                · intro o ho x w' hG hd
                  injection ho with ho
                  subst ho
                  have hW : Below wr.heap.size wr w' := hG
                  dsimp only []
                  go_wp2
                  exact ⟨_, (by simp [Reg.upd]), hW, Below.refl _ _, rfl⟩
                · intro o ho x w' hG hd
                  injection ho with ho
                  subst ho
                  have hW : Below wr.heap.size wr w' := hG
                  have h17 : x 42 = Value.slice (some ⟨gl, 0, none⟩) 7 7 := hd 17 rfl
                  have h18 : x 43 = Value.int IntKind.i64 (k : Int) := hd 18 rfl
                  dsimp only []
                  go_wp2
                  exact ⟨_, (by simp [Reg.upd, h17, h18]), hW, Below.refl _ _, rfl⟩
                · intro o ho x w' hG hd
                  injection ho with ho
                  subst ho
                  have hW : Below wr.heap.size wr w' := hG
                  have h19 : x 44 = Value.pointer (some ⟨gl, k, none⟩) := hd 19 rfl
                  dsimp only []
                  have hx := pw_cell_below hW HXk.out
                  go_wp2
                  exact ⟨_, (by simp [Reg.upd, h19]), hW, Below.refl _ _, rfl⟩
                · intro o ho x w' hG hd
                  injection ho with ho
                  subst ho
                  have hW : Below wr.heap.size wr w' := hG
                  dsimp only []
                  go_wp2
                  exact ⟨_, (by simp [Reg.upd]), hW, Below.refl _ _, rfl⟩
                · intro o ho x w' hG hd
                  injection ho with ho
                  subst ho
                  have hW : Below wr.heap.size wr w' := hG
                  dsimp only []
                  go_wp2
                  exact ⟨_, (by simp [Reg.upd]), hW, Below.refl _ _, rfl⟩
                · intro o ho x w' hG hd
                  injection ho with ho
                  subst ho
                  have hW : Below wr.heap.size wr w' := hG
                  have h21 : x 46 = Value.slice (some ⟨gl, 0, none⟩) 7 7 := hd 21 rfl
                  have h22 : x 47 = Value.int IntKind.i64 (n : Int) := hd 22 rfl
                  dsimp only []
                  go_wp2
                  exact ⟨_, (by simp [Reg.upd, h21, h22]), hW, Below.refl _ _, rfl⟩
                · intro o ho x w' hG hd
                  injection ho with ho
                  subst ho
                  have hW : Below wr.heap.size wr w' := hG
                  have h23 : x 48 = Value.pointer (some ⟨gl, n, none⟩) := hd 23 rfl
                  dsimp only []
                  have hx := pw_cell_below hW HXn.out
                  go_wp2
                  exact ⟨_, (by simp [Reg.upd, h23]), hW, Below.refl _ _, rfl⟩
                · intro o ho x w' hG hd
                  injection ho with ho
                  subst ho
                  have hW : Below wr.heap.size wr w' := hG
                  have h12 : ∃ g : Nat, x 37 = Value.slice (some ⟨g, 0, none⟩) 3 3 ∧ Rd w' (some ⟨g, 0, none⟩) [a, b, c] := hd 12 rfl
                  obtain ⟨g12, h12, hC12⟩ := h12
                  have h16 : x 41 = Value.int IntKind.u64 a := hd 16 rfl
                  have h20 : x 45 = Value.int IntKind.u64 b := hd 20 rfl
                  have h24 : x 49 = Value.int IntKind.u64 c := hd 24 rfl
                  dsimp only []
                  go_wp2_with (go_at_call 6; have HS := sums_lit hC12 FA.out FB.out FC.out; (with_reducible refine HS.mono ?_); clear HS; rintro e1 w1 ⟨rfl, hb⟩)
                  exact ⟨_, (by simp [Reg.upd, h12, h16, h20, h24]), below_step hW hb, hb, rfl⟩
                · intro o ho x w' hG hd
                  injection ho with ho
                  subst ho
                  have hW : Below wr.heap.size wr w' := hG
                  have h25 : x 50 = Value.bool true := hd 25 rfl
                  dsimp only []
                  go_wp2
                  exact ⟨_, (by simp [Reg.upd, h25]), hW, Below.refl _ _, rfl⟩
                · intro o ho x w' hG hd
                  injection ho with ho
                  subst ho
                  have hW : Below wr.heap.size wr w' := hG
                  have h26 : x 51 = Value.bool false := hd 26 rfl
                  dsimp only []
                  go_wp2
                  exact ⟨_, (by simp [Reg.upd, h26]), hW, Below.refl _ _, rfl⟩
                · intro o ho x w' hG hd
                  injection ho with ho
                  subst ho
                  have hW : Below wr.heap.size wr w' := hG
                  have h27 : x 52 = Value.bool false := hd 27 rfl
                  dsimp only []
                  go_wp2
                  exact ⟨_, (by simp [Reg.upd, h27]), hW, Below.refl _ _, rfl⟩
                · intro o ho x w' hG hd
                  injection ho with ho
                  subst ho
                  have hW : Below wr.heap.size wr w' := hG
                  have h27 : x 52 = Value.bool false := hd 27 rfl
                  dsimp only []
                  go_wp2
                  exact ⟨_, (by simp [Reg.upd, h27]), hW, Below.refl _ _, rfl⟩
                · intro o ho x w' hG hd
                  injection ho with ho
                  subst ho
                  have hW : Below wr.heap.size wr w' := hG
                  have h28 : x 53 = Value.slice (some ⟨gl, 0, none⟩) 7 7 := hd 28 rfl
                  have h29 : x 54 = Value.int IntKind.i64 (i : Int) := hd 29 rfl
                  have h27 : x 52 = Value.bool false := hd 27 rfl
                  dsimp only []
                  go_wp2
                  exact ⟨_, (by simp [Reg.upd, h28, h29, h27]), hW, Below.refl _ _, rfl⟩
                · intro o ho x w' hG hd
                  injection ho with ho
                  subst ho
                  have hW : Below wr.heap.size wr w' := hG
                  have h30 : x 55 = Value.pointer (some ⟨gl, i, none⟩) := hd 30 rfl
                  have h27 : x 52 = Value.bool false := hd 27 rfl
                  dsimp only []
                  have hx := pw_cell_below hW HXi.out
                  go_wp2
                  exact ⟨_, (by simp [Reg.upd, h30, h27]), hW, Below.refl _ _, rfl⟩
                · intro o ho x w' hG hd
                  injection ho with ho
                  subst ho
                  have hW : Below wr.heap.size wr w' := hG
                  have h27 : x 52 = Value.bool false := hd 27 rfl
                  dsimp only []
                  go_wp2
                  exact ⟨_, (by simp [Reg.upd, h27]), hW, Below.refl _ _, rfl⟩
                · intro o ho x w' hG hd
                  injection ho with ho
                  subst ho
                  have hW : Below wr.heap.size wr w' := hG
                  have h27 : x 52 = Value.bool false := hd 27 rfl
                  dsimp only []
                  go_wp2
                  exact ⟨_, (by simp [Reg.upd, h27]), hW, Below.refl _ _, rfl⟩
                · intro o ho x w' hG hd
                  injection ho with ho
                  subst ho
                  have hW : Below wr.heap.size wr w' := hG
                  have h32 : x 57 = Value.slice (some ⟨gl, 0, none⟩) 7 7 := hd 32 rfl
                  have h33 : x 58 = Value.int IntKind.i64 (k : Int) := hd 33 rfl
                  have h27 : x 52 = Value.bool false := hd 27 rfl
                  dsimp only []
                  go_wp2
                  exact ⟨_, (by simp [Reg.upd, h32, h33, h27]), hW, Below.refl _ _, rfl⟩
                · intro o ho x w' hG hd
                  injection ho with ho
                  subst ho
                  have hW : Below wr.heap.size wr w' := hG
                  have h34 : x 59 = Value.pointer (some ⟨gl, k, none⟩) := hd 34 rfl
                  have h27 : x 52 = Value.bool false := hd 27 rfl
                  dsimp only []
                  have hx := pw_cell_below hW HXk.out
                  go_wp2
                  exact ⟨_, (by simp [Reg.upd, h34, h27]), hW, Below.refl _ _, rfl⟩
                · intro o ho x w' hG hd
                  injection ho with ho
                  subst ho
                  have hW : Below wr.heap.size wr w' := hG
                  have h31 : x 56 = Value.int IntKind.u64 a := hd 31 rfl
                  have h35 : x 60 = Value.int IntKind.u64 b := hd 35 rfl
                  have h27 : x 52 = Value.bool false := hd 27 rfl
                  dsimp only []
                  go_wp2_with ((with_reducible refine gate_dst (N := 61) rfl ?_); refine lit_event_g (N := 61) rfl (by go_simp) _ _ _ (build_runN 27 22 3 #[Value.int .u64 a, Value.int .u64 b, Value.int .u64 5] info22 Try.underlying27 _ rfl (by omega) (by omega) _ (fillU3 _ _ _) (by go_simp)) ?_; intro g _ w1 hbox hb)
                  exact ⟨_, (by simp [Reg.upd, h31, h35, h27]), below_step hW hb, hb, g, rfl, rd_blk [a, b, 5] hbox rfl (by simp)⟩
                · intro o ho x w' hG hd
                  injection ho with ho
                  subst ho
                  have hW : Below wr.heap.size wr w' := hG
                  have h27 : x 52 = Value.bool false := hd 27 rfl
                  dsimp only []
                  go_wp2
                  exact ⟨_, (by simp [Reg.upd, h27]), hW, Below.refl _ _, rfl⟩
                · intro o ho x w' hG hd
                  injection ho with ho
                  subst ho
                  have hW : Below wr.heap.size wr w' := hG
                  have h37 : x 62 = Value.int IntKind.i64 (n : Int) := hd 37 rfl
                  have h27 : x 52 = Value.bool false := hd 27 rfl
                  dsimp only []
                  go_wp2
                  exact ⟨Value.int IntKind.i64 ((n : Int) % 4), (by simp [Reg.upd, h37, h27]), hW, Below.refl _ _, _, rfl⟩
                · intro o ho x w' hG hd
                  injection ho with ho
                  subst ho
                  have hW : Below wr.heap.size wr w' := hG
                  have h38 : ∃ z : Int, x 63 = Value.int IntKind.i64 z := hd 38 rfl
                  obtain ⟨z38, h38⟩ := h38
                  have h27 : x 52 = Value.bool false := hd 27 rfl
                  dsimp only []
                  go_wp2
                  exact ⟨Value.int IntKind.i64 (wrap64 (z38 - 1)), (by simp [Reg.upd, h38, h27]), hW, Below.refl _ _, _, rfl⟩
                · intro o ho x w' hG hd
                  injection ho with ho
                  subst ho
                  have hW : Below wr.heap.size wr w' := hG
                  have h27 : x 52 = Value.bool false := hd 27 rfl
                  dsimp only []
                  go_wp2
                  exact ⟨_, (by simp [Reg.upd, h27]), hW, Below.refl _ _, rfl⟩
                · intro o ho x w' hG hd
                  injection ho with ho
                  subst ho
                  have hW : Below wr.heap.size wr w' := hG
                  have h27 : x 52 = Value.bool false := hd 27 rfl
                  dsimp only []
                  go_wp2
                  exact ⟨_, (by simp [Reg.upd, h27]), hW, Below.refl _ _, rfl⟩
                · intro o ho x w' hG hd
                  injection ho with ho
                  subst ho
                  have hW : Below wr.heap.size wr w' := hG
                  have h40 : x 65 = Value.slice (some ⟨gl, 0, none⟩) 7 7 := hd 40 rfl
                  have h41 : x 66 = Value.int IntKind.i64 (n : Int) := hd 41 rfl
                  have h27 : x 52 = Value.bool false := hd 27 rfl
                  dsimp only []
                  go_wp2
                  exact ⟨_, (by simp [Reg.upd, h40, h41, h27]), hW, Below.refl _ _, rfl⟩
                · intro o ho x w' hG hd
                  injection ho with ho
                  subst ho
                  have hW : Below wr.heap.size wr w' := hG
                  have h42 : x 67 = Value.pointer (some ⟨gl, n, none⟩) := hd 42 rfl
                  have h27 : x 52 = Value.bool false := hd 27 rfl
                  dsimp only []
                  have hx := pw_cell_below hW HXn.out
                  go_wp2
                  exact ⟨_, (by simp [Reg.upd, h42, h27]), hW, Below.refl _ _, rfl⟩
                · intro o ho x w' hG hd
                  injection ho with ho
                  subst ho
                  have hW : Below wr.heap.size wr w' := hG
                  have h27 : x 52 = Value.bool false := hd 27 rfl
                  dsimp only []
                  go_wp2
                  exact ⟨_, (by simp [Reg.upd, h27]), hW, Below.refl _ _, rfl⟩
                · intro o ho x w' hG hd
                  injection ho with ho
                  subst ho
                  have hW : Below wr.heap.size wr w' := hG
                  have h27 : x 52 = Value.bool false := hd 27 rfl
                  dsimp only []
                  go_wp2
                  exact ⟨_, (by simp [Reg.upd, h27]), hW, Below.refl _ _, rfl⟩
                · intro o ho x w' hG hd
                  injection ho with ho
                  subst ho
                  have hW : Below wr.heap.size wr w' := hG
                  have h44 : x 69 = Value.slice (some ⟨gl, 0, none⟩) 7 7 := hd 44 rfl
                  have h45 : x 70 = Value.int IntKind.i64 (k : Int) := hd 45 rfl
                  have h27 : x 52 = Value.bool false := hd 27 rfl
                  dsimp only []
                  go_wp2
                  exact ⟨_, (by simp [Reg.upd, h44, h45, h27]), hW, Below.refl _ _, rfl⟩
                · intro o ho x w' hG hd
                  injection ho with ho
                  subst ho
                  have hW : Below wr.heap.size wr w' := hG
                  have h46 : x 71 = Value.pointer (some ⟨gl, k, none⟩) := hd 46 rfl
                  have h27 : x 52 = Value.bool false := hd 27 rfl
                  dsimp only []
                  have hx := pw_cell_below hW HXk.out
                  go_wp2
                  exact ⟨_, (by simp [Reg.upd, h46, h27]), hW, Below.refl _ _, rfl⟩
                · intro o ho x w' hG hd
                  injection ho with ho
                  subst ho
                  have hW : Below wr.heap.size wr w' := hG
                  have h27 : x 52 = Value.bool false := hd 27 rfl
                  dsimp only []
                  go_wp2
                  exact ⟨_, (by simp [Reg.upd, h27]), hW, Below.refl _ _, rfl⟩
                · intro o ho x w' hG hd
                  injection ho with ho
                  subst ho
                  have hW : Below wr.heap.size wr w' := hG
                  have h27 : x 52 = Value.bool false := hd 27 rfl
                  dsimp only []
                  go_wp2
                  exact ⟨_, (by simp [Reg.upd, h27]), hW, Below.refl _ _, rfl⟩
                · intro o ho x w' hG hd
                  injection ho with ho
                  subst ho
                  have hW : Below wr.heap.size wr w' := hG
                  have h48 : x 73 = Value.slice (some ⟨gl, 0, none⟩) 7 7 := hd 48 rfl
                  have h49 : x 74 = Value.int IntKind.i64 (i : Int) := hd 49 rfl
                  have h27 : x 52 = Value.bool false := hd 27 rfl
                  dsimp only []
                  go_wp2
                  exact ⟨_, (by simp [Reg.upd, h48, h49, h27]), hW, Below.refl _ _, rfl⟩
                · intro o ho x w' hG hd
                  injection ho with ho
                  subst ho
                  have hW : Below wr.heap.size wr w' := hG
                  have h50 : x 75 = Value.pointer (some ⟨gl, i, none⟩) := hd 50 rfl
                  have h27 : x 52 = Value.bool false := hd 27 rfl
                  dsimp only []
                  have hx := pw_cell_below hW HXi.out
                  go_wp2
                  exact ⟨_, (by simp [Reg.upd, h50, h27]), hW, Below.refl _ _, rfl⟩
                · intro o ho x w' hG hd
                  injection ho with ho
                  subst ho
                  have hW : Below wr.heap.size wr w' := hG
                  have h36 : ∃ g : Nat, x 61 = Value.slice (some ⟨g, 0, none⟩) 3 3 ∧ Rd w' (some ⟨g, 0, none⟩) [a, b, 5] := hd 36 rfl
                  obtain ⟨g36, h36, hC36⟩ := h36
                  have h39 : ∃ z : Int, x 64 = Value.int IntKind.i64 z := hd 39 rfl
                  obtain ⟨z39, h39⟩ := h39
                  have h43 : x 68 = Value.int IntKind.u64 c := hd 43 rfl
                  have h47 : x 72 = Value.int IntKind.u64 b := hd 47 rfl
                  have h51 : x 76 = Value.int IntKind.u64 a := hd 51 rfl
                  have h27 : x 52 = Value.bool false := hd 27 rfl
                  dsimp only []
                  go_wp2_with (go_at_call 7; have HS := past_lit (p := z39) hC36 FA.out FB.out FC.out; (with_reducible refine HS.mono ?_); clear HS; rintro e1 w1 ⟨rfl, hb⟩)
                  exact ⟨_, (by simp [Reg.upd, h36, h39, h43, h47, h51, h27]), below_step hW hb, hb, rfl⟩
                · intro o ho x w' hG hd
                  injection ho with ho
                  subst ho
                  have hW : Below wr.heap.size wr w' := hG
                  have h52 : x 77 = Value.bool true := hd 52 rfl
                  have h27 : x 52 = Value.bool false := hd 27 rfl
                  dsimp only []
                  go_wp2
                  exact ⟨_, (by simp [Reg.upd, h52, h27]), hW, Below.refl _ _, rfl⟩
                · intro o ho x w' hG hd
                  injection ho with ho
                  subst ho
                  have hW : Below wr.heap.size wr w' := hG
                  have h27 : x 52 = Value.bool false := hd 27 rfl
                  have h53 : x 78 = Value.bool false := hd 53 rfl
                  dsimp only []
                  go_wp2
                  exact ⟨_, (by simp [Reg.upd, h27, h53]), hW, Below.refl _ _, rfl⟩
                · intro o ho x w' hG hd
                  injection ho with ho
                  subst ho
                  have hW : Below wr.heap.size wr w' := hG
                  have h54 : x 79 = Value.bool false := hd 54 rfl
                  dsimp only []
                  go_wp2
                  exact ⟨_, (by simp [Reg.upd, h54]), hW, Below.refl _ _, rfl⟩
                · intro o ho x w' hG hd
                  injection ho with ho
                  subst ho
                  have hW : Below wr.heap.size wr w' := hG
                  have h55 : x 80 = Value.bool false := hd 55 rfl
                  dsimp only []
                  go_wp2
                  exact ⟨_, (by simp [Reg.upd, h55]), hW, Below.refl _ _, rfl⟩
                · intro o ho x w' hG hd
                  injection ho with ho
                  subst ho
                  have hW : Below wr.heap.size wr w' := hG
                  have h55 : x 80 = Value.bool false := hd 55 rfl
                  dsimp only []
                  go_wp2
                  exact ⟨_, (by simp [Reg.upd, h55]), hW, Below.refl _ _, rfl⟩
                · intro o ho x w' hG hd
                  injection ho with ho
                  subst ho
                  have hW : Below wr.heap.size wr w' := hG
                  have h56 : x 81 = Value.slice (some ⟨gl, 0, none⟩) 7 7 := hd 56 rfl
                  have h57 : x 82 = Value.int IntKind.i64 (i : Int) := hd 57 rfl
                  have h55 : x 80 = Value.bool false := hd 55 rfl
                  dsimp only []
                  go_wp2
                  exact ⟨_, (by simp [Reg.upd, h56, h57, h55]), hW, Below.refl _ _, rfl⟩
                · intro o ho x w' hG hd
                  injection ho with ho
                  subst ho
                  have hW : Below wr.heap.size wr w' := hG
                  have h58 : x 83 = Value.pointer (some ⟨gl, i, none⟩) := hd 58 rfl
                  have h55 : x 80 = Value.bool false := hd 55 rfl
                  dsimp only []
                  have hx := pw_cell_below hW HXi.out
                  go_wp2
                  exact ⟨_, (by simp [Reg.upd, h58, h55]), hW, Below.refl _ _, rfl⟩
                · intro o ho x w' hG hd
                  injection ho with ho
                  subst ho
                  have hW : Below wr.heap.size wr w' := hG
                  have h55 : x 80 = Value.bool false := hd 55 rfl
                  dsimp only []
                  go_wp2
                  exact ⟨_, (by simp [Reg.upd, h55]), hW, Below.refl _ _, rfl⟩
                · intro o ho x w' hG hd
                  injection ho with ho
                  subst ho
                  have hW : Below wr.heap.size wr w' := hG
                  have h55 : x 80 = Value.bool false := hd 55 rfl
                  dsimp only []
                  go_wp2
                  exact ⟨_, (by simp [Reg.upd, h55]), hW, Below.refl _ _, rfl⟩
                · intro o ho x w' hG hd
                  injection ho with ho
                  subst ho
                  have hW : Below wr.heap.size wr w' := hG
                  have h60 : x 85 = Value.slice (some ⟨gl, 0, none⟩) 7 7 := hd 60 rfl
                  have h61 : x 86 = Value.int IntKind.i64 (k : Int) := hd 61 rfl
                  have h55 : x 80 = Value.bool false := hd 55 rfl
                  dsimp only []
                  go_wp2
                  exact ⟨_, (by simp [Reg.upd, h60, h61, h55]), hW, Below.refl _ _, rfl⟩
                · intro o ho x w' hG hd
                  injection ho with ho
                  subst ho
                  have hW : Below wr.heap.size wr w' := hG
                  have h62 : x 87 = Value.pointer (some ⟨gl, k, none⟩) := hd 62 rfl
                  have h55 : x 80 = Value.bool false := hd 55 rfl
                  dsimp only []
                  have hx := pw_cell_below hW HXk.out
                  go_wp2
                  exact ⟨_, (by simp [Reg.upd, h62, h55]), hW, Below.refl _ _, rfl⟩
                · intro o ho x w' hG hd
                  injection ho with ho
                  subst ho
                  have hW : Below wr.heap.size wr w' := hG
                  have h59 : x 84 = Value.int IntKind.u64 a := hd 59 rfl
                  have h63 : x 88 = Value.int IntKind.u64 b := hd 63 rfl
                  have h55 : x 80 = Value.bool false := hd 55 rfl
                  dsimp only []
                  go_wp2_with ((with_reducible refine gate_dst (N := 89) rfl ?_); refine lit_event_g (N := 89) rfl (by go_simp) _ _ _ (build_runN 27 22 2 #[Value.int .u64 a, Value.int .u64 b] info22 Try.underlying27 _ rfl (by omega) (by omega) _ (fillU2 _ _) (by go_simp)) ?_; intro g _ w1 hbox hb)
                  exact ⟨_, (by simp [Reg.upd, h59, h63, h55]), below_step hW hb, hb, g, rfl, rd_blk [a, b] hbox rfl (by simp)⟩
                · intro o ho x w' hG hd
                  injection ho with ho
                  subst ho
                  have hW : Below wr.heap.size wr w' := hG
                  have h55 : x 80 = Value.bool false := hd 55 rfl
                  dsimp only []
                  go_wp2
                  exact ⟨_, (by simp [Reg.upd, h55]), hW, Below.refl _ _, rfl⟩
                · intro o ho x w' hG hd
                  injection ho with ho
                  subst ho
                  have hW : Below wr.heap.size wr w' := hG
                  have h65 : x 90 = Value.int IntKind.i64 (n : Int) := hd 65 rfl
                  have h55 : x 80 = Value.bool false := hd 55 rfl
                  dsimp only []
                  go_wp2
                  exact ⟨Value.int IntKind.i64 ((n : Int) % 4), (by simp [Reg.upd, h65, h55]), hW, Below.refl _ _, _, rfl⟩
                · intro o ho x w' hG hd
                  injection ho with ho
                  subst ho
                  have hW : Below wr.heap.size wr w' := hG
                  have h66 : ∃ z : Int, x 91 = Value.int IntKind.i64 z := hd 66 rfl
                  obtain ⟨z66, h66⟩ := h66
                  have h55 : x 80 = Value.bool false := hd 55 rfl
                  dsimp only []
                  go_wp2
                  exact ⟨Value.int IntKind.i64 (wrap64 (z66 - 1)), (by simp [Reg.upd, h66, h55]), hW, Below.refl _ _, _, rfl⟩
                · intro o ho x w' hG hd
                  injection ho with ho
                  subst ho
                  have hW : Below wr.heap.size wr w' := hG
                  have h55 : x 80 = Value.bool false := hd 55 rfl
                  dsimp only []
                  go_wp2
                  exact ⟨_, (by simp [Reg.upd, h55]), hW, Below.refl _ _, rfl⟩
                · intro o ho x w' hG hd
                  injection ho with ho
                  subst ho
                  have hW : Below wr.heap.size wr w' := hG
                  have h55 : x 80 = Value.bool false := hd 55 rfl
                  dsimp only []
                  go_wp2
                  exact ⟨_, (by simp [Reg.upd, h55]), hW, Below.refl _ _, rfl⟩
                · intro o ho x w' hG hd
                  injection ho with ho
                  subst ho
                  have hW : Below wr.heap.size wr w' := hG
                  have h68 : x 93 = Value.slice (some ⟨gl, 0, none⟩) 7 7 := hd 68 rfl
                  have h69 : x 94 = Value.int IntKind.i64 (n : Int) := hd 69 rfl
                  have h55 : x 80 = Value.bool false := hd 55 rfl
                  dsimp only []
                  go_wp2
                  exact ⟨_, (by simp [Reg.upd, h68, h69, h55]), hW, Below.refl _ _, rfl⟩
                · intro o ho x w' hG hd
                  injection ho with ho
                  subst ho
                  have hW : Below wr.heap.size wr w' := hG
                  have h70 : x 95 = Value.pointer (some ⟨gl, n, none⟩) := hd 70 rfl
                  have h55 : x 80 = Value.bool false := hd 55 rfl
                  dsimp only []
                  have hx := pw_cell_below hW HXn.out
                  go_wp2
                  exact ⟨_, (by simp [Reg.upd, h70, h55]), hW, Below.refl _ _, rfl⟩
                · intro o ho x w' hG hd
                  injection ho with ho
                  subst ho
                  have hW : Below wr.heap.size wr w' := hG
                  have h67 : ∃ z : Int, x 92 = Value.int IntKind.i64 z := hd 67 rfl
                  obtain ⟨z67, h67⟩ := h67
                  have h71 : x 96 = Value.int IntKind.u64 c := hd 71 rfl
                  have h55 : x 80 = Value.bool false := hd 55 rfl
                  dsimp only []
                  have hu37 := Try.underlying37
                  go_wp2
                  exact ⟨Value.agg #[Value.int IntKind.i64 z67, Value.int IntKind.u64 c], (by simp [Reg.upd, h67, h71, h55]), hW, Below.refl _ _, _, rfl⟩
                · intro o ho x w' hG hd
                  injection ho with ho
                  subst ho
                  have hW : Below wr.heap.size wr w' := hG
                  have h55 : x 80 = Value.bool false := hd 55 rfl
                  dsimp only []
                  go_wp2
                  exact ⟨_, (by simp [Reg.upd, h55]), hW, Below.refl _ _, rfl⟩
                · intro o ho x w' hG hd
                  injection ho with ho
                  subst ho
                  have hW : Below wr.heap.size wr w' := hG
                  have h55 : x 80 = Value.bool false := hd 55 rfl
                  dsimp only []
                  go_wp2
                  exact ⟨_, (by simp [Reg.upd, h55]), hW, Below.refl _ _, rfl⟩
                · intro o ho x w' hG hd
                  injection ho with ho
                  subst ho
                  have hW : Below wr.heap.size wr w' := hG
                  have h73 : x 98 = Value.slice (some ⟨gl, 0, none⟩) 7 7 := hd 73 rfl
                  have h74 : x 99 = Value.int IntKind.i64 (i : Int) := hd 74 rfl
                  have h55 : x 80 = Value.bool false := hd 55 rfl
                  dsimp only []
                  go_wp2
                  exact ⟨_, (by simp [Reg.upd, h73, h74, h55]), hW, Below.refl _ _, rfl⟩
                · intro o ho x w' hG hd
                  injection ho with ho
                  subst ho
                  have hW : Below wr.heap.size wr w' := hG
                  have h75 : x 100 = Value.pointer (some ⟨gl, i, none⟩) := hd 75 rfl
                  have h55 : x 80 = Value.bool false := hd 55 rfl
                  dsimp only []
                  have hx := pw_cell_below hW HXi.out
                  go_wp2
                  exact ⟨_, (by simp [Reg.upd, h75, h55]), hW, Below.refl _ _, rfl⟩
                · intro o ho x w' hG hd
                  injection ho with ho
                  subst ho
                  have hW : Below wr.heap.size wr w' := hG
                  have h76 : x 101 = Value.int IntKind.u64 a := hd 76 rfl
                  have h55 : x 80 = Value.bool false := hd 55 rfl
                  dsimp only []
                  have hu37 := Try.underlying37
                  go_wp2
                  exact ⟨_, (by simp [Reg.upd, h76, h55]), hW, Below.refl _ _, rfl⟩
                · intro o ho x w' hG hd
                  injection ho with ho
                  subst ho
                  have hW : Below wr.heap.size wr w' := hG
                  have h72 : ∃ z : Int, x 97 = Value.agg #[Value.int IntKind.i64 z, Value.int IntKind.u64 c] := hd 72 rfl
                  obtain ⟨z72, h72⟩ := h72
                  have h77 : x 102 = Value.agg #[Value.int IntKind.i64 1, Value.int IntKind.u64 a] := hd 77 rfl
                  have h55 : x 80 = Value.bool false := hd 55 rfl
                  dsimp only []
                  go_wp2_with ((with_reducible refine gate_dst (N := 103) rfl ?_); refine lit_event_g (N := 103) rfl (by go_simp) _ _ _ (build_runN 38 37 2 #[Value.int .i64 z72, Value.int .u64 c, Value.int .i64 1, Value.int .u64 a] info37 Try.underlying38 _ rfl (by omega) (by omega) _ (fillA2 _ _ _ _) (by go_simp)) ?_; intro g _ w1 hbox hb)
                  exact ⟨_, (by simp [Reg.upd, h72, h77, h55]), below_step hW hb, hb, g, z72, rfl, rdA_blk _ _ _ _ hbox⟩
                · intro o ho x w' hG hd
                  injection ho with ho
                  subst ho
                  have hW : Below wr.heap.size wr w' := hG
                  have h55 : x 80 = Value.bool false := hd 55 rfl
                  dsimp only []
                  go_wp2
                  exact ⟨_, (by simp [Reg.upd, h55]), hW, Below.refl _ _, rfl⟩
                · intro o ho x w' hG hd
                  injection ho with ho
                  subst ho
                  have hW : Below wr.heap.size wr w' := hG
                  have h55 : x 80 = Value.bool false := hd 55 rfl
                  dsimp only []
                  go_wp2
                  exact ⟨_, (by simp [Reg.upd, h55]), hW, Below.refl _ _, rfl⟩
                · intro o ho x w' hG hd
                  injection ho with ho
                  subst ho
                  have hW : Below wr.heap.size wr w' := hG
                  have h79 : x 104 = Value.slice (some ⟨gl, 0, none⟩) 7 7 := hd 79 rfl
                  have h80 : x 105 = Value.int IntKind.i64 (n : Int) := hd 80 rfl
                  have h55 : x 80 = Value.bool false := hd 55 rfl
                  dsimp only []
                  go_wp2
                  exact ⟨_, (by simp [Reg.upd, h79, h80, h55]), hW, Below.refl _ _, rfl⟩
                · intro o ho x w' hG hd
                  injection ho with ho
                  subst ho
                  have hW : Below wr.heap.size wr w' := hG
                  have h81 : x 106 = Value.pointer (some ⟨gl, n, none⟩) := hd 81 rfl
                  have h55 : x 80 = Value.bool false := hd 55 rfl
                  dsimp only []
                  have hx := pw_cell_below hW HXn.out
                  go_wp2
                  exact ⟨_, (by simp [Reg.upd, h81, h55]), hW, Below.refl _ _, rfl⟩
                · intro o ho x w' hG hd
                  injection ho with ho
                  subst ho
                  have hW : Below wr.heap.size wr w' := hG
                  have h64 : ∃ g : Nat, x 89 = Value.slice (some ⟨g, 0, none⟩) 2 2 ∧ Rd w' (some ⟨g, 0, none⟩) [a, b] := hd 64 rfl
                  obtain ⟨g64, h64, hC64⟩ := h64
                  have h78 : ∃ (g : Nat) (z : Int), x 103 = Value.slice (some ⟨g, 0, none⟩) 2 2 ∧ RdA w' (some ⟨g, 0, none⟩) [(z, c), (1, a)] := hd 78 rfl
                  obtain ⟨g78, z78, h78, hC78⟩ := h78
                  have h82 : x 107 = Value.int IntKind.u64 c := hd 82 rfl
                  have h55 : x 80 = Value.bool false := hd 55 rfl
                  dsimp only []
                  go_wp2_with (go_at_call 5; have HS := plays_lit hC64 hC78 FA.out FB.out FC.out; (with_reducible refine HS.mono ?_); clear HS; rintro e1 w1 ⟨rfl, hb⟩)
                  exact ⟨_, (by simp [Reg.upd, h64, h78, h82, h55]), below_step hW hb, hb, rfl⟩
                · intro o ho x w' hG hd
                  injection ho with ho
                  subst ho
                  have hW : Below wr.heap.size wr w' := hG
                  have h83 : x 108 = Value.bool true := hd 83 rfl
                  have h55 : x 80 = Value.bool false := hd 55 rfl
                  dsimp only []
                  go_wp2
                  exact ⟨_, (by simp [Reg.upd, h83, h55]), hW, Below.refl _ _, rfl⟩
                · intro o ho x w' hG hd
                  injection ho with ho
                  subst ho
                  have hW : Below wr.heap.size wr w' := hG
                  have h55 : x 80 = Value.bool false := hd 55 rfl
                  have h84 : x 109 = Value.bool false := hd 84 rfl
                  dsimp only []
                  go_wp2
                  exact ⟨_, (by simp [Reg.upd, h55, h84]), hW, Below.refl _ _, rfl⟩
            · have cn : decide ((n : Int) < 7) = false := decide_eq_false (by omega)
              have qn : ¬ (n : Int) < 7 := by omega
              clear hn
              go_wp2
              go_roundg k2
              case measure => omega
              case rel => exact ⟨k + 1, by go_num, ⟨by have := HKk.out; omega⟩, HL, HB⟩
        · have ck : decide ((k : Int) < 7) = false := decide_eq_false (by omega)
          have qk : ¬ (k : Int) < 7 := by omega
          clear hk
          go_wp2
          go_roundg k1
          case measure => omega
          case rel => exact ⟨i + 1, by go_num, ⟨by have := HKi.out; omega⟩, HL, HB⟩
    · have ci : decide ((i : Int) < 7) = false := decide_eq_false (by omega)
      have qi : ¬ (i : Int) < 7 := by omega
      clear hi HL
      go_wp2_with (first
        | (go_at_call 14; (with_reducible refine (new3_calls _).mono ?_); rintro e w2 ⟨g, v, rfl, _, hk, ho, hb⟩; obtain ⟨A1, c1, rfl, _⟩ := Ow.rd ho; have HC := Aside0.mk hk; have HO := Aside0.mk ho; have HB := Aside0.mk (below_step HB.out hb); clear hk ho hb)
        | (go_at_call 14; (with_reducible refine (newneg_calls _).mono ?_); rintro e w2 ⟨g2, v2, rfl, _, hk, ho, hb⟩; obtain ⟨A2, c2, rfl, _⟩ := Ow.rd ho; have HC := Aside0.mk hk; have HO := Aside0.mk ho; have HB := Aside0.mk (below_step HB.out hb); clear hk ho hb)
        | (go_at_call 10; have HS := hands_made (l := [0, 0, 0]) HC.out HO.out (by decide); (with_reducible refine HS.mono ?_); clear HS; rintro e w3 ⟨v, rfl, ho, hb⟩; obtain ⟨A3, c3, e3, _⟩ := Ow.rd ho; change v = .slice A3 3 c3 at e3; subst e3; have HO := Aside0.mk ho; have HB := Aside0.mk (below_step HB.out hb); clear ho hb)
        | (go_at_call 10; have HS := hands_made (l := []) HC.out HO.out (by decide); (with_reducible refine HS.mono ?_); clear HS; rintro e w3 ⟨v, rfl, ho, hb⟩; obtain ⟨A3, c3, e3, _⟩ := Ow.rd ho; change v = .slice A3 0 c3 at e3; subst e3; have HB := Aside0.mk (below_step HB.out hb); clear ho hb)
        | ((with_reducible refine gate_dst (N := 114) rfl ?_); refine lit_event rfl (N := 114) rfl _ _ _ (build_runN 27 22 3 #[Value.int .u64 0, Value.int .u64 0, Value.int .u64 0] info22 Try.underlying27 _ rfl (by omega) (by omega) _ (fillU3 _ _ _) (by go_simp)) ?_; intro g4 _ w4 hbox hb; have HO := Aside0.mk (pw_own_below HO.out hb); have HZ := Aside0.mk (rd_blk [0, 0, 0] hbox rfl (by decide)); have HB := Aside0.mk (below_step HB.out hb); clear hbox hb)
        | (go_at_call 15; have HS := same_nil (c' := 3) HO.out HZ.out; (with_reducible refine HS.mono ?_); clear HS; rintro e w5 ⟨rfl, hd⟩; have HB := Aside0.mk (below_step HB.out hd.below); clear hd)
        | (go_at_call 3; (with_reducible refine (none_nil _).mono ?_); rintro e w6 ⟨rfl, hb⟩; have HB := Aside0.mk (below_step HB.out hb); clear hb)
        | (go_at_call 5; (with_reducible refine (plays_nil _).mono ?_); rintro e w7 ⟨rfl, hb⟩; have HB := Aside0.mk (below_step HB.out hb); clear hb)
        | (go_at_call 6; (with_reducible refine (sums_nil _).mono ?_); rintro e w8 ⟨rfl, hb⟩; have HB := Aside0.mk (below_step HB.out hb); clear hb)
        | (go_at_call 13; (with_reducible refine (works_calls _).mono ?_); rintro e w9 ⟨rfl, hb⟩; have HB := Aside0.mk (below_step HB.out hb); clear hb))
      go_ret
      exact ⟨rfl, HB.out⟩
end Go.Proofs.Ytonchomjddhciaa.Clk
