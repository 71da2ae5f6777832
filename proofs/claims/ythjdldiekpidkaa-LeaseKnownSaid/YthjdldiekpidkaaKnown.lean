/- LeaseKnown's walk: the examples of the chapter; clocks about the end; numbers about the bounds; a closed statement. -/
import Derived.Test.YthjdldiekpidkaaKLits
namespace Go.Proofs.Ythjdldiekpidkaa
attribute [local go_sem high] eqA24
open Go.RowKit Go.Proofs.YthjdldiekpidkaaW.PrintWords Go.Proofs.YthjdldiekpidkaaW.PrintLast Go.Proofs.YthjdldiekpidkaaW.PrintMore
open Pl
set_option linter.unusedVariables false
set_option linter.unusedSimpArgs false

def F12 (gl g6 i k n : Nat) (a b c : Int) (j_ : Nat) (v : Value) : Prop :=
  match j_ with
  | 0 => v = Value.slice (some ⟨gl, 0, none⟩) 8 8
  | 1 => v = Value.int IntKind.i64 (n : Int)
  | 2 => v = Value.pointer (some ⟨gl, n, none⟩)
  | 3 => v = Value.int IntKind.u64 c
  | 4 => v = Value.slice (some ⟨gl, 0, none⟩) 8 8
  | 5 => v = Value.int IntKind.i64 (k : Int)
  | 6 => v = Value.pointer (some ⟨gl, k, none⟩)
  | 7 => v = Value.int IntKind.u64 b
  | 8 => v = Value.slice (some ⟨gl, 0, none⟩) 8 8
  | 9 => v = Value.int IntKind.i64 (i : Int)
  | 10 => v = Value.pointer (some ⟨gl, i, none⟩)
  | 11 => v = Value.int IntKind.u64 a
  | 12 => v = Value.int IntKind.i64 (i : Int)
  | 13 => v = Value.int IntKind.i64 (k : Int)
  | 14 => v = Value.int IntKind.i64 ((i : Int) + (k : Int))
  | 15 => v = Value.int IntKind.i64 (n : Int)
  | 16 => v = Value.int IntKind.i64 ((i : Int) + (k : Int) + (n : Int))
  | 17 => v = Value.int IntKind.i64 (((i : Int) + (k : Int) + (n : Int)) % 3)
  | 18 => ∃ bl : Bool, v = Value.bool bl
  | 19 => ∃ bl : Bool, v = Value.agg #[Value.int IntKind.u64 c, Value.int IntKind.u64 1, Value.int IntKind.u64 b, Value.int IntKind.u64 a, Value.bool bl]
  | 20 => v = Value.pointer (some ⟨g6, 0, none⟩)
  | 21 => True
  | _ => True
def d12 (i : Nat) : Nat := if i < 20 then 29 + i else if i = 20 then 6 else 1000
def F13 (gl g6 i k n m : Nat) (a b c d : Int) (bl : Bool) (j_ : Nat) (v : Value) (w_ : World) : Prop :=
  match j_ with
  | 0 => v = Value.agg #[Value.int IntKind.u64 c, Value.int IntKind.u64 1, Value.int IntKind.u64 b, Value.int IntKind.u64 a, Value.bool bl]
  | 1 => v = Value.slice (some ⟨gl, 0, none⟩) 8 8
  | 2 => v = Value.int IntKind.i64 (k : Int)
  | 3 => v = Value.pointer (some ⟨gl, k, none⟩)
  | 4 => v = Value.int IntKind.u64 b
  | 5 => v = Value.slice (some ⟨gl, 0, none⟩) 8 8
  | 6 => v = Value.int IntKind.i64 (n : Int)
  | 7 => v = Value.pointer (some ⟨gl, n, none⟩)
  | 8 => v = Value.int IntKind.u64 c
  | 9 => v = Value.slice (some ⟨gl, 0, none⟩) 8 8
  | 10 => v = Value.int IntKind.i64 (k : Int)
  | 11 => v = Value.pointer (some ⟨gl, k, none⟩)
  | 12 => v = Value.int IntKind.u64 b
  | 13 => v = Value.slice (some ⟨gl, 0, none⟩) 8 8
  | 14 => v = Value.int IntKind.i64 (n : Int)
  | 15 => v = Value.pointer (some ⟨gl, n, none⟩)
  | 16 => v = Value.int IntKind.u64 c
  | 17 => v = Value.bool true
  | 18 => v = Value.bool false
  | 19 => v = Value.bool false
  | 20 => v = Value.agg #[Value.int IntKind.u64 c, Value.int IntKind.u64 1, Value.int IntKind.u64 b, Value.int IntKind.u64 a, Value.bool bl]
  | 21 => v = Value.slice (some ⟨gl, 0, none⟩) 8 8
  | 22 => v = Value.int IntKind.i64 (n : Int)
  | 23 => v = Value.pointer (some ⟨gl, n, none⟩)
  | 24 => v = Value.int IntKind.u64 c
  | 25 => v = Value.slice (some ⟨gl, 0, none⟩) 8 8
  | 26 => v = Value.int IntKind.i64 (k : Int)
  | 27 => v = Value.pointer (some ⟨gl, k, none⟩)
  | 28 => v = Value.int IntKind.u64 b
  | 29 => v = Value.slice (some ⟨gl, 0, none⟩) 8 8
  | 30 => v = Value.int IntKind.i64 (n : Int)
  | 31 => v = Value.pointer (some ⟨gl, n, none⟩)
  | 32 => v = Value.int IntKind.u64 c
  | 33 => v = Value.bool true
  | 34 => v = Value.bool false
  | 35 => v = Value.bool false
  | 36 => v = Value.bool false
  | 37 => v = Value.agg #[Value.int IntKind.u64 c, Value.int IntKind.u64 1, Value.int IntKind.u64 b, Value.int IntKind.u64 a, Value.bool bl]
  | 38 => v = Value.slice (some ⟨gl, 0, none⟩) 8 8
  | 39 => v = Value.int IntKind.i64 (k : Int)
  | 40 => v = Value.pointer (some ⟨gl, k, none⟩)
  | 41 => v = Value.int IntKind.u64 b
  | 42 => v = Value.slice (some ⟨gl, 0, none⟩) 8 8
  | 43 => v = Value.int IntKind.i64 (n : Int)
  | 44 => v = Value.pointer (some ⟨gl, n, none⟩)
  | 45 => v = Value.int IntKind.u64 c
  | 46 => v = Value.slice (some ⟨gl, 0, none⟩) 8 8
  | 47 => v = Value.int IntKind.i64 (k : Int)
  | 48 => v = Value.pointer (some ⟨gl, k, none⟩)
  | 49 => v = Value.int IntKind.u64 b
  | 50 => v = Value.agg #[Value.int IntKind.u64 c, Value.int IntKind.u64 1, Value.int IntKind.u64 b, Value.int IntKind.u64 a, Value.bool bl]
  | 51 => v = Value.slice (some ⟨gl, 0, none⟩) 8 8
  | 52 => v = Value.int IntKind.i64 (k : Int)
  | 53 => v = Value.pointer (some ⟨gl, k, none⟩)
  | 54 => v = Value.int IntKind.u64 b
  | 55 => v = Value.agg #[Value.int IntKind.u64 b, Value.int IntKind.u64 0, Value.int IntKind.u64 0, Value.int IntKind.u64 0, Value.bool false]
  | 56 => v = Value.slice (some ⟨gl, 0, none⟩) 8 8
  | 57 => v = Value.int IntKind.i64 (n : Int)
  | 58 => v = Value.pointer (some ⟨gl, n, none⟩)
  | 59 => v = Value.int IntKind.u64 c
  | 60 => v = Value.agg #[Value.int IntKind.u64 c, Value.int IntKind.u64 9, Value.int IntKind.u64 0, Value.int IntKind.u64 0, Value.bool false]
  | 61 => ∃ g : Nat, v = Value.slice (some ⟨g, 0, none⟩) 3 3 ∧ Kd.C k24 w_ (some ⟨g, 0, none⟩) [(⟨c, 1, b, a, bl⟩ : S24), ⟨b, 0, 0, 0, false⟩, ⟨c, 9, 0, 0, false⟩].length [(⟨c, 1, b, a, bl⟩ : S24), ⟨b, 0, 0, 0, false⟩, ⟨c, 9, 0, 0, false⟩]
  | 62 => v = Value.bool true
  | 63 => v = Value.bool false
  | 64 => v = Value.bool false
  | 65 => v = Value.bool false
  | 66 => v = Value.agg #[Value.int IntKind.u64 c, Value.int IntKind.u64 1, Value.int IntKind.u64 b, Value.int IntKind.u64 a, Value.bool bl]
  | 67 => v = Value.slice (some ⟨gl, 0, none⟩) 8 8
  | 68 => v = Value.int IntKind.i64 (k : Int)
  | 69 => v = Value.pointer (some ⟨gl, k, none⟩)
  | 70 => v = Value.int IntKind.u64 b
  | 71 => v = Value.slice (some ⟨gl, 0, none⟩) 8 8
  | 72 => v = Value.int IntKind.i64 (n : Int)
  | 73 => v = Value.pointer (some ⟨gl, n, none⟩)
  | 74 => v = Value.int IntKind.u64 c
  | 75 => v = Value.slice (some ⟨gl, 0, none⟩) 8 8
  | 76 => v = Value.int IntKind.i64 (k : Int)
  | 77 => v = Value.int IntKind.i64 (n : Int)
  | 78 => v = Value.int IntKind.i64 ((k : Int) + (n : Int))
  | 79 => v = Value.int IntKind.i64 (m : Int)
  | 80 => v = Value.pointer (some ⟨gl, m, none⟩)
  | 81 => v = Value.int IntKind.u64 d
  | 82 => v = Value.bool true
  | 83 => v = Value.bool false
  | 84 => v = Value.bool false
  | _ => True
theorem F13_stable {gl g6 i k n m : Nat} {a b c d : Int} {bl : Bool} (j : Nat) (v : Value) (w1 w2 : World) (hb : Below w1.heap.size w1 w2) (h : F13 gl g6 i k n m a b c d bl j v w1) : F13 gl g6 i k n m a b c d bl j v w2 := by
  unfold F13 at h ⊢
  split at h <;> first | exact h | (obtain ⟨g, e, hC⟩ := h; exact ⟨g, e, Kd.C_below hC hb⟩)
def F15 (gl g6 i k n m : Nat) (a b c d : Int) (bl : Bool) (j_ : Nat) (v : Value) (w_ : World) : Prop :=
  match j_ with
  | 0 => v = Value.agg #[Value.int IntKind.u64 c, Value.int IntKind.u64 1, Value.int IntKind.u64 b, Value.int IntKind.u64 a, Value.bool bl]
  | 1 => v = Value.int IntKind.i64 (n : Int)
  | 2 => v = Value.slice (some ⟨gl, 0, none⟩) 8 8
  | 3 => v = Value.int IntKind.i64 (k : Int)
  | 4 => v = Value.pointer (some ⟨gl, k, none⟩)
  | 5 => v = Value.int IntKind.u64 b
  | 6 => v = Value.slice (some ⟨gl, 0, none⟩) 8 8
  | 7 => v = Value.int IntKind.i64 (n : Int)
  | 8 => v = Value.pointer (some ⟨gl, n, none⟩)
  | 9 => v = Value.int IntKind.u64 c
  | 10 => v = Value.agg #[Value.int IntKind.i64 (n : Int), Value.int IntKind.u64 1, Value.int IntKind.u64 b, Value.int IntKind.u64 c]
  | 11 => v = Value.int IntKind.i64 (k : Int)
  | 12 => v = Value.agg #[Value.int IntKind.i64 (k : Int), Value.int IntKind.u64 2, Value.int IntKind.u64 0, Value.int IntKind.u64 0]
  | 13 => v = Value.int IntKind.i64 (i : Int)
  | 14 => v = Value.slice (some ⟨gl, 0, none⟩) 8 8
  | 15 => v = Value.int IntKind.i64 (k : Int)
  | 16 => v = Value.pointer (some ⟨gl, k, none⟩)
  | 17 => v = Value.int IntKind.u64 b
  | 18 => v = Value.agg #[Value.int IntKind.i64 (i : Int), Value.int IntKind.u64 1, Value.int IntKind.u64 b, Value.int IntKind.u64 0]
  | 19 => ∃ g : Nat, v = Value.slice (some ⟨g, 0, none⟩) 3 3 ∧ Kd.C k43 w_ (some ⟨g, 0, none⟩) [(⟨(n : Int), 1, b, c⟩ : S43), ⟨(k : Int), 2, 0, 0⟩, ⟨(i : Int), 1, b, 0⟩].length [(⟨(n : Int), 1, b, c⟩ : S43), ⟨(k : Int), 2, 0, 0⟩, ⟨(i : Int), 1, b, 0⟩]
  | 20 => v = Value.slice (some ⟨gl, 0, none⟩) 8 8
  | 21 => v = Value.int IntKind.i64 (k : Int)
  | 22 => v = Value.pointer (some ⟨gl, k, none⟩)
  | 23 => v = Value.int IntKind.u64 b
  | 24 => v = Value.slice (some ⟨gl, 0, none⟩) 8 8
  | 25 => v = Value.int IntKind.i64 (n : Int)
  | 26 => v = Value.pointer (some ⟨gl, n, none⟩)
  | 27 => v = Value.int IntKind.u64 c
  | 28 => v = Value.bool true
  | 29 => v = Value.bool false
  | _ => True
theorem F15_stable {gl g6 i k n m : Nat} {a b c d : Int} {bl : Bool} (j : Nat) (v : Value) (w1 w2 : World) (hb : Below w1.heap.size w1 w2) (h : F15 gl g6 i k n m a b c d bl j v w1) : F15 gl g6 i k n m a b c d bl j v w2 := by
  unfold F15 at h ⊢
  split at h <;> first | exact h | (obtain ⟨g, e, hC⟩ := h; exact ⟨g, e, Kd.C_below hC hb⟩)

set_option maxHeartbeats 8000000 in
set_option maxRecDepth 100000 in
theorem known_walk (w : World) : Calls Try.prog 7 #[] w fun e w' => e = .returned (.bool true) ∧ Below w.heap.size w w' := by
  have hu24 := Try.underlying24
  go_enter Try.func7, Try.ntmps7
  go_wp2_with ((with_reducible refine gate_dst (N := 10) rfl ?_); refine lit_event rfl (N := 10) rfl _ _ _ (build_runN 59 22 8 #[Value.int .u64 0, Value.int .u64 1, Value.int .u64 2, Value.int .u64 9, Value.int .u64 10, Value.int .u64 11, Value.int .u64 18446744073709551614, Value.int .u64 18446744073709551615] kinfo22 Try.underlying59 _ rfl (by omega) (by omega) _ (fillU8 _ _ _ _ _ _ _ _) (by go_simp)) ?_; intro gl _ w1 hbox hb; have HL := Aside0.mk (rd_blk vals hbox rfl (by decide)); have HB := Aside0.mk hb; clear hbox hb)
  go_loopg [3] 8 (fun kq v3 w' => ∃ i : Nat, v3 = .int .i64 (i : Int) ∧ Aside0 (i + kq = 8) ∧ Aside0 (Rd w' (some ⟨gl, 0, none⟩) vals) ∧ Aside0 (Below w.heap.size w w'))
  case atStart => exact ⟨0, rfl, ⟨rfl⟩, HL, HB⟩
  case round =>
    clear HL HB
    obtain ⟨i, rfl, HKi, HL, HB⟩ := hrel
    by_cases hi : i < 8
    · have ci : decide ((i : Int) < 8) = true := decide_eq_true (by omega)
      have HI := Aside0.mk hi
      have pi : (i : Int) < 8 := by omega
      cases gk with
      | zero => exact absurd HKi.out (by omega)
      | succ k1 =>
      clear hi
      go_wp2
      go_loopg [4] 8 (fun kq v4 w' => ∃ k : Nat, v4 = .int .i64 (k : Int) ∧ Aside0 (k + kq = 8) ∧ Aside0 (Rd w' (some ⟨gl, 0, none⟩) vals) ∧ Aside0 (Below w.heap.size w w'))
      case atStart => exact ⟨0, rfl, ⟨rfl⟩, HL, HB⟩
      case round =>
        clear HL HB
        obtain ⟨k, rfl, HKk, HL, HB⟩ := hrel
        by_cases hk : k < 8
        · have ck : decide ((k : Int) < 8) = true := decide_eq_true (by omega)
          have HK := Aside0.mk hk
          have pk : (k : Int) < 8 := by omega
          cases gk with
          | zero => exact absurd HKk.out (by omega)
          | succ k2 =>
          clear hk
          go_wp2
          go_loopg [5] 8 (fun kq v5 w' => ∃ n : Nat, v5 = .int .i64 (n : Int) ∧ Aside0 (n + kq = 8) ∧ Aside0 (Rd w' (some ⟨gl, 0, none⟩) vals) ∧ Aside0 (Below w.heap.size w w'))
          case atStart => exact ⟨0, rfl, ⟨rfl⟩, HL, HB⟩
          case round =>
            clear HL HB
            obtain ⟨n, rfl, HKn, HL, HB⟩ := hrel
            by_cases hn : n < 8
            · have cn : decide ((n : Int) < 8) = true := decide_eq_true (by omega)
              have HN := Aside0.mk hn
              have pn : (n : Int) < 8 := by omega
              cases gk with
              | zero => exact absurd HKn.out (by omega)
              | succ k3 =>
              clear hn
              go_wp2
              obtain ⟨ad, e, hxi⟩ := Rd.val HL.out i HI.out
              cases e
              rw [add_plain] at hxi
              obtain ⟨ad, e, hxk⟩ := Rd.val HL.out k HK.out
              cases e
              rw [add_plain] at hxk
              obtain ⟨ad, e, hxn⟩ := Rd.val HL.out n HN.out
              cases e
              rw [add_plain] at hxn
              obtain ⟨m, hm⟩ : ∃ m : Nat, m = (k + n) % 8 := ⟨_, rfl⟩
              have HM8 := Aside0.mk (show m < 8 by omega)
              have HM := Aside0.mk (show ((k : Int) + (n : Int)) % 8 = (m : Int) by omega)
              obtain ⟨ad, e, hxm⟩ := Rd.val HL.out m HM8.out
              cases e
              rw [add_plain] at hxm
              clear hm
              obtain ⟨a, ha⟩ : ∃ z, z = nth vals i := ⟨_, rfl⟩
              have FA := Aside0.mk (show Fit a by rw [ha]; exact vals_fit i HI.out)
              have HXi := Aside0.mk (show wr.cell? ⟨gl, i, none⟩ = some (.int .u64 a) by rw [ha]; exact hxi)
              obtain ⟨b, hb⟩ : ∃ z, z = nth vals k := ⟨_, rfl⟩
              have FB := Aside0.mk (show Fit b by rw [hb]; exact vals_fit k HK.out)
              have HXk := Aside0.mk (show wr.cell? ⟨gl, k, none⟩ = some (.int .u64 b) by rw [hb]; exact hxk)
              obtain ⟨c, hc⟩ : ∃ z, z = nth vals n := ⟨_, rfl⟩
              have FC := Aside0.mk (show Fit c by rw [hc]; exact vals_fit n HN.out)
              have HXn := Aside0.mk (show wr.cell? ⟨gl, n, none⟩ = some (.int .u64 c) by rw [hc]; exact hxn)
              obtain ⟨d, hd⟩ : ∃ z, z = nth vals m := ⟨_, rfl⟩
              have FD := Aside0.mk (show Fit d by rw [hd]; exact vals_fit m HM8.out)
              have HXm := Aside0.mk (show wr.cell? ⟨gl, m, none⟩ = some (.int .u64 d) by rw [hd]; exact hxm)
              clear hxi hxk hxn hxm ha hb hc hd
              refine Reg.region2 (fr := (fun x : Nat → Value => (⟨#[u0, Value.int IntKind.u64 18446744073709551615, Value.slice (some ⟨gl, 0, none⟩) 8 8, Value.int IntKind.i64 (i : Int), Value.int IntKind.i64 (k : Int), Value.int IntKind.i64 (n : Int), x 6, Value.int IntKind.u64 18446744073709551615, Value.int IntKind.u64 18446744073709551614, Value.int IntKind.u64 18446744073709551615, Value.slice (some ⟨gl, 0, none⟩) 8 8, Value.int IntKind.i64 (i : Int), Value.slice (some ⟨gl, 0, none⟩) 8 8, Value.int IntKind.i64 8, Value.bool true, u15, u16, Value.int IntKind.i64 (k : Int), Value.slice (some ⟨gl, 0, none⟩) 8 8, Value.int IntKind.i64 8, Value.bool true, u21, u22, Value.int IntKind.i64 (n : Int), Value.slice (some ⟨gl, 0, none⟩) 8 8, Value.int IntKind.i64 8, Value.bool true, u27, u28, x 29, x 30, x 31, x 32, x 33, x 34, x 35, x 36, x 37, x 38, x 39, x 40, x 41, x 42, x 43, x 44, x 45, x 46, x 47, x 48, u49, u50, u51, u52, u53, u54, u55, u56, u57, u58, u59, u60, u61, u62, u63, u64, u65, u66, u67, u68, u69, u70, u71, u72, u73, u74, u75, u76, u77, u78, u79, u80, u81, u82, u83, u84, u85, u86, u87, u88, u89, u90, u91, u92, u93, u94, u95, u96, u97, u98, u99, u100, u101, u102, u103, u104, u105, u106, u107, u108, u109, u110, u111, u112, u113, u114, u115, u116, u117, u118, u119, u120, u121, u122, u123, u124, u125, u126, u127, u128, u129, u130, u131, u132, u133, u134, u135, u136, u137, u138, u139, u140, u141, u142, u143, u144, u145, u146, u147, u148, u149, u150, u151, u152, u153, u154, u155, u156, u157, u158, u159, u160, u161, u162, u163, undef, undef, undef, undef, undef, undef], []⟩ : Act))) (dst := d12) (G12 wr c b a) (F12 gl wr.heap.size i k n a b c) (fun s_ => if s_ = 6 then u6 else [u29, u30, u31, u32, u33, u34, u35, u36, u37, u38, u39, u40, u41, u42, u43, u44, u45, u46, u47, u48].getD (s_ - 29) undef) rfl (by kernel_rfl) (by kernel_rfl) ?inj ?inv ?step ?fin
              case inj =>
                intro i j hi hj h
                have hi' : i < 22 := hi
                have hj' : j < 22 := hj
                unfold d12 at h
                split at h <;> split at h <;> (try split at h) <;> (try split at h) <;> omega
              case inv => exact ⟨below_drew1 (Below.refl _ _), fun h => h, fun _ => rfl, fun h => (by cases h), fun h => (by cases h)⟩
              case step =>
                intro i_ hi_
                have hi2 : i_ < 22 := hi_
                have hi3 : i_ = 0 ∨ i_ = 1 ∨ i_ = 2 ∨ i_ = 3 ∨ i_ = 4 ∨ i_ = 5 ∨ i_ = 6 ∨ i_ = 7 ∨ i_ = 8 ∨ i_ = 9 ∨ i_ = 10 ∨ i_ = 11 ∨ i_ = 12 ∨ i_ = 13 ∨ i_ = 14 ∨ i_ = 15 ∨ i_ = 16 ∨ i_ = 17 ∨ i_ = 18 ∨ i_ = 19 ∨ i_ = 20 ∨ i_ = 21 := by omega
                clear hi_ hi2
                rcases hi3 with rfl | rfl | rfl | rfl | rfl | rfl | rfl | rfl | rfl | rfl | rfl | rfl | rfl | rfl | rfl | rfl | rfl | rfl | rfl | rfl | rfl | rfl
                · intro o ho L x w' hL hG hd
                  injection ho with ho
                  subst ho
                  have HG := Aside0.mk hG
                  clear hG
                  dsimp only []
                  go_wp2
                  exact ⟨_, (by simp [Reg.upd, d12]), HG.out.same 0 (by decide) (by decide), rfl⟩
                · intro o ho L x w' hL hG hd
                  injection ho with ho
                  subst ho
                  have HG := Aside0.mk hG
                  clear hG
                  dsimp only []
                  go_wp2
                  exact ⟨_, (by simp [Reg.upd, d12]), HG.out.same 1 (by decide) (by decide), rfl⟩
                · intro o ho L x w' hL hG hd
                  injection ho with ho
                  subst ho
                  have h0 : x 29 = Value.slice (some ⟨gl, 0, none⟩) 8 8 := (hd 0 rfl).2
                  have h1 : x 30 = Value.int IntKind.i64 (n : Int) := (hd 1 rfl).2
                  have HG := Aside0.mk hG
                  clear hG
                  dsimp only []
                  go_wp2
                  exact ⟨_, (by simp [Reg.upd, d12, h0, h1]), HG.out.same 2 (by decide) (by decide), rfl⟩
                · intro o ho L x w' hL hG hd
                  injection ho with ho
                  subst ho
                  have h2 : x 31 = Value.pointer (some ⟨gl, n, none⟩) := (hd 2 rfl).2
                  have HG := Aside0.mk hG
                  clear hG
                  have hx := pw_cell_below HG.out.below HXn.out
                  dsimp only []
                  go_wp2
                  exact ⟨_, (by simp [Reg.upd, d12, h2]), HG.out.same 3 (by decide) (by decide), rfl⟩
                · intro o ho L x w' hL hG hd
                  injection ho with ho
                  subst ho
                  have HG := Aside0.mk hG
                  clear hG
                  dsimp only []
                  go_wp2
                  exact ⟨_, (by simp [Reg.upd, d12]), HG.out.same 4 (by decide) (by decide), rfl⟩
                · intro o ho L x w' hL hG hd
                  injection ho with ho
                  subst ho
                  have HG := Aside0.mk hG
                  clear hG
                  dsimp only []
                  go_wp2
                  exact ⟨_, (by simp [Reg.upd, d12]), HG.out.same 5 (by decide) (by decide), rfl⟩
                · intro o ho L x w' hL hG hd
                  injection ho with ho
                  subst ho
                  have h4 : x 33 = Value.slice (some ⟨gl, 0, none⟩) 8 8 := (hd 4 rfl).2
                  have h5 : x 34 = Value.int IntKind.i64 (k : Int) := (hd 5 rfl).2
                  have HG := Aside0.mk hG
                  clear hG
                  dsimp only []
                  go_wp2
                  exact ⟨_, (by simp [Reg.upd, d12, h4, h5]), HG.out.same 6 (by decide) (by decide), rfl⟩
                · intro o ho L x w' hL hG hd
                  injection ho with ho
                  subst ho
                  have h6 : x 35 = Value.pointer (some ⟨gl, k, none⟩) := (hd 6 rfl).2
                  have HG := Aside0.mk hG
                  clear hG
                  have hx := pw_cell_below HG.out.below HXk.out
                  dsimp only []
                  go_wp2
                  exact ⟨_, (by simp [Reg.upd, d12, h6]), HG.out.same 7 (by decide) (by decide), rfl⟩
                · intro o ho L x w' hL hG hd
                  injection ho with ho
                  subst ho
                  have HG := Aside0.mk hG
                  clear hG
                  dsimp only []
                  go_wp2
                  exact ⟨_, (by simp [Reg.upd, d12]), HG.out.same 8 (by decide) (by decide), rfl⟩
                · intro o ho L x w' hL hG hd
                  injection ho with ho
                  subst ho
                  have HG := Aside0.mk hG
                  clear hG
                  dsimp only []
                  go_wp2
                  exact ⟨_, (by simp [Reg.upd, d12]), HG.out.same 9 (by decide) (by decide), rfl⟩
                · intro o ho L x w' hL hG hd
                  injection ho with ho
                  subst ho
                  have h8 : x 37 = Value.slice (some ⟨gl, 0, none⟩) 8 8 := (hd 8 rfl).2
                  have h9 : x 38 = Value.int IntKind.i64 (i : Int) := (hd 9 rfl).2
                  have HG := Aside0.mk hG
                  clear hG
                  dsimp only []
                  go_wp2
                  exact ⟨_, (by simp [Reg.upd, d12, h8, h9]), HG.out.same 10 (by decide) (by decide), rfl⟩
                · intro o ho L x w' hL hG hd
                  injection ho with ho
                  subst ho
                  have h10 : x 39 = Value.pointer (some ⟨gl, i, none⟩) := (hd 10 rfl).2
                  have HG := Aside0.mk hG
                  clear hG
                  have hx := pw_cell_below HG.out.below HXi.out
                  dsimp only []
                  go_wp2
                  exact ⟨_, (by simp [Reg.upd, d12, h10]), HG.out.same 11 (by decide) (by decide), rfl⟩
                · intro o ho L x w' hL hG hd
                  injection ho with ho
                  subst ho
                  have HG := Aside0.mk hG
                  clear hG
                  dsimp only []
                  go_wp2
                  exact ⟨_, (by simp [Reg.upd, d12]), HG.out.same 12 (by decide) (by decide), rfl⟩
                · intro o ho L x w' hL hG hd
                  injection ho with ho
                  subst ho
                  have HG := Aside0.mk hG
                  clear hG
                  dsimp only []
                  go_wp2
                  exact ⟨_, (by simp [Reg.upd, d12]), HG.out.same 13 (by decide) (by decide), rfl⟩
                · intro o ho L x w' hL hG hd
                  injection ho with ho
                  subst ho
                  have h12 : x 41 = Value.int IntKind.i64 (i : Int) := (hd 12 rfl).2
                  have h13 : x 42 = Value.int IntKind.i64 (k : Int) := (hd 13 rfl).2
                  have HG := Aside0.mk hG
                  clear hG
                  dsimp only []
                  go_wp2
                  exact ⟨_, (by simp [Reg.upd, d12, h12, h13]), HG.out.same 14 (by decide) (by decide), rfl⟩
                · intro o ho L x w' hL hG hd
                  injection ho with ho
                  subst ho
                  have HG := Aside0.mk hG
                  clear hG
                  dsimp only []
                  go_wp2
                  exact ⟨_, (by simp [Reg.upd, d12]), HG.out.same 15 (by decide) (by decide), rfl⟩
                · intro o ho L x w' hL hG hd
                  injection ho with ho
                  subst ho
                  have h14 : x 43 = Value.int IntKind.i64 ((i : Int) + (k : Int)) := (hd 14 rfl).2
                  have h15 : x 44 = Value.int IntKind.i64 (n : Int) := (hd 15 rfl).2
                  have HG := Aside0.mk hG
                  clear hG
                  dsimp only []
                  go_wp2
                  exact ⟨_, (by simp [Reg.upd, d12, h14, h15]), HG.out.same 16 (by decide) (by decide), rfl⟩
                · intro o ho L x w' hL hG hd
                  injection ho with ho
                  subst ho
                  have h16 : x 45 = Value.int IntKind.i64 ((i : Int) + (k : Int) + (n : Int)) := (hd 16 rfl).2
                  have HG := Aside0.mk hG
                  clear hG
                  dsimp only []
                  go_wp2
                  exact ⟨_, (by simp [Reg.upd, d12, h16]), HG.out.same 17 (by decide) (by decide), rfl⟩
                · intro o ho L x w' hL hG hd
                  injection ho with ho
                  subst ho
                  have h17 : x 46 = Value.int IntKind.i64 (((i : Int) + (k : Int) + (n : Int)) % 3) := (hd 17 rfl).2
                  have HG := Aside0.mk hG
                  clear hG
                  dsimp only []
                  go_wp2
                  exact ⟨Value.bool (decide (0 < ((i : Int) + (k : Int) + (n : Int)) % 3)), (by simp [Reg.upd, d12, h17]), HG.out.same 18 (by decide) (by decide), _, rfl⟩
                · intro o ho L x w' hL hG hd
                  injection ho with ho
                  subst ho
                  have h3 : x 32 = Value.int IntKind.u64 c := (hd 3 rfl).2
                  have h7 : x 36 = Value.int IntKind.u64 b := (hd 7 rfl).2
                  have h11 : x 40 = Value.int IntKind.u64 a := (hd 11 rfl).2
                  have h18 : ∃ bl : Bool, x 47 = Value.bool bl := (hd 18 rfl).2
                  obtain ⟨bl, h18⟩ := h18
                  have HG := Aside0.mk hG
                  clear hG
                  dsimp only []
                  go_wp2
                  exact ⟨_, (by simp [Reg.upd, d12, h3, h7, h11, h18]), HG.out.same 19 (by decide) (by decide), bl, rfl⟩
                · intro o ho L x w' hL hG hd
                  injection ho with ho
                  subst ho
                  have HG := Aside0.mk hG
                  clear hG
                  have HL := Aside0.mk hL
                  clear hL
                  dsimp only []
                  go_wp2_with ((with_reducible refine gate_dst (N := 6) rfl ?_); refine box_event ?hg (N := 6) ?hd (cs := #[Value.int .u64 0, .int .u64 0, .int .u64 0, .int .u64 0, .bool false]) (t := 24) ?hr ?_; (case hd => rfl); (case hg => rfl); (case hr => first | (go_simp; done) | (go_simp; rfl)); intro g6 hg w1 hbox hb; have HZ := Aside0.mk (HG.out.alloc HL.out hg hbox hb); clear hg hbox hb)
                  obtain ⟨e6, hg⟩ := HZ.out
                  subst e6
                  exact ⟨_, (by simp [Reg.upd, Act.put, d12]), hg, rfl⟩
                · intro o ho L x w' hL hG hd
                  injection ho with ho
                  subst ho
                  have l20 := (hd 20 rfl).1
                  have h20 : x 6 = Value.pointer (some ⟨wr.heap.size, 0, none⟩) := (hd 20 rfl).2
                  have h19 : ∃ bl : Bool, x 48 = Value.agg #[Value.int IntKind.u64 c, Value.int IntKind.u64 1, Value.int IntKind.u64 b, Value.int IntKind.u64 a, Value.bool bl] := (hd 19 rfl).2
                  obtain ⟨bl, h19⟩ := h19
                  have HZ := Aside0.mk (hG.made l20 hL)
                  have HB6 := Aside0.mk hG.below
                  clear hG
                  dsimp only []
                  go_wp2_with ((with_reducible refine gate_ (.store 24 (.tmp 6) (.tmp 48)) rfl ?_); refine storeN_event (g := wr.heap.size) (new := #[Value.int .u64 c, .int .u64 1, .int .u64 b, .int .u64 a, .bool bl]) rfl rfl rfl ?ha ?hx HZ.out ?ht rfl ?h1 ?_; (case ha => go_simp); (case hx => go_simp); (case ht => kernel_rfl); (case h1 => simp [Value.oneCell']); intro W1 hW hfar hbel; have HN := Aside0.mk (hbel wr HB6.out (Nat.le_refl _)); have HP := Aside0.mk hW; clear hW hfar hbel)
                  refine ⟨undef, by simp [Reg.upd, d12, h20, h19], ⟨HN.out, fun _ => ?_, fun h0 => ?_, fun _ h1 => ?_, fun _ => ⟨bl, HP.out⟩⟩, trivial⟩
                  · rw [come_ne (by decide)]; exact l20
                  · rw [come_ne (by decide), l20] at h0; cases h0
                  · rw [come_self] at h1; cases h1
              case fin =>
                intro L y W2 hG hF
                obtain ⟨bl, hX6⟩ := hG.put (hF 21 (by decide)).1
                have h6 : y 6 = Value.pointer (some ⟨wr.heap.size, 0, none⟩) := (hF 20 (by decide)).2
                have HB2 := Aside0.mk (below_step HB.out hG.below)
                have HXi := Aside0.mk (pw_cell_below hG.below HXi.out)
                have HXk := Aside0.mk (pw_cell_below hG.below HXk.out)
                have HXn := Aside0.mk (pw_cell_below hG.below HXn.out)
                have HXm := Aside0.mk (pw_cell_below hG.below HXm.out)
                have HL2 := Aside0.mk (HL.out.below hG.below)
                obtain ⟨g6, e6⟩ : ∃ g, g = wr.heap.size := ⟨_, rfl⟩
                rw [← e6] at hX6 h6
                have HX6 := Aside0.mk hX6
                clear hX6 e6 hG hF HB HL
                dsimp only []
                rw [h6]
                clear h6
                go_wp2
                simp only [List.append_eq, List.cons_append, List.nil_append]
                refine Reg.region (fr := (fun x : Nat → Value => (⟨#[u0, Value.int IntKind.u64 18446744073709551615, Value.slice (some ⟨gl, 0, none⟩) 8 8, Value.int IntKind.i64 (i : Int), Value.int IntKind.i64 (k : Int), Value.int IntKind.i64 (n : Int), Value.pointer (some ⟨g6, 0, none⟩), Value.int IntKind.u64 18446744073709551615, Value.int IntKind.u64 18446744073709551614, Value.int IntKind.u64 18446744073709551615, Value.slice (some ⟨gl, 0, none⟩) 8 8, Value.int IntKind.i64 (i : Int), Value.slice (some ⟨gl, 0, none⟩) 8 8, Value.int IntKind.i64 8, Value.bool true, u15, u16, Value.int IntKind.i64 (k : Int), Value.slice (some ⟨gl, 0, none⟩) 8 8, Value.int IntKind.i64 8, Value.bool true, u21, u22, Value.int IntKind.i64 (n : Int), Value.slice (some ⟨gl, 0, none⟩) 8 8, Value.int IntKind.i64 8, Value.bool true, u27, u28, y 29, y 30, y 31, y 32, y 33, y 34, y 35, y 36, y 37, y 38, y 39, y 40, y 41, y 42, y 43, y 44, y 45, y 46, y 47, y 48, x 49, x 50, x 51, x 52, x 53, x 54, x 55, x 56, x 57, x 58, x 59, x 60, x 61, x 62, x 63, x 64, x 65, x 66, x 67, x 68, x 69, x 70, x 71, x 72, x 73, x 74, x 75, x 76, x 77, x 78, x 79, x 80, x 81, x 82, x 83, x 84, x 85, x 86, x 87, x 88, x 89, x 90, x 91, x 92, x 93, x 94, x 95, x 96, x 97, x 98, x 99, x 100, x 101, x 102, x 103, x 104, x 105, x 106, x 107, x 108, x 109, x 110, x 111, x 112, x 113, x 114, x 115, x 116, x 117, x 118, x 119, x 120, x 121, x 122, x 123, x 124, x 125, x 126, x 127, x 128, x 129, x 130, x 131, x 132, x 133, u134, u135, u136, u137, u138, u139, u140, u141, u142, u143, u144, u145, u146, u147, u148, u149, u150, u151, u152, u153, u154, u155, u156, u157, u158, u159, u160, u161, u162, u163, undef, undef, undef, undef, undef, undef], []⟩ : Act))) (dst := fun i => 49 + i) (fun w' => Below W2.heap.size W2 w') (F13 gl g6 i k n m a b c d bl) (fun s_ => [u49, u50, u51, u52, u53, u54, u55, u56, u57, u58, u59, u60, u61, u62, u63, u64, u65, u66, u67, u68, u69, u70, u71, u72, u73, u74, u75, u76, u77, u78, u79, u80, u81, u82, u83, u84, u85, u86, u87, u88, u89, u90, u91, u92, u93, u94, u95, u96, u97, u98, u99, u100, u101, u102, u103, u104, u105, u106, u107, u108, u109, u110, u111, u112, u113, u114, u115, u116, u117, u118, u119, u120, u121, u122, u123, u124, u125, u126, u127, u128, u129, u130, u131, u132, u133].getD (s_ - 49) undef) rfl (by kernel_rfl) (by kernel_rfl) ?inj ?stable ?inv ?step ?fin
                case inj =>
                  intro i j hi hj h
                  have h' : 49 + i = 49 + j := h
                  omega
                case stable => exact fun j v w1 w2 hb h => F13_stable j v w1 w2 hb h
                case inv => exact below_drew1 (Below.refl _ _)
                case step =>
                  intro i_ hi_
                  have hi2 : i_ < 85 := hi_
                  have hi3 : i_ = 0 ∨ i_ = 1 ∨ i_ = 2 ∨ i_ = 3 ∨ i_ = 4 ∨ i_ = 5 ∨ i_ = 6 ∨ i_ = 7 ∨ i_ = 8 ∨ i_ = 9 ∨ i_ = 10 ∨ i_ = 11 ∨ i_ = 12 ∨ i_ = 13 ∨ i_ = 14 ∨ i_ = 15 ∨ i_ = 16 ∨ i_ = 17 ∨ i_ = 18 ∨ i_ = 19 ∨ i_ = 20 ∨ i_ = 21 ∨ i_ = 22 ∨ i_ = 23 ∨ i_ = 24 ∨ i_ = 25 ∨ i_ = 26 ∨ i_ = 27 ∨ i_ = 28 ∨ i_ = 29 ∨ i_ = 30 ∨ i_ = 31 ∨ i_ = 32 ∨ i_ = 33 ∨ i_ = 34 ∨ i_ = 35 ∨ i_ = 36 ∨ i_ = 37 ∨ i_ = 38 ∨ i_ = 39 ∨ i_ = 40 ∨ i_ = 41 ∨ i_ = 42 ∨ i_ = 43 ∨ i_ = 44 ∨ i_ = 45 ∨ i_ = 46 ∨ i_ = 47 ∨ i_ = 48 ∨ i_ = 49 ∨ i_ = 50 ∨ i_ = 51 ∨ i_ = 52 ∨ i_ = 53 ∨ i_ = 54 ∨ i_ = 55 ∨ i_ = 56 ∨ i_ = 57 ∨ i_ = 58 ∨ i_ = 59 ∨ i_ = 60 ∨ i_ = 61 ∨ i_ = 62 ∨ i_ = 63 ∨ i_ = 64 ∨ i_ = 65 ∨ i_ = 66 ∨ i_ = 67 ∨ i_ = 68 ∨ i_ = 69 ∨ i_ = 70 ∨ i_ = 71 ∨ i_ = 72 ∨ i_ = 73 ∨ i_ = 74 ∨ i_ = 75 ∨ i_ = 76 ∨ i_ = 77 ∨ i_ = 78 ∨ i_ = 79 ∨ i_ = 80 ∨ i_ = 81 ∨ i_ = 82 ∨ i_ = 83 ∨ i_ = 84 := by omega
                  clear hi_ hi2
                  rcases hi3 with rfl | rfl | rfl | rfl | rfl | rfl | rfl | rfl | rfl | rfl | rfl | rfl | rfl | rfl | rfl | rfl | rfl | rfl | rfl | rfl | rfl | rfl | rfl | rfl | rfl | rfl | rfl | rfl | rfl | rfl | rfl | rfl | rfl | rfl | rfl | rfl | rfl | rfl | rfl | rfl | rfl | rfl | rfl | rfl | rfl | rfl | rfl | rfl | rfl | rfl | rfl | rfl | rfl | rfl | rfl | rfl | rfl | rfl | rfl | rfl | rfl | rfl | rfl | rfl | rfl | rfl | rfl | rfl | rfl | rfl | rfl | rfl | rfl | rfl | rfl | rfl | rfl | rfl | rfl | rfl | rfl | rfl | rfl | rfl | rfl
                  · intro o ho x w' hG hd
                    injection ho with ho
                    subst ho
                    have hW : Below W2.heap.size W2 w' := hG
                    dsimp only []
                    have hX := blk_below HX6.out hW
                    have hz0 : w'.cell? ⟨g6, 0, none⟩ = some (Value.int IntKind.u64 c) := (blk_cell hX 0).trans rfl
                    have hz1 : w'.cell? ⟨g6, 1, none⟩ = some (Value.int IntKind.u64 1) := (blk_cell hX 1).trans rfl
                    have hz2 : w'.cell? ⟨g6, 2, none⟩ = some (Value.int IntKind.u64 b) := (blk_cell hX 2).trans rfl
                    have hz3 : w'.cell? ⟨g6, 3, none⟩ = some (Value.int IntKind.u64 a) := (blk_cell hX 3).trans rfl
                    have hz4 : w'.cell? ⟨g6, 4, none⟩ = some (Value.bool bl) := (blk_cell hX 4).trans rfl
                    clear hX
                    go_wp2
                    exact ⟨_, (by simp [Reg.upd]), hW, Below.refl _ _, rfl⟩
                  · intro o ho x w' hG hd
                    injection ho with ho
                    subst ho
                    have hW : Below W2.heap.size W2 w' := hG
                    dsimp only []
                    go_wp2
                    exact ⟨_, (by simp [Reg.upd]), hW, Below.refl _ _, rfl⟩
                  · intro o ho x w' hG hd
                    injection ho with ho
                    subst ho
                    have hW : Below W2.heap.size W2 w' := hG
                    dsimp only []
                    go_wp2
                    exact ⟨_, (by simp [Reg.upd]), hW, Below.refl _ _, rfl⟩
                  · intro o ho x w' hG hd
                    injection ho with ho
                    subst ho
                    have hW : Below W2.heap.size W2 w' := hG
                    have h1 : x 50 = Value.slice (some ⟨gl, 0, none⟩) 8 8 := (hd 1 rfl)
                    have h2 : x 51 = Value.int IntKind.i64 (k : Int) := (hd 2 rfl)
                    dsimp only []
                    go_wp2
                    exact ⟨_, (by simp [Reg.upd, h1, h2]), hW, Below.refl _ _, rfl⟩
                  · intro o ho x w' hG hd
                    injection ho with ho
                    subst ho
                    have hW : Below W2.heap.size W2 w' := hG
                    have h3 : x 52 = Value.pointer (some ⟨gl, k, none⟩) := (hd 3 rfl)
                    dsimp only []
                    have hx := pw_cell_below hW HXk.out
                    go_wp2
                    exact ⟨_, (by simp [Reg.upd, h3]), hW, Below.refl _ _, rfl⟩
                  · intro o ho x w' hG hd
                    injection ho with ho
                    subst ho
                    have hW : Below W2.heap.size W2 w' := hG
                    dsimp only []
                    go_wp2
                    exact ⟨_, (by simp [Reg.upd]), hW, Below.refl _ _, rfl⟩
                  · intro o ho x w' hG hd
                    injection ho with ho
                    subst ho
                    have hW : Below W2.heap.size W2 w' := hG
                    dsimp only []
                    go_wp2
                    exact ⟨_, (by simp [Reg.upd]), hW, Below.refl _ _, rfl⟩
                  · intro o ho x w' hG hd
                    injection ho with ho
                    subst ho
                    have hW : Below W2.heap.size W2 w' := hG
                    have h5 : x 54 = Value.slice (some ⟨gl, 0, none⟩) 8 8 := (hd 5 rfl)
                    have h6 : x 55 = Value.int IntKind.i64 (n : Int) := (hd 6 rfl)
                    dsimp only []
                    go_wp2
                    exact ⟨_, (by simp [Reg.upd, h5, h6]), hW, Below.refl _ _, rfl⟩
                  · intro o ho x w' hG hd
                    injection ho with ho
                    subst ho
                    have hW : Below W2.heap.size W2 w' := hG
                    have h7 : x 56 = Value.pointer (some ⟨gl, n, none⟩) := (hd 7 rfl)
                    dsimp only []
                    have hx := pw_cell_below hW HXn.out
                    go_wp2
                    exact ⟨_, (by simp [Reg.upd, h7]), hW, Below.refl _ _, rfl⟩
                  · intro o ho x w' hG hd
                    injection ho with ho
                    subst ho
                    have hW : Below W2.heap.size W2 w' := hG
                    dsimp only []
                    go_wp2
                    exact ⟨_, (by simp [Reg.upd]), hW, Below.refl _ _, rfl⟩
                  · intro o ho x w' hG hd
                    injection ho with ho
                    subst ho
                    have hW : Below W2.heap.size W2 w' := hG
                    dsimp only []
                    go_wp2
                    exact ⟨_, (by simp [Reg.upd]), hW, Below.refl _ _, rfl⟩
                  · intro o ho x w' hG hd
                    injection ho with ho
                    subst ho
                    have hW : Below W2.heap.size W2 w' := hG
                    have h9 : x 58 = Value.slice (some ⟨gl, 0, none⟩) 8 8 := (hd 9 rfl)
                    have h10 : x 59 = Value.int IntKind.i64 (k : Int) := (hd 10 rfl)
                    dsimp only []
                    go_wp2
                    exact ⟨_, (by simp [Reg.upd, h9, h10]), hW, Below.refl _ _, rfl⟩
                  · intro o ho x w' hG hd
                    injection ho with ho
                    subst ho
                    have hW : Below W2.heap.size W2 w' := hG
                    have h11 : x 60 = Value.pointer (some ⟨gl, k, none⟩) := (hd 11 rfl)
                    dsimp only []
                    have hx := pw_cell_below hW HXk.out
                    go_wp2
                    exact ⟨_, (by simp [Reg.upd, h11]), hW, Below.refl _ _, rfl⟩
                  · intro o ho x w' hG hd
                    injection ho with ho
                    subst ho
                    have hW : Below W2.heap.size W2 w' := hG
                    dsimp only []
                    go_wp2
                    exact ⟨_, (by simp [Reg.upd]), hW, Below.refl _ _, rfl⟩
                  · intro o ho x w' hG hd
                    injection ho with ho
                    subst ho
                    have hW : Below W2.heap.size W2 w' := hG
                    dsimp only []
                    go_wp2
                    exact ⟨_, (by simp [Reg.upd]), hW, Below.refl _ _, rfl⟩
                  · intro o ho x w' hG hd
                    injection ho with ho
                    subst ho
                    have hW : Below W2.heap.size W2 w' := hG
                    have h13 : x 62 = Value.slice (some ⟨gl, 0, none⟩) 8 8 := (hd 13 rfl)
                    have h14 : x 63 = Value.int IntKind.i64 (n : Int) := (hd 14 rfl)
                    dsimp only []
                    go_wp2
                    exact ⟨_, (by simp [Reg.upd, h13, h14]), hW, Below.refl _ _, rfl⟩
                  · intro o ho x w' hG hd
                    injection ho with ho
                    subst ho
                    have hW : Below W2.heap.size W2 w' := hG
                    have h15 : x 64 = Value.pointer (some ⟨gl, n, none⟩) := (hd 15 rfl)
                    dsimp only []
                    have hx := pw_cell_below hW HXn.out
                    go_wp2
                    exact ⟨_, (by simp [Reg.upd, h15]), hW, Below.refl _ _, rfl⟩
                  · intro o ho x w' hG hd
                    injection ho with ho
                    subst ho
                    have hW : Below W2.heap.size W2 w' := hG
                    have h0 : x 49 = Value.agg #[Value.int IntKind.u64 c, Value.int IntKind.u64 1, Value.int IntKind.u64 b, Value.int IntKind.u64 a, Value.bool bl] := (hd 0 rfl)
                    have h4 : x 53 = Value.int IntKind.u64 b := (hd 4 rfl)
                    have h8 : x 57 = Value.int IntKind.u64 c := (hd 8 rfl)
                    have h12 : x 61 = Value.int IntKind.u64 b := (hd 12 rfl)
                    have h16 : x 65 = Value.int IntKind.u64 c := (hd 16 rfl)
                    dsimp only []
                    go_wp2_with (go_at_call 3; have HS := tells_lit bl b c 1 b c w' FC.out FB.out FA.out FB.out FC.out; (with_reducible refine HS.mono ?_); clear HS; rintro e1 w1 ⟨rfl, hb⟩)
                    exact ⟨_, (by simp [Reg.upd, h0, h4, h8, h12, h16]), below_step hW hb, hb, rfl⟩
                  · intro o ho x w' hG hd
                    injection ho with ho
                    subst ho
                    have hW : Below W2.heap.size W2 w' := hG
                    have h17 : x 66 = Value.bool true := (hd 17 rfl)
                    dsimp only []
                    go_wp2
                    exact ⟨_, (by simp [Reg.upd, h17]), hW, Below.refl _ _, rfl⟩
                  · intro o ho x w' hG hd
                    injection ho with ho
                    subst ho
                    have hW : Below W2.heap.size W2 w' := hG
                    have h18 : x 67 = Value.bool false := (hd 18 rfl)
                    dsimp only []
                    go_wp2
                    exact ⟨_, (by simp [Reg.upd, h18]), hW, Below.refl _ _, rfl⟩
                  · intro o ho x w' hG hd
                    injection ho with ho
                    subst ho
                    have hW : Below W2.heap.size W2 w' := hG
                    have h19 : x 68 = Value.bool false := (hd 19 rfl)
                    dsimp only []
                    have hX := blk_below HX6.out hW
                    have hz0 : w'.cell? ⟨g6, 0, none⟩ = some (Value.int IntKind.u64 c) := (blk_cell hX 0).trans rfl
                    have hz1 : w'.cell? ⟨g6, 1, none⟩ = some (Value.int IntKind.u64 1) := (blk_cell hX 1).trans rfl
                    have hz2 : w'.cell? ⟨g6, 2, none⟩ = some (Value.int IntKind.u64 b) := (blk_cell hX 2).trans rfl
                    have hz3 : w'.cell? ⟨g6, 3, none⟩ = some (Value.int IntKind.u64 a) := (blk_cell hX 3).trans rfl
                    have hz4 : w'.cell? ⟨g6, 4, none⟩ = some (Value.bool bl) := (blk_cell hX 4).trans rfl
                    clear hX
                    go_wp2
                    exact ⟨_, (by simp [Reg.upd, h19]), hW, Below.refl _ _, rfl⟩
                  · intro o ho x w' hG hd
                    injection ho with ho
                    subst ho
                    have hW : Below W2.heap.size W2 w' := hG
                    have h19 : x 68 = Value.bool false := (hd 19 rfl)
                    dsimp only []
                    go_wp2
                    exact ⟨_, (by simp [Reg.upd, h19]), hW, Below.refl _ _, rfl⟩
                  · intro o ho x w' hG hd
                    injection ho with ho
                    subst ho
                    have hW : Below W2.heap.size W2 w' := hG
                    have h19 : x 68 = Value.bool false := (hd 19 rfl)
                    dsimp only []
                    go_wp2
                    exact ⟨_, (by simp [Reg.upd, h19]), hW, Below.refl _ _, rfl⟩
                  · intro o ho x w' hG hd
                    injection ho with ho
                    subst ho
                    have hW : Below W2.heap.size W2 w' := hG
                    have h21 : x 70 = Value.slice (some ⟨gl, 0, none⟩) 8 8 := (hd 21 rfl)
                    have h22 : x 71 = Value.int IntKind.i64 (n : Int) := (hd 22 rfl)
                    have h19 : x 68 = Value.bool false := (hd 19 rfl)
                    dsimp only []
                    go_wp2
                    exact ⟨_, (by simp [Reg.upd, h21, h22, h19]), hW, Below.refl _ _, rfl⟩
                  · intro o ho x w' hG hd
                    injection ho with ho
                    subst ho
                    have hW : Below W2.heap.size W2 w' := hG
                    have h23 : x 72 = Value.pointer (some ⟨gl, n, none⟩) := (hd 23 rfl)
                    have h19 : x 68 = Value.bool false := (hd 19 rfl)
                    dsimp only []
                    have hx := pw_cell_below hW HXn.out
                    go_wp2
                    exact ⟨_, (by simp [Reg.upd, h23, h19]), hW, Below.refl _ _, rfl⟩
                  · intro o ho x w' hG hd
                    injection ho with ho
                    subst ho
                    have hW : Below W2.heap.size W2 w' := hG
                    have h19 : x 68 = Value.bool false := (hd 19 rfl)
                    dsimp only []
                    go_wp2
                    exact ⟨_, (by simp [Reg.upd, h19]), hW, Below.refl _ _, rfl⟩
                  · intro o ho x w' hG hd
                    injection ho with ho
                    subst ho
                    have hW : Below W2.heap.size W2 w' := hG
                    have h19 : x 68 = Value.bool false := (hd 19 rfl)
                    dsimp only []
                    go_wp2
                    exact ⟨_, (by simp [Reg.upd, h19]), hW, Below.refl _ _, rfl⟩
                  · intro o ho x w' hG hd
                    injection ho with ho
                    subst ho
                    have hW : Below W2.heap.size W2 w' := hG
                    have h25 : x 74 = Value.slice (some ⟨gl, 0, none⟩) 8 8 := (hd 25 rfl)
                    have h26 : x 75 = Value.int IntKind.i64 (k : Int) := (hd 26 rfl)
                    have h19 : x 68 = Value.bool false := (hd 19 rfl)
                    dsimp only []
                    go_wp2
                    exact ⟨_, (by simp [Reg.upd, h25, h26, h19]), hW, Below.refl _ _, rfl⟩
                  · intro o ho x w' hG hd
                    injection ho with ho
                    subst ho
                    have hW : Below W2.heap.size W2 w' := hG
                    have h27 : x 76 = Value.pointer (some ⟨gl, k, none⟩) := (hd 27 rfl)
                    have h19 : x 68 = Value.bool false := (hd 19 rfl)
                    dsimp only []
                    have hx := pw_cell_below hW HXk.out
                    go_wp2
                    exact ⟨_, (by simp [Reg.upd, h27, h19]), hW, Below.refl _ _, rfl⟩
                  · intro o ho x w' hG hd
                    injection ho with ho
                    subst ho
                    have hW : Below W2.heap.size W2 w' := hG
                    have h19 : x 68 = Value.bool false := (hd 19 rfl)
                    dsimp only []
                    go_wp2
                    exact ⟨_, (by simp [Reg.upd, h19]), hW, Below.refl _ _, rfl⟩
                  · intro o ho x w' hG hd
                    injection ho with ho
                    subst ho
                    have hW : Below W2.heap.size W2 w' := hG
                    have h19 : x 68 = Value.bool false := (hd 19 rfl)
                    dsimp only []
                    go_wp2
                    exact ⟨_, (by simp [Reg.upd, h19]), hW, Below.refl _ _, rfl⟩
                  · intro o ho x w' hG hd
                    injection ho with ho
                    subst ho
                    have hW : Below W2.heap.size W2 w' := hG
                    have h29 : x 78 = Value.slice (some ⟨gl, 0, none⟩) 8 8 := (hd 29 rfl)
                    have h30 : x 79 = Value.int IntKind.i64 (n : Int) := (hd 30 rfl)
                    have h19 : x 68 = Value.bool false := (hd 19 rfl)
                    dsimp only []
                    go_wp2
                    exact ⟨_, (by simp [Reg.upd, h29, h30, h19]), hW, Below.refl _ _, rfl⟩
                  · intro o ho x w' hG hd
                    injection ho with ho
                    subst ho
                    have hW : Below W2.heap.size W2 w' := hG
                    have h31 : x 80 = Value.pointer (some ⟨gl, n, none⟩) := (hd 31 rfl)
                    have h19 : x 68 = Value.bool false := (hd 19 rfl)
                    dsimp only []
                    have hx := pw_cell_below hW HXn.out
                    go_wp2
                    exact ⟨_, (by simp [Reg.upd, h31, h19]), hW, Below.refl _ _, rfl⟩
                  · intro o ho x w' hG hd
                    injection ho with ho
                    subst ho
                    have hW : Below W2.heap.size W2 w' := hG
                    have h20 : x 69 = Value.agg #[Value.int IntKind.u64 c, Value.int IntKind.u64 1, Value.int IntKind.u64 b, Value.int IntKind.u64 a, Value.bool bl] := (hd 20 rfl)
                    have h24 : x 73 = Value.int IntKind.u64 c := (hd 24 rfl)
                    have h28 : x 77 = Value.int IntKind.u64 b := (hd 28 rfl)
                    have h32 : x 81 = Value.int IntKind.u64 c := (hd 32 rfl)
                    have h19 : x 68 = Value.bool false := (hd 19 rfl)
                    dsimp only []
                    go_wp2_with (go_at_call 3; have HS := tells_lit bl c b 1 2 c w' FC.out FB.out FA.out FC.out FB.out; (with_reducible refine HS.mono ?_); clear HS; rintro e1 w1 ⟨rfl, hb⟩)
                    exact ⟨_, (by simp [Reg.upd, h20, h24, h28, h32, h19]), below_step hW hb, hb, rfl⟩
                  · intro o ho x w' hG hd
                    injection ho with ho
                    subst ho
                    have hW : Below W2.heap.size W2 w' := hG
                    have h33 : x 82 = Value.bool true := (hd 33 rfl)
                    have h19 : x 68 = Value.bool false := (hd 19 rfl)
                    dsimp only []
                    go_wp2
                    exact ⟨_, (by simp [Reg.upd, h33, h19]), hW, Below.refl _ _, rfl⟩
                  · intro o ho x w' hG hd
                    injection ho with ho
                    subst ho
                    have hW : Below W2.heap.size W2 w' := hG
                    have h19 : x 68 = Value.bool false := (hd 19 rfl)
                    have h34 : x 83 = Value.bool false := (hd 34 rfl)
                    dsimp only []
                    go_wp2
                    exact ⟨_, (by simp [Reg.upd, h19, h34]), hW, Below.refl _ _, rfl⟩
                  · intro o ho x w' hG hd
                    injection ho with ho
                    subst ho
                    have hW : Below W2.heap.size W2 w' := hG
                    have h35 : x 84 = Value.bool false := (hd 35 rfl)
                    dsimp only []
                    go_wp2
                    exact ⟨_, (by simp [Reg.upd, h35]), hW, Below.refl _ _, rfl⟩
                  · intro o ho x w' hG hd
                    injection ho with ho
                    subst ho
                    have hW : Below W2.heap.size W2 w' := hG
                    have h36 : x 85 = Value.bool false := (hd 36 rfl)
                    dsimp only []
                    have hX := blk_below HX6.out hW
                    have hz0 : w'.cell? ⟨g6, 0, none⟩ = some (Value.int IntKind.u64 c) := (blk_cell hX 0).trans rfl
                    have hz1 : w'.cell? ⟨g6, 1, none⟩ = some (Value.int IntKind.u64 1) := (blk_cell hX 1).trans rfl
                    have hz2 : w'.cell? ⟨g6, 2, none⟩ = some (Value.int IntKind.u64 b) := (blk_cell hX 2).trans rfl
                    have hz3 : w'.cell? ⟨g6, 3, none⟩ = some (Value.int IntKind.u64 a) := (blk_cell hX 3).trans rfl
                    have hz4 : w'.cell? ⟨g6, 4, none⟩ = some (Value.bool bl) := (blk_cell hX 4).trans rfl
                    clear hX
                    go_wp2
                    exact ⟨_, (by simp [Reg.upd, h36]), hW, Below.refl _ _, rfl⟩
                  · intro o ho x w' hG hd
                    injection ho with ho
                    subst ho
                    have hW : Below W2.heap.size W2 w' := hG
                    have h36 : x 85 = Value.bool false := (hd 36 rfl)
                    dsimp only []
                    go_wp2
                    exact ⟨_, (by simp [Reg.upd, h36]), hW, Below.refl _ _, rfl⟩
                  · intro o ho x w' hG hd
                    injection ho with ho
                    subst ho
                    have hW : Below W2.heap.size W2 w' := hG
                    have h36 : x 85 = Value.bool false := (hd 36 rfl)
                    dsimp only []
                    go_wp2
                    exact ⟨_, (by simp [Reg.upd, h36]), hW, Below.refl _ _, rfl⟩
                  · intro o ho x w' hG hd
                    injection ho with ho
                    subst ho
                    have hW : Below W2.heap.size W2 w' := hG
                    have h38 : x 87 = Value.slice (some ⟨gl, 0, none⟩) 8 8 := (hd 38 rfl)
                    have h39 : x 88 = Value.int IntKind.i64 (k : Int) := (hd 39 rfl)
                    have h36 : x 85 = Value.bool false := (hd 36 rfl)
                    dsimp only []
                    go_wp2
                    exact ⟨_, (by simp [Reg.upd, h38, h39, h36]), hW, Below.refl _ _, rfl⟩
                  · intro o ho x w' hG hd
                    injection ho with ho
                    subst ho
                    have hW : Below W2.heap.size W2 w' := hG
                    have h40 : x 89 = Value.pointer (some ⟨gl, k, none⟩) := (hd 40 rfl)
                    have h36 : x 85 = Value.bool false := (hd 36 rfl)
                    dsimp only []
                    have hx := pw_cell_below hW HXk.out
                    go_wp2
                    exact ⟨_, (by simp [Reg.upd, h40, h36]), hW, Below.refl _ _, rfl⟩
                  · intro o ho x w' hG hd
                    injection ho with ho
                    subst ho
                    have hW : Below W2.heap.size W2 w' := hG
                    have h36 : x 85 = Value.bool false := (hd 36 rfl)
                    dsimp only []
                    go_wp2
                    exact ⟨_, (by simp [Reg.upd, h36]), hW, Below.refl _ _, rfl⟩
                  · intro o ho x w' hG hd
                    injection ho with ho
                    subst ho
                    have hW : Below W2.heap.size W2 w' := hG
                    have h36 : x 85 = Value.bool false := (hd 36 rfl)
                    dsimp only []
                    go_wp2
                    exact ⟨_, (by simp [Reg.upd, h36]), hW, Below.refl _ _, rfl⟩
                  · intro o ho x w' hG hd
                    injection ho with ho
                    subst ho
                    have hW : Below W2.heap.size W2 w' := hG
                    have h42 : x 91 = Value.slice (some ⟨gl, 0, none⟩) 8 8 := (hd 42 rfl)
                    have h43 : x 92 = Value.int IntKind.i64 (n : Int) := (hd 43 rfl)
                    have h36 : x 85 = Value.bool false := (hd 36 rfl)
                    dsimp only []
                    go_wp2
                    exact ⟨_, (by simp [Reg.upd, h42, h43, h36]), hW, Below.refl _ _, rfl⟩
                  · intro o ho x w' hG hd
                    injection ho with ho
                    subst ho
                    have hW : Below W2.heap.size W2 w' := hG
                    have h44 : x 93 = Value.pointer (some ⟨gl, n, none⟩) := (hd 44 rfl)
                    have h36 : x 85 = Value.bool false := (hd 36 rfl)
                    dsimp only []
                    have hx := pw_cell_below hW HXn.out
                    go_wp2
                    exact ⟨_, (by simp [Reg.upd, h44, h36]), hW, Below.refl _ _, rfl⟩
                  · intro o ho x w' hG hd
                    injection ho with ho
                    subst ho
                    have hW : Below W2.heap.size W2 w' := hG
                    have h36 : x 85 = Value.bool false := (hd 36 rfl)
                    dsimp only []
                    go_wp2
                    exact ⟨_, (by simp [Reg.upd, h36]), hW, Below.refl _ _, rfl⟩
                  · intro o ho x w' hG hd
                    injection ho with ho
                    subst ho
                    have hW : Below W2.heap.size W2 w' := hG
                    have h36 : x 85 = Value.bool false := (hd 36 rfl)
                    dsimp only []
                    go_wp2
                    exact ⟨_, (by simp [Reg.upd, h36]), hW, Below.refl _ _, rfl⟩
                  · intro o ho x w' hG hd
                    injection ho with ho
                    subst ho
                    have hW : Below W2.heap.size W2 w' := hG
                    have h46 : x 95 = Value.slice (some ⟨gl, 0, none⟩) 8 8 := (hd 46 rfl)
                    have h47 : x 96 = Value.int IntKind.i64 (k : Int) := (hd 47 rfl)
                    have h36 : x 85 = Value.bool false := (hd 36 rfl)
                    dsimp only []
                    go_wp2
                    exact ⟨_, (by simp [Reg.upd, h46, h47, h36]), hW, Below.refl _ _, rfl⟩
                  · intro o ho x w' hG hd
                    injection ho with ho
                    subst ho
                    have hW : Below W2.heap.size W2 w' := hG
                    have h48 : x 97 = Value.pointer (some ⟨gl, k, none⟩) := (hd 48 rfl)
                    have h36 : x 85 = Value.bool false := (hd 36 rfl)
                    dsimp only []
                    have hx := pw_cell_below hW HXk.out
                    go_wp2
                    exact ⟨_, (by simp [Reg.upd, h48, h36]), hW, Below.refl _ _, rfl⟩
                  · intro o ho x w' hG hd
                    injection ho with ho
                    subst ho
                    have hW : Below W2.heap.size W2 w' := hG
                    have h36 : x 85 = Value.bool false := (hd 36 rfl)
                    dsimp only []
                    have hX := blk_below HX6.out hW
                    have hz0 : w'.cell? ⟨g6, 0, none⟩ = some (Value.int IntKind.u64 c) := (blk_cell hX 0).trans rfl
                    have hz1 : w'.cell? ⟨g6, 1, none⟩ = some (Value.int IntKind.u64 1) := (blk_cell hX 1).trans rfl
                    have hz2 : w'.cell? ⟨g6, 2, none⟩ = some (Value.int IntKind.u64 b) := (blk_cell hX 2).trans rfl
                    have hz3 : w'.cell? ⟨g6, 3, none⟩ = some (Value.int IntKind.u64 a) := (blk_cell hX 3).trans rfl
                    have hz4 : w'.cell? ⟨g6, 4, none⟩ = some (Value.bool bl) := (blk_cell hX 4).trans rfl
                    clear hX
                    go_wp2
                    exact ⟨_, (by simp [Reg.upd, h36]), hW, Below.refl _ _, rfl⟩
                  · intro o ho x w' hG hd
                    injection ho with ho
                    subst ho
                    have hW : Below W2.heap.size W2 w' := hG
                    have h36 : x 85 = Value.bool false := (hd 36 rfl)
                    dsimp only []
                    go_wp2
                    exact ⟨_, (by simp [Reg.upd, h36]), hW, Below.refl _ _, rfl⟩
                  · intro o ho x w' hG hd
                    injection ho with ho
                    subst ho
                    have hW : Below W2.heap.size W2 w' := hG
                    have h36 : x 85 = Value.bool false := (hd 36 rfl)
                    dsimp only []
                    go_wp2
                    exact ⟨_, (by simp [Reg.upd, h36]), hW, Below.refl _ _, rfl⟩
                  · intro o ho x w' hG hd
                    injection ho with ho
                    subst ho
                    have hW : Below W2.heap.size W2 w' := hG
                    have h51 : x 100 = Value.slice (some ⟨gl, 0, none⟩) 8 8 := (hd 51 rfl)
                    have h52 : x 101 = Value.int IntKind.i64 (k : Int) := (hd 52 rfl)
                    have h36 : x 85 = Value.bool false := (hd 36 rfl)
                    dsimp only []
                    go_wp2
                    exact ⟨_, (by simp [Reg.upd, h51, h52, h36]), hW, Below.refl _ _, rfl⟩
                  · intro o ho x w' hG hd
                    injection ho with ho
                    subst ho
                    have hW : Below W2.heap.size W2 w' := hG
                    have h53 : x 102 = Value.pointer (some ⟨gl, k, none⟩) := (hd 53 rfl)
                    have h36 : x 85 = Value.bool false := (hd 36 rfl)
                    dsimp only []
                    have hx := pw_cell_below hW HXk.out
                    go_wp2
                    exact ⟨_, (by simp [Reg.upd, h53, h36]), hW, Below.refl _ _, rfl⟩
                  · intro o ho x w' hG hd
                    injection ho with ho
                    subst ho
                    have hW : Below W2.heap.size W2 w' := hG
                    have h54 : x 103 = Value.int IntKind.u64 b := (hd 54 rfl)
                    have h36 : x 85 = Value.bool false := (hd 36 rfl)
                    dsimp only []
                    have huS := Try.underlying24
                    go_wp2
                    exact ⟨_, (by simp [Reg.upd, h54, h36]), hW, Below.refl _ _, rfl⟩
                  · intro o ho x w' hG hd
                    injection ho with ho
                    subst ho
                    have hW : Below W2.heap.size W2 w' := hG
                    have h36 : x 85 = Value.bool false := (hd 36 rfl)
                    dsimp only []
                    go_wp2
                    exact ⟨_, (by simp [Reg.upd, h36]), hW, Below.refl _ _, rfl⟩
                  · intro o ho x w' hG hd
                    injection ho with ho
                    subst ho
                    have hW : Below W2.heap.size W2 w' := hG
                    have h36 : x 85 = Value.bool false := (hd 36 rfl)
                    dsimp only []
                    go_wp2
                    exact ⟨_, (by simp [Reg.upd, h36]), hW, Below.refl _ _, rfl⟩
                  · intro o ho x w' hG hd
                    injection ho with ho
                    subst ho
                    have hW : Below W2.heap.size W2 w' := hG
                    have h56 : x 105 = Value.slice (some ⟨gl, 0, none⟩) 8 8 := (hd 56 rfl)
                    have h57 : x 106 = Value.int IntKind.i64 (n : Int) := (hd 57 rfl)
                    have h36 : x 85 = Value.bool false := (hd 36 rfl)
                    dsimp only []
                    go_wp2
                    exact ⟨_, (by simp [Reg.upd, h56, h57, h36]), hW, Below.refl _ _, rfl⟩
                  · intro o ho x w' hG hd
                    injection ho with ho
                    subst ho
                    have hW : Below W2.heap.size W2 w' := hG
                    have h58 : x 107 = Value.pointer (some ⟨gl, n, none⟩) := (hd 58 rfl)
                    have h36 : x 85 = Value.bool false := (hd 36 rfl)
                    dsimp only []
                    have hx := pw_cell_below hW HXn.out
                    go_wp2
                    exact ⟨_, (by simp [Reg.upd, h58, h36]), hW, Below.refl _ _, rfl⟩
                  · intro o ho x w' hG hd
                    injection ho with ho
                    subst ho
                    have hW : Below W2.heap.size W2 w' := hG
                    have h59 : x 108 = Value.int IntKind.u64 c := (hd 59 rfl)
                    have h36 : x 85 = Value.bool false := (hd 36 rfl)
                    dsimp only []
                    have huS := Try.underlying24
                    go_wp2
                    exact ⟨_, (by simp [Reg.upd, h59, h36]), hW, Below.refl _ _, rfl⟩
                  · intro o ho x w' hG hd
                    injection ho with ho
                    subst ho
                    have hW : Below W2.heap.size W2 w' := hG
                    have h50 : x 99 = Value.agg #[Value.int IntKind.u64 c, Value.int IntKind.u64 1, Value.int IntKind.u64 b, Value.int IntKind.u64 a, Value.bool bl] := (hd 50 rfl)
                    have h55 : x 104 = Value.agg #[Value.int IntKind.u64 b, Value.int IntKind.u64 0, Value.int IntKind.u64 0, Value.int IntKind.u64 0, Value.bool false] := (hd 55 rfl)
                    have h60 : x 109 = Value.agg #[Value.int IntKind.u64 c, Value.int IntKind.u64 9, Value.int IntKind.u64 0, Value.int IntKind.u64 0, Value.bool false] := (hd 60 rfl)
                    have h36 : x 85 = Value.bool false := (hd 36 rfl)
                    dsimp only []
                    go_wp2_with ((with_reducible refine gate_dst (N := 110) rfl ?_); refine lit_event_g (N := 110) rfl (by go_simp) _ _ _ (build_runN 50 24 3 #[Value.int .u64 c, .int .u64 1, .int .u64 b, .int .u64 a, .bool bl, .int .u64 b, .int .u64 0, .int .u64 0, .int .u64 0, .bool false, .int .u64 c, .int .u64 9, .int .u64 0, .int .u64 0, .bool false] kinfo24 Try.underlying50 _ rfl (by omega) (by omega) _ (fillL3 _ _ _ _ _ _ _ _ _ _ _ _ _ _ _) (by go_simp)) ?_; intro g _ w1 hbox hb)
                    exact ⟨_, (by simp [Reg.upd, h50, h55, h60, h36]), below_step hW hb, hb, g, rfl, C_leases3 _ _ _ hbox rfl⟩
                  · intro o ho x w' hG hd
                    injection ho with ho
                    subst ho
                    have hW : Below W2.heap.size W2 w' := hG
                    have h37 : x 86 = Value.agg #[Value.int IntKind.u64 c, Value.int IntKind.u64 1, Value.int IntKind.u64 b, Value.int IntKind.u64 a, Value.bool bl] := (hd 37 rfl)
                    have h41 : x 90 = Value.int IntKind.u64 b := (hd 41 rfl)
                    have h45 : x 94 = Value.int IntKind.u64 c := (hd 45 rfl)
                    have h49 : x 98 = Value.int IntKind.u64 b := (hd 49 rfl)
                    have h61 : ∃ g : Nat, x 110 = Value.slice (some ⟨g, 0, none⟩) 3 3 ∧ Kd.C k24 w' (some ⟨g, 0, none⟩) [(⟨c, 1, b, a, bl⟩ : S24), ⟨b, 0, 0, 0, false⟩, ⟨c, 9, 0, 0, false⟩].length [(⟨c, 1, b, a, bl⟩ : S24), ⟨b, 0, 0, 0, false⟩, ⟨c, 9, 0, 0, false⟩] := (hd 61 rfl)
                    obtain ⟨g61, h61, hC61⟩ := h61
                    have h36 : x 85 = Value.bool false := (hd 36 rfl)
                    dsimp only []
                    go_wp2_with (go_at_call 6; have HS := changes_lit bl b c b w' FC.out FB.out FA.out hC61; (with_reducible refine HS.mono ?_); clear HS; rintro e1 w1 ⟨rfl, hb⟩)
                    exact ⟨_, (by simp [Reg.upd, h37, h41, h45, h49, h61, h36]), below_step hW hb, hb, rfl⟩
                  · intro o ho x w' hG hd
                    injection ho with ho
                    subst ho
                    have hW : Below W2.heap.size W2 w' := hG
                    have h62 : x 111 = Value.bool true := (hd 62 rfl)
                    have h36 : x 85 = Value.bool false := (hd 36 rfl)
                    dsimp only []
                    go_wp2
                    exact ⟨_, (by simp [Reg.upd, h62, h36]), hW, Below.refl _ _, rfl⟩
                  · intro o ho x w' hG hd
                    injection ho with ho
                    subst ho
                    have hW : Below W2.heap.size W2 w' := hG
                    have h36 : x 85 = Value.bool false := (hd 36 rfl)
                    have h63 : x 112 = Value.bool false := (hd 63 rfl)
                    dsimp only []
                    go_wp2
                    exact ⟨_, (by simp [Reg.upd, h36, h63]), hW, Below.refl _ _, rfl⟩
                  · intro o ho x w' hG hd
                    injection ho with ho
                    subst ho
                    have hW : Below W2.heap.size W2 w' := hG
                    have h64 : x 113 = Value.bool false := (hd 64 rfl)
                    dsimp only []
                    go_wp2
                    exact ⟨_, (by simp [Reg.upd, h64]), hW, Below.refl _ _, rfl⟩
                  · intro o ho x w' hG hd
                    injection ho with ho
                    subst ho
                    have hW : Below W2.heap.size W2 w' := hG
                    have h65 : x 114 = Value.bool false := (hd 65 rfl)
                    dsimp only []
                    have hX := blk_below HX6.out hW
                    have hz0 : w'.cell? ⟨g6, 0, none⟩ = some (Value.int IntKind.u64 c) := (blk_cell hX 0).trans rfl
                    have hz1 : w'.cell? ⟨g6, 1, none⟩ = some (Value.int IntKind.u64 1) := (blk_cell hX 1).trans rfl
                    have hz2 : w'.cell? ⟨g6, 2, none⟩ = some (Value.int IntKind.u64 b) := (blk_cell hX 2).trans rfl
                    have hz3 : w'.cell? ⟨g6, 3, none⟩ = some (Value.int IntKind.u64 a) := (blk_cell hX 3).trans rfl
                    have hz4 : w'.cell? ⟨g6, 4, none⟩ = some (Value.bool bl) := (blk_cell hX 4).trans rfl
                    clear hX
                    go_wp2
                    exact ⟨_, (by simp [Reg.upd, h65]), hW, Below.refl _ _, rfl⟩
                  · intro o ho x w' hG hd
                    injection ho with ho
                    subst ho
                    have hW : Below W2.heap.size W2 w' := hG
                    have h65 : x 114 = Value.bool false := (hd 65 rfl)
                    dsimp only []
                    go_wp2
                    exact ⟨_, (by simp [Reg.upd, h65]), hW, Below.refl _ _, rfl⟩
                  · intro o ho x w' hG hd
                    injection ho with ho
                    subst ho
                    have hW : Below W2.heap.size W2 w' := hG
                    have h65 : x 114 = Value.bool false := (hd 65 rfl)
                    dsimp only []
                    go_wp2
                    exact ⟨_, (by simp [Reg.upd, h65]), hW, Below.refl _ _, rfl⟩
                  · intro o ho x w' hG hd
                    injection ho with ho
                    subst ho
                    have hW : Below W2.heap.size W2 w' := hG
                    have h67 : x 116 = Value.slice (some ⟨gl, 0, none⟩) 8 8 := (hd 67 rfl)
                    have h68 : x 117 = Value.int IntKind.i64 (k : Int) := (hd 68 rfl)
                    have h65 : x 114 = Value.bool false := (hd 65 rfl)
                    dsimp only []
                    go_wp2
                    exact ⟨_, (by simp [Reg.upd, h67, h68, h65]), hW, Below.refl _ _, rfl⟩
                  · intro o ho x w' hG hd
                    injection ho with ho
                    subst ho
                    have hW : Below W2.heap.size W2 w' := hG
                    have h69 : x 118 = Value.pointer (some ⟨gl, k, none⟩) := (hd 69 rfl)
                    have h65 : x 114 = Value.bool false := (hd 65 rfl)
                    dsimp only []
                    have hx := pw_cell_below hW HXk.out
                    go_wp2
                    exact ⟨_, (by simp [Reg.upd, h69, h65]), hW, Below.refl _ _, rfl⟩
                  · intro o ho x w' hG hd
                    injection ho with ho
                    subst ho
                    have hW : Below W2.heap.size W2 w' := hG
                    have h65 : x 114 = Value.bool false := (hd 65 rfl)
                    dsimp only []
                    go_wp2
                    exact ⟨_, (by simp [Reg.upd, h65]), hW, Below.refl _ _, rfl⟩
                  · intro o ho x w' hG hd
                    injection ho with ho
                    subst ho
                    have hW : Below W2.heap.size W2 w' := hG
                    have h65 : x 114 = Value.bool false := (hd 65 rfl)
                    dsimp only []
                    go_wp2
                    exact ⟨_, (by simp [Reg.upd, h65]), hW, Below.refl _ _, rfl⟩
                  · intro o ho x w' hG hd
                    injection ho with ho
                    subst ho
                    have hW : Below W2.heap.size W2 w' := hG
                    have h71 : x 120 = Value.slice (some ⟨gl, 0, none⟩) 8 8 := (hd 71 rfl)
                    have h72 : x 121 = Value.int IntKind.i64 (n : Int) := (hd 72 rfl)
                    have h65 : x 114 = Value.bool false := (hd 65 rfl)
                    dsimp only []
                    go_wp2
                    exact ⟨_, (by simp [Reg.upd, h71, h72, h65]), hW, Below.refl _ _, rfl⟩
                  · intro o ho x w' hG hd
                    injection ho with ho
                    subst ho
                    have hW : Below W2.heap.size W2 w' := hG
                    have h73 : x 122 = Value.pointer (some ⟨gl, n, none⟩) := (hd 73 rfl)
                    have h65 : x 114 = Value.bool false := (hd 65 rfl)
                    dsimp only []
                    have hx := pw_cell_below hW HXn.out
                    go_wp2
                    exact ⟨_, (by simp [Reg.upd, h73, h65]), hW, Below.refl _ _, rfl⟩
                  · intro o ho x w' hG hd
                    injection ho with ho
                    subst ho
                    have hW : Below W2.heap.size W2 w' := hG
                    have h65 : x 114 = Value.bool false := (hd 65 rfl)
                    dsimp only []
                    go_wp2
                    exact ⟨_, (by simp [Reg.upd, h65]), hW, Below.refl _ _, rfl⟩
                  · intro o ho x w' hG hd
                    injection ho with ho
                    subst ho
                    have hW : Below W2.heap.size W2 w' := hG
                    have h65 : x 114 = Value.bool false := (hd 65 rfl)
                    dsimp only []
                    go_wp2
                    exact ⟨_, (by simp [Reg.upd, h65]), hW, Below.refl _ _, rfl⟩
                  · intro o ho x w' hG hd
                    injection ho with ho
                    subst ho
                    have hW : Below W2.heap.size W2 w' := hG
                    have h65 : x 114 = Value.bool false := (hd 65 rfl)
                    dsimp only []
                    go_wp2
                    exact ⟨_, (by simp [Reg.upd, h65]), hW, Below.refl _ _, rfl⟩
                  · intro o ho x w' hG hd
                    injection ho with ho
                    subst ho
                    have hW : Below W2.heap.size W2 w' := hG
                    have h76 : x 125 = Value.int IntKind.i64 (k : Int) := (hd 76 rfl)
                    have h77 : x 126 = Value.int IntKind.i64 (n : Int) := (hd 77 rfl)
                    have h65 : x 114 = Value.bool false := (hd 65 rfl)
                    dsimp only []
                    go_wp2
                    exact ⟨_, (by simp [Reg.upd, h76, h77, h65]), hW, Below.refl _ _, rfl⟩
                  · intro o ho x w' hG hd
                    injection ho with ho
                    subst ho
                    have hW : Below W2.heap.size W2 w' := hG
                    have h78 : x 127 = Value.int IntKind.i64 ((k : Int) + (n : Int)) := (hd 78 rfl)
                    have h65 : x 114 = Value.bool false := (hd 65 rfl)
                    dsimp only []
                    have hm := HM.out
                    go_wp2
                    exact ⟨_, (by simp [Reg.upd, h78, h65]), hW, Below.refl _ _, rfl⟩
                  · intro o ho x w' hG hd
                    injection ho with ho
                    subst ho
                    have hW : Below W2.heap.size W2 w' := hG
                    have h75 : x 124 = Value.slice (some ⟨gl, 0, none⟩) 8 8 := (hd 75 rfl)
                    have h79 : x 128 = Value.int IntKind.i64 (m : Int) := (hd 79 rfl)
                    have h65 : x 114 = Value.bool false := (hd 65 rfl)
                    dsimp only []
                    have pm : (m : Int) < 8 := by have := HM8.out; omega
                    go_wp2
                    exact ⟨_, (by simp [Reg.upd, h75, h79, h65]), hW, Below.refl _ _, rfl⟩
                  · intro o ho x w' hG hd
                    injection ho with ho
                    subst ho
                    have hW : Below W2.heap.size W2 w' := hG
                    have h80 : x 129 = Value.pointer (some ⟨gl, m, none⟩) := (hd 80 rfl)
                    have h65 : x 114 = Value.bool false := (hd 65 rfl)
                    dsimp only []
                    have hx := pw_cell_below hW HXm.out
                    go_wp2
                    exact ⟨_, (by simp [Reg.upd, h80, h65]), hW, Below.refl _ _, rfl⟩
                  · intro o ho x w' hG hd
                    injection ho with ho
                    subst ho
                    have hW : Below W2.heap.size W2 w' := hG
                    have h66 : x 115 = Value.agg #[Value.int IntKind.u64 c, Value.int IntKind.u64 1, Value.int IntKind.u64 b, Value.int IntKind.u64 a, Value.bool bl] := (hd 66 rfl)
                    have h70 : x 119 = Value.int IntKind.u64 b := (hd 70 rfl)
                    have h74 : x 123 = Value.int IntKind.u64 c := (hd 74 rfl)
                    have h81 : x 130 = Value.int IntKind.u64 d := (hd 81 rfl)
                    have h65 : x 114 = Value.bool false := (hd 65 rfl)
                    dsimp only []
                    go_wp2_with (go_at_call 4; have HS := clocks_lit bl b c d w' FC.out FB.out FA.out FB.out FC.out FD.out; (with_reducible refine HS.mono ?_); clear HS; rintro e1 w1 ⟨rfl, hb⟩)
                    exact ⟨_, (by simp [Reg.upd, h66, h70, h74, h81, h65]), below_step hW hb, hb, rfl⟩
                  · intro o ho x w' hG hd
                    injection ho with ho
                    subst ho
                    have hW : Below W2.heap.size W2 w' := hG
                    have h82 : x 131 = Value.bool true := (hd 82 rfl)
                    have h65 : x 114 = Value.bool false := (hd 65 rfl)
                    dsimp only []
                    go_wp2
                    exact ⟨_, (by simp [Reg.upd, h82, h65]), hW, Below.refl _ _, rfl⟩
                  · intro o ho x w' hG hd
                    injection ho with ho
                    subst ho
                    have hW : Below W2.heap.size W2 w' := hG
                    have h65 : x 114 = Value.bool false := (hd 65 rfl)
                    have h83 : x 132 = Value.bool false := (hd 83 rfl)
                    dsimp only []
                    go_wp2
                    exact ⟨_, (by simp [Reg.upd, h65, h83]), hW, Below.refl _ _, rfl⟩
                case fin =>
                  intro z W3 hG hF
                  have h133 : z 133 = Value.bool false := hF 84 (by decide)
                  have hW3 : Below W2.heap.size W2 W3 := hG
                  have HB3 := Aside0.mk (below_step HB2.out hW3)
                  have HXi := Aside0.mk (pw_cell_below hW3 HXi.out)
                  have HXk := Aside0.mk (pw_cell_below hW3 HXk.out)
                  have HXn := Aside0.mk (pw_cell_below hW3 HXn.out)
                  have HL3 := Aside0.mk (HL2.out.below hW3)
                  have HX6 := Aside0.mk (blk_below HX6.out hW3)
                  clear hG hF hW3 HB2 HL2
                  dsimp only []
                  go_wp2
                  go_simp
                  go_wp2
                  refine Reg.region (fr := (fun x : Nat → Value => (⟨#[u0, Value.int IntKind.u64 18446744073709551615, Value.slice (some ⟨gl, 0, none⟩) 8 8, Value.int IntKind.i64 (i : Int), Value.int IntKind.i64 (k : Int), Value.int IntKind.i64 (n : Int), Value.pointer (some ⟨g6, 0, none⟩), Value.int IntKind.u64 18446744073709551615, Value.int IntKind.u64 18446744073709551614, Value.int IntKind.u64 18446744073709551615, Value.slice (some ⟨gl, 0, none⟩) 8 8, Value.int IntKind.i64 (i : Int), Value.slice (some ⟨gl, 0, none⟩) 8 8, Value.int IntKind.i64 8, Value.bool true, u15, u16, Value.int IntKind.i64 (k : Int), Value.slice (some ⟨gl, 0, none⟩) 8 8, Value.int IntKind.i64 8, Value.bool true, u21, u22, Value.int IntKind.i64 (n : Int), Value.slice (some ⟨gl, 0, none⟩) 8 8, Value.int IntKind.i64 8, Value.bool true, u27, u28, y 29, y 30, y 31, y 32, y 33, y 34, y 35, y 36, y 37, y 38, y 39, y 40, y 41, y 42, y 43, y 44, y 45, y 46, y 47, y 48, z 49, z 50, z 51, z 52, z 53, z 54, z 55, z 56, z 57, z 58, z 59, z 60, z 61, z 62, z 63, z 64, z 65, z 66, z 67, z 68, z 69, z 70, z 71, z 72, z 73, z 74, z 75, z 76, z 77, z 78, z 79, z 80, z 81, z 82, z 83, z 84, z 85, z 86, z 87, z 88, z 89, z 90, z 91, z 92, z 93, z 94, z 95, z 96, z 97, z 98, z 99, z 100, z 101, z 102, z 103, z 104, z 105, z 106, z 107, z 108, z 109, z 110, z 111, z 112, z 113, z 114, z 115, z 116, z 117, z 118, z 119, z 120, z 121, z 122, z 123, z 124, z 125, z 126, z 127, z 128, z 129, z 130, z 131, z 132, Value.bool false, x 134, x 135, x 136, x 137, x 138, x 139, x 140, x 141, x 142, x 143, x 144, x 145, x 146, x 147, x 148, x 149, x 150, x 151, x 152, x 153, x 154, x 155, x 156, x 157, x 158, x 159, x 160, x 161, x 162, x 163, undef, undef, undef, undef, undef, undef], []⟩ : Act))) (dst := fun i => 134 + i) (fun w' => Below W3.heap.size W3 w') (F15 gl g6 i k n m a b c d bl) (fun s_ => [u134, u135, u136, u137, u138, u139, u140, u141, u142, u143, u144, u145, u146, u147, u148, u149, u150, u151, u152, u153, u154, u155, u156, u157, u158, u159, u160, u161, u162, u163].getD (s_ - 134) undef) rfl (by kernel_rfl) (by kernel_rfl) ?inj ?stable ?inv ?step ?fin
                  case inj =>
                    intro i j hi hj h
                    have h' : 134 + i = 134 + j := h
                    omega
                  case stable => exact fun j v w1 w2 hb h => F15_stable j v w1 w2 hb h
                  case inv => exact below_drew1 (Below.refl _ _)
                  case step =>
                    intro i_ hi_
                    have hi2 : i_ < 30 := hi_
                    have hi3 : i_ = 0 ∨ i_ = 1 ∨ i_ = 2 ∨ i_ = 3 ∨ i_ = 4 ∨ i_ = 5 ∨ i_ = 6 ∨ i_ = 7 ∨ i_ = 8 ∨ i_ = 9 ∨ i_ = 10 ∨ i_ = 11 ∨ i_ = 12 ∨ i_ = 13 ∨ i_ = 14 ∨ i_ = 15 ∨ i_ = 16 ∨ i_ = 17 ∨ i_ = 18 ∨ i_ = 19 ∨ i_ = 20 ∨ i_ = 21 ∨ i_ = 22 ∨ i_ = 23 ∨ i_ = 24 ∨ i_ = 25 ∨ i_ = 26 ∨ i_ = 27 ∨ i_ = 28 ∨ i_ = 29 := by omega
                    clear hi_ hi2
                    rcases hi3 with rfl | rfl | rfl | rfl | rfl | rfl | rfl | rfl | rfl | rfl | rfl | rfl | rfl | rfl | rfl | rfl | rfl | rfl | rfl | rfl | rfl | rfl | rfl | rfl | rfl | rfl | rfl | rfl | rfl | rfl
                    · intro o ho x w' hG hd
                      injection ho with ho
                      subst ho
                      have hW : Below W3.heap.size W3 w' := hG
                      dsimp only []
                      have hX := blk_below HX6.out hW
                      have hz0 : w'.cell? ⟨g6, 0, none⟩ = some (Value.int IntKind.u64 c) := (blk_cell hX 0).trans rfl
                      have hz1 : w'.cell? ⟨g6, 1, none⟩ = some (Value.int IntKind.u64 1) := (blk_cell hX 1).trans rfl
                      have hz2 : w'.cell? ⟨g6, 2, none⟩ = some (Value.int IntKind.u64 b) := (blk_cell hX 2).trans rfl
                      have hz3 : w'.cell? ⟨g6, 3, none⟩ = some (Value.int IntKind.u64 a) := (blk_cell hX 3).trans rfl
                      have hz4 : w'.cell? ⟨g6, 4, none⟩ = some (Value.bool bl) := (blk_cell hX 4).trans rfl
                      clear hX
                      go_wp2
                      exact ⟨_, (by simp [Reg.upd]), hW, Below.refl _ _, rfl⟩
                    · intro o ho x w' hG hd
                      injection ho with ho
                      subst ho
                      have hW : Below W3.heap.size W3 w' := hG
                      dsimp only []
                      go_wp2
                      exact ⟨_, (by simp [Reg.upd]), hW, Below.refl _ _, rfl⟩
                    · intro o ho x w' hG hd
                      injection ho with ho
                      subst ho
                      have hW : Below W3.heap.size W3 w' := hG
                      dsimp only []
                      go_wp2
                      exact ⟨_, (by simp [Reg.upd]), hW, Below.refl _ _, rfl⟩
                    · intro o ho x w' hG hd
                      injection ho with ho
                      subst ho
                      have hW : Below W3.heap.size W3 w' := hG
                      dsimp only []
                      go_wp2
                      exact ⟨_, (by simp [Reg.upd]), hW, Below.refl _ _, rfl⟩
                    · intro o ho x w' hG hd
                      injection ho with ho
                      subst ho
                      have hW : Below W3.heap.size W3 w' := hG
                      have h2 : x 136 = Value.slice (some ⟨gl, 0, none⟩) 8 8 := (hd 2 rfl)
                      have h3 : x 137 = Value.int IntKind.i64 (k : Int) := (hd 3 rfl)
                      dsimp only []
                      go_wp2
                      exact ⟨_, (by simp [Reg.upd, h2, h3]), hW, Below.refl _ _, rfl⟩
                    · intro o ho x w' hG hd
                      injection ho with ho
                      subst ho
                      have hW : Below W3.heap.size W3 w' := hG
                      have h4 : x 138 = Value.pointer (some ⟨gl, k, none⟩) := (hd 4 rfl)
                      dsimp only []
                      have hx := pw_cell_below hW HXk.out
                      go_wp2
                      exact ⟨_, (by simp [Reg.upd, h4]), hW, Below.refl _ _, rfl⟩
                    · intro o ho x w' hG hd
                      injection ho with ho
                      subst ho
                      have hW : Below W3.heap.size W3 w' := hG
                      dsimp only []
                      go_wp2
                      exact ⟨_, (by simp [Reg.upd]), hW, Below.refl _ _, rfl⟩
                    · intro o ho x w' hG hd
                      injection ho with ho
                      subst ho
                      have hW : Below W3.heap.size W3 w' := hG
                      dsimp only []
                      go_wp2
                      exact ⟨_, (by simp [Reg.upd]), hW, Below.refl _ _, rfl⟩
                    · intro o ho x w' hG hd
                      injection ho with ho
                      subst ho
                      have hW : Below W3.heap.size W3 w' := hG
                      have h6 : x 140 = Value.slice (some ⟨gl, 0, none⟩) 8 8 := (hd 6 rfl)
                      have h7 : x 141 = Value.int IntKind.i64 (n : Int) := (hd 7 rfl)
                      dsimp only []
                      go_wp2
                      exact ⟨_, (by simp [Reg.upd, h6, h7]), hW, Below.refl _ _, rfl⟩
                    · intro o ho x w' hG hd
                      injection ho with ho
                      subst ho
                      have hW : Below W3.heap.size W3 w' := hG
                      have h8 : x 142 = Value.pointer (some ⟨gl, n, none⟩) := (hd 8 rfl)
                      dsimp only []
                      have hx := pw_cell_below hW HXn.out
                      go_wp2
                      exact ⟨_, (by simp [Reg.upd, h8]), hW, Below.refl _ _, rfl⟩
                    · intro o ho x w' hG hd
                      injection ho with ho
                      subst ho
                      have hW : Below W3.heap.size W3 w' := hG
                      have h1 : x 135 = Value.int IntKind.i64 (n : Int) := (hd 1 rfl)
                      have h5 : x 139 = Value.int IntKind.u64 b := (hd 5 rfl)
                      have h9 : x 143 = Value.int IntKind.u64 c := (hd 9 rfl)
                      dsimp only []
                      have huS := Try.underlying43
                      go_wp2
                      exact ⟨_, (by simp [Reg.upd, h1, h5, h9]), hW, Below.refl _ _, rfl⟩
                    · intro o ho x w' hG hd
                      injection ho with ho
                      subst ho
                      have hW : Below W3.heap.size W3 w' := hG
                      dsimp only []
                      go_wp2
                      exact ⟨_, (by simp [Reg.upd]), hW, Below.refl _ _, rfl⟩
                    · intro o ho x w' hG hd
                      injection ho with ho
                      subst ho
                      have hW : Below W3.heap.size W3 w' := hG
                      have h11 : x 145 = Value.int IntKind.i64 (k : Int) := (hd 11 rfl)
                      dsimp only []
                      have huS := Try.underlying43
                      go_wp2
                      exact ⟨_, (by simp [Reg.upd, h11]), hW, Below.refl _ _, rfl⟩
                    · intro o ho x w' hG hd
                      injection ho with ho
                      subst ho
                      have hW : Below W3.heap.size W3 w' := hG
                      dsimp only []
                      go_wp2
                      exact ⟨_, (by simp [Reg.upd]), hW, Below.refl _ _, rfl⟩
                    · intro o ho x w' hG hd
                      injection ho with ho
                      subst ho
                      have hW : Below W3.heap.size W3 w' := hG
                      dsimp only []
                      go_wp2
                      exact ⟨_, (by simp [Reg.upd]), hW, Below.refl _ _, rfl⟩
                    · intro o ho x w' hG hd
                      injection ho with ho
                      subst ho
                      have hW : Below W3.heap.size W3 w' := hG
                      dsimp only []
                      go_wp2
                      exact ⟨_, (by simp [Reg.upd]), hW, Below.refl _ _, rfl⟩
                    · intro o ho x w' hG hd
                      injection ho with ho
                      subst ho
                      have hW : Below W3.heap.size W3 w' := hG
                      have h14 : x 148 = Value.slice (some ⟨gl, 0, none⟩) 8 8 := (hd 14 rfl)
                      have h15 : x 149 = Value.int IntKind.i64 (k : Int) := (hd 15 rfl)
                      dsimp only []
                      go_wp2
                      exact ⟨_, (by simp [Reg.upd, h14, h15]), hW, Below.refl _ _, rfl⟩
                    · intro o ho x w' hG hd
                      injection ho with ho
                      subst ho
                      have hW : Below W3.heap.size W3 w' := hG
                      have h16 : x 150 = Value.pointer (some ⟨gl, k, none⟩) := (hd 16 rfl)
                      dsimp only []
                      have hx := pw_cell_below hW HXk.out
                      go_wp2
                      exact ⟨_, (by simp [Reg.upd, h16]), hW, Below.refl _ _, rfl⟩
                    · intro o ho x w' hG hd
                      injection ho with ho
                      subst ho
                      have hW : Below W3.heap.size W3 w' := hG
                      have h13 : x 147 = Value.int IntKind.i64 (i : Int) := (hd 13 rfl)
                      have h17 : x 151 = Value.int IntKind.u64 b := (hd 17 rfl)
                      dsimp only []
                      have huS := Try.underlying43
                      go_wp2
                      exact ⟨_, (by simp [Reg.upd, h13, h17]), hW, Below.refl _ _, rfl⟩
                    · intro o ho x w' hG hd
                      injection ho with ho
                      subst ho
                      have hW : Below W3.heap.size W3 w' := hG
                      have h10 : x 144 = Value.agg #[Value.int IntKind.i64 (n : Int), Value.int IntKind.u64 1, Value.int IntKind.u64 b, Value.int IntKind.u64 c] := (hd 10 rfl)
                      have h12 : x 146 = Value.agg #[Value.int IntKind.i64 (k : Int), Value.int IntKind.u64 2, Value.int IntKind.u64 0, Value.int IntKind.u64 0] := (hd 12 rfl)
                      have h18 : x 152 = Value.agg #[Value.int IntKind.i64 (i : Int), Value.int IntKind.u64 1, Value.int IntKind.u64 b, Value.int IntKind.u64 0] := (hd 18 rfl)
                      dsimp only []
                      go_wp2_with ((with_reducible refine gate_dst (N := 153) rfl ?_); refine lit_event_g (N := 153) rfl (by go_simp) _ _ _ (build_runN 41 43 3 #[Value.int .i64 (n : Int), .int .u64 1, .int .u64 b, .int .u64 c, .int .i64 (k : Int), .int .u64 2, .int .u64 0, .int .u64 0, .int .i64 (i : Int), .int .u64 1, .int .u64 b, .int .u64 0] kinfo43 Try.underlying41 _ rfl (by omega) (by omega) _ (fillA3 _ _ _ _ _ _ _ _ _ _ _ _) (by go_simp)) ?_; intro g _ w1 hbox hb)
                      exact ⟨_, (by simp [Reg.upd, h10, h12, h18]), below_step hW hb, hb, g, rfl, C_acts3 _ _ _ hbox rfl⟩
                    · intro o ho x w' hG hd
                      injection ho with ho
                      subst ho
                      have hW : Below W3.heap.size W3 w' := hG
                      dsimp only []
                      go_wp2
                      exact ⟨_, (by simp [Reg.upd]), hW, Below.refl _ _, rfl⟩
                    · intro o ho x w' hG hd
                      injection ho with ho
                      subst ho
                      have hW : Below W3.heap.size W3 w' := hG
                      dsimp only []
                      go_wp2
                      exact ⟨_, (by simp [Reg.upd]), hW, Below.refl _ _, rfl⟩
                    · intro o ho x w' hG hd
                      injection ho with ho
                      subst ho
                      have hW : Below W3.heap.size W3 w' := hG
                      have h20 : x 154 = Value.slice (some ⟨gl, 0, none⟩) 8 8 := (hd 20 rfl)
                      have h21 : x 155 = Value.int IntKind.i64 (k : Int) := (hd 21 rfl)
                      dsimp only []
                      go_wp2
                      exact ⟨_, (by simp [Reg.upd, h20, h21]), hW, Below.refl _ _, rfl⟩
                    · intro o ho x w' hG hd
                      injection ho with ho
                      subst ho
                      have hW : Below W3.heap.size W3 w' := hG
                      have h22 : x 156 = Value.pointer (some ⟨gl, k, none⟩) := (hd 22 rfl)
                      dsimp only []
                      have hx := pw_cell_below hW HXk.out
                      go_wp2
                      exact ⟨_, (by simp [Reg.upd, h22]), hW, Below.refl _ _, rfl⟩
                    · intro o ho x w' hG hd
                      injection ho with ho
                      subst ho
                      have hW : Below W3.heap.size W3 w' := hG
                      dsimp only []
                      go_wp2
                      exact ⟨_, (by simp [Reg.upd]), hW, Below.refl _ _, rfl⟩
                    · intro o ho x w' hG hd
                      injection ho with ho
                      subst ho
                      have hW : Below W3.heap.size W3 w' := hG
                      dsimp only []
                      go_wp2
                      exact ⟨_, (by simp [Reg.upd]), hW, Below.refl _ _, rfl⟩
                    · intro o ho x w' hG hd
                      injection ho with ho
                      subst ho
                      have hW : Below W3.heap.size W3 w' := hG
                      have h24 : x 158 = Value.slice (some ⟨gl, 0, none⟩) 8 8 := (hd 24 rfl)
                      have h25 : x 159 = Value.int IntKind.i64 (n : Int) := (hd 25 rfl)
                      dsimp only []
                      go_wp2
                      exact ⟨_, (by simp [Reg.upd, h24, h25]), hW, Below.refl _ _, rfl⟩
                    · intro o ho x w' hG hd
                      injection ho with ho
                      subst ho
                      have hW : Below W3.heap.size W3 w' := hG
                      have h26 : x 160 = Value.pointer (some ⟨gl, n, none⟩) := (hd 26 rfl)
                      dsimp only []
                      have hx := pw_cell_below hW HXn.out
                      go_wp2
                      exact ⟨_, (by simp [Reg.upd, h26]), hW, Below.refl _ _, rfl⟩
                    · intro o ho x w' hG hd
                      injection ho with ho
                      subst ho
                      have hW : Below W3.heap.size W3 w' := hG
                      have h0 : x 134 = Value.agg #[Value.int IntKind.u64 c, Value.int IntKind.u64 1, Value.int IntKind.u64 b, Value.int IntKind.u64 a, Value.bool bl] := (hd 0 rfl)
                      have h19 : ∃ g : Nat, x 153 = Value.slice (some ⟨g, 0, none⟩) 3 3 ∧ Kd.C k43 w' (some ⟨g, 0, none⟩) [(⟨(n : Int), 1, b, c⟩ : S43), ⟨(k : Int), 2, 0, 0⟩, ⟨(i : Int), 1, b, 0⟩].length [(⟨(n : Int), 1, b, c⟩ : S43), ⟨(k : Int), 2, 0, 0⟩, ⟨(i : Int), 1, b, 0⟩] := (hd 19 rfl)
                      obtain ⟨g19, h19, hC19⟩ := h19
                      have h23 : x 157 = Value.int IntKind.u64 b := (hd 23 rfl)
                      have h27 : x 161 = Value.int IntKind.u64 c := (hd 27 rfl)
                      dsimp only []
                      go_wp2_with (go_at_call 5; have HS := fences_lit bl 1 b c w' FC.out FB.out FA.out HI.out HK.out HN.out hC19; (with_reducible refine HS.mono ?_); clear HS; rintro e1 w1 ⟨rfl, hb⟩)
                      exact ⟨_, (by simp [Reg.upd, h0, h19, h23, h27]), below_step hW hb, hb, rfl⟩
                    · intro o ho x w' hG hd
                      injection ho with ho
                      subst ho
                      have hW : Below W3.heap.size W3 w' := hG
                      have h28 : x 162 = Value.bool true := (hd 28 rfl)
                      dsimp only []
                      go_wp2
                      exact ⟨_, (by simp [Reg.upd, h28]), hW, Below.refl _ _, rfl⟩
                  case fin =>
                    intro x W4 hG hF
                    have h163 : x 163 = Value.bool false := hF 29 (by decide)
                    have HW4 := Aside0.mk (show Below W3.heap.size W3 W4 from hG)
                    clear hG hF
                    dsimp only []
                    go_wp2
                    go_simp
                    go_wp2
                    go_roundg k3
                    case measure => omega
                    case rel => exact ⟨n + 1, by go_num, ⟨by have := HKn.out; omega⟩, ⟨HL3.out.below HW4.out⟩, ⟨below_step HB3.out HW4.out⟩⟩
            · have cn : decide ((n : Int) < 8) = false := decide_eq_false (by omega)
              have qn : ¬ (n : Int) < 8 := by omega
              clear hn
              go_wp2
              go_roundg k2
              case measure => omega
              case rel => exact ⟨k + 1, by go_num, ⟨by have := HKk.out; omega⟩, HL, HB⟩
        · have ck : decide ((k : Int) < 8) = false := decide_eq_false (by omega)
          have qk : ¬ (k : Int) < 8 := by omega
          clear hk
          go_wp2
          go_roundg k1
          case measure => omega
          case rel => exact ⟨i + 1, by go_num, ⟨by have := HKi.out; omega⟩, HL, HB⟩
    · have ci : decide ((i : Int) < 8) = false := decide_eq_false (by omega)
      have qi : ¬ (i : Int) < 8 := by omega
      clear hi HL
      go_wp2_with (first
        | (go_at_call 27; (with_reducible refine (last_none _).mono ?_); rintro e w2 ⟨rfl, hb⟩; have HB := Aside0.mk (below_step HB.out hb); clear hb)
        | (go_at_call 19; (with_reducible refine (chartroomlaw13_works.calls true _ rfl).mono ?_); rintro e w9 ⟨rfl, hb⟩; have HB := Aside0.mk (below_step HB.out hb); clear hb))
      go_ret
      exact ⟨rfl, HB.out⟩
end Go.Proofs.Ythjdldiekpidkaa
