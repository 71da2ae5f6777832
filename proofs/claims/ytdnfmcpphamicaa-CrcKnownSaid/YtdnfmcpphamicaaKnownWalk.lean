/- CrcKnown's walk: the examples of the chapter, the whole table, each byte alone and among others; a closed statement. -/
import Derived.Test.YtdnfmcpphamicaaSumsWalk
namespace Go.Proofs.Ytdnfmcpphamicaa
open Go.RowKit Go.Proofs.YtdnfmcpphamicaaW.PrintWords Go.Proofs.YtdnfmcpphamicaaW.PrintLast Go.Proofs.YtdnfmcpphamicaaW.PrintMore
open Go.Proofs.Ytdnfmcpphamicaa.Crc Go.Proofs.Ytdnfmcpphamicaa.Pc

set_option maxHeartbeats 1000000 in
set_option maxRecDepth 100000 in
theorem ref_Table.calls (w : World) : Calls Try.prog 14 #[] w (ReturnsAgg tab w) := by
  have hu35 := Try.underlying35
  go_enter Try.func14, Try.ntmps14
  go_wp2_with (first
    | ((with_reducible refine gate_dst (N := 0) rfl ?_); refine alloc_arr rfl rfl (N := 0) rfl info35 ?_; intro g0 hg w1 hbox hb; have HB1 := Aside0.mk hb; have H0 := Aside0.mk hbox; have HG0 := Aside0.mk hg; clear hg hbox hb)
    | ((with_reducible refine gate_dst (N := 1) rfl ?_); refine alloc_arr rfl rfl (N := 1) rfl info35 ?_; intro g1 hg w2 hbox hb; have HB2 := Aside0.mk hb; have H1 := Aside0.mk hbox; have HG1 := Aside0.mk hg; clear hg hbox hb))
  have HB := Aside0.mk (below_step HB1.out HB2.out)
  have HN := Aside0.mk (show g0 ≠ g1 by have h1 := HG0.out; have h2 := HG1.out; have h3 := blk_lt H0.out; omega)
  have HL := Aside0.mk (show w.heap.size ≤ g0 ∧ w.heap.size ≤ g1 by have h1 := HG0.out; have h2 := HG1.out; have h3 := below_size HB1.out; omega)
  have K0 := Aside0.mk (blk_below H0.out HB2.out)
  clear HG0 HG1 HB1 HB2 H0
  go_loopg [2] 256 (fun kq v2 w' => ∃ i : Nat, v2 = .int .i64 (i : Int) ∧ Aside0 (i + kq = 256) ∧ Aside0 (w'.heap[g0]? = some (.cells (tabTo 0) 35 (0, 0))) ∧ Aside0 (w'.heap[g1]? = some (.cells (tabTo i) 35 (0, 0))) ∧ Aside0 (Below w.heap.size w w'))
  case atStart => exact ⟨0, rfl, ⟨rfl⟩, ⟨by rw [tabTo_zero]; exact K0.out⟩, ⟨by rw [tabTo_zero]; exact H1.out⟩, HB⟩
  case round =>
    clear HB K0 H1
    obtain ⟨i, rfl, HK, H0, H1, HB⟩ := hrel
    by_cases hlt : i < 256
    · have c1 : decide ((i : Int) < 256) = true := decide_eq_true (by omega)
      have hi := (⟨hlt⟩ : Aside0 (i < 256))
      cases gk with
      | zero => exact absurd HK.out (by omega)
      | succ k1 =>
      go_wp2
      go_loopg [3, 4] 8 (fun kq v3 v4 w' => ∃ k : Nat, v3 = .int .u32 (n32 (sts k (BitVec.ofNat 32 i))) ∧ v4 = .int .i64 (k : Int) ∧ Aside0 (k + kq = 8) ∧ Aside0 (w'.heap[g0]? = some (.cells (tabTo 0) 35 (0, 0))) ∧ Aside0 (w'.heap[g1]? = some (.cells (tabTo i) 35 (0, 0))) ∧ Aside0 (Below w.heap.size w w'))
      case atStart => exact ⟨0, by rw [show n32 (sts 0 (BitVec.ofNat 32 i)) = (i : Int) by simp [n32, sts]; omega], rfl, ⟨rfl⟩, H0, H1, HB⟩
      case round =>
        clear H0 H1 HB
        obtain ⟨k, rfl, rfl, HK2, H0, H1, HB⟩ := hrel
        by_cases hk : k < 8
        · have c2 : decide ((k : Int) < 8) = true := decide_eq_true (by omega)
          cases gk with
          | zero => exact absurd HK2.out (by omega)
          | succ k2 =>
          go_wp2_with (go_at_call 17; (with_reducible refine (ref_Step.calls _ _).mono ?_); rintro e w' ⟨rfl, rfl⟩)
          go_roundg k2
          case measure => omega
          case rel => exact ⟨k + 1, rfl, by go_num, ⟨by have := HK2.out; omega⟩, H0, H1, HB⟩
        · have c2 : decide ((k : Int) < 8) = false := decide_eq_false (by omega)
          have e : k = 8 := by have := HK2.out; omega
          subst e
          clear hk
          have hx : wr.cell? ⟨g1, i, none⟩ = some (.int .u32 0) := by rw [blk_cell H1.out, tabTo_at _ _ hi.out, if_neg (Nat.lt_irrefl i)]
          have hf : wr.frozen? ⟨g1, i, none⟩ = false := blk_frozen H1.out i
          have hi2 : (i : Int) < 256 := by have := hi.out; omega
          go_wp2
          clear hx hf
          go_roundg k1
          case measure => omega
          case rel => exact ⟨i + 1, by go_num, ⟨by have := HK.out; omega⟩, ⟨blk_far H0.out HN.out _⟩, ⟨blk_put H1.out i _ (tabTo_set i)⟩, ⟨below_set HB.out HL.out.2⟩⟩
    · have c1 : decide ((i : Int) < 256) = false := decide_eq_false (by omega)
      have e : i = 256 := by have := HK.out; omega
      subst e
      clear hlt
      go_wp2_with (first
        | ((with_reducible refine gate_dst (N := 20) rfl ?_); refine wpList_load_row rfl 35 (.tmp 1) rfl g1 rfl 35 tab (0, 0) _ H1.out hu35 rfl (by rw [tab_size]; kernel_rfl) ?_)
        | ((with_reducible refine gate_store (p := 0) (t := 35) (v := .tmp 20) rfl ?_); refine store_arr rfl (p := 0) (v := .tmp 20) rfl rfl (g := g0) rfl rfl H0.out (tabTo_size 0) ?_; intro w9 hbox hb _; have HC := Aside0.mk hbox; have HB := Aside0.mk (hb w HB.out HL.out.1); clear hbox hb))
      refine bodyPost_ret (results_cell_row rfl _ _ g0 35 tab (0, 0) _ rfl HC.out hu35 rfl (by rw [tab_size]; kernel_rfl)) rfl ?_
      exact ⟨rfl, HB.out⟩

def KFact (g1 g2 gb i : Nat) (k_ : Nat) (v : Value) (w_ : World) : Prop :=
  match k_ with
  | 0 => v = Value.int IntKind.i64 (i : Int)
  | 1 => v = Value.pointer (some ⟨g2, i, none⟩)
  | 2 => v = Value.int IntKind.u32 (n32 (ent i))
  | 3 => v = Value.int IntKind.i64 (i : Int)
  | 4 => v = Value.pointer (some ⟨g1, i, none⟩)
  | 5 => v = Value.int IntKind.u32 (n32 (ent i))
  | 6 => v = Value.bool false
  | 7 => v = Value.bool false
  | 8 => v = Value.slice (some ⟨gb, 0, none⟩) 3 3
  | 9 => v = Value.slice (some ⟨gb, 0, none⟩) 3 3
  | 10 => v = Value.slice (some ⟨gb, 0, none⟩) 1 3
  | 11 => ∃ g : Nat, v = Value.slice (some ⟨g, 0, none⟩) 3 3 ∧ Kd.C (Kd.slice 5 (Kd.int .u8)) w_ (some ⟨g, 0, none⟩) [[(i : Int), 0, 255 - (i : Int)], [(i : Int)], []].length [[(i : Int), 0, 255 - (i : Int)], [(i : Int)], []]
  | 12 => v = Value.int IntKind.i64 (i : Int)
  | 13 => v = Value.int IntKind.u32 (i : Int)
  | 14 => v = Value.int IntKind.u32 ((i : Int) * 16777216)
  | 15 => v = Value.bool true
  | 16 => v = Value.bool false
  | 17 => v = Value.bool false
  | 18 => v = Value.bool false
  | 19 => v = Value.slice (some ⟨gb, 0, none⟩) 3 3
  | 20 => v = Value.int IntKind.i64 (i : Int)
  | 21 => v = Value.int IntKind.u16 (i : Int)
  | 22 => v = Value.bool true
  | 23 => v = Value.bool false
  | 24 => v = Value.bool false
  | 25 => v = Value.bool false
  | 26 => v = Value.slice (some ⟨gb, 0, none⟩) 3 3
  | 27 => v = Value.int IntKind.i64 (i : Int)
  | 28 => v = Value.int IntKind.u16 (i : Int)
  | 29 => v = Value.int IntKind.i64 (i : Int)
  | 30 => v = Value.int IntKind.i64 ((i : Int) % 2)
  | 31 => v = Value.bool ((i : Int) % 2 == 0)
  | 32 => v = Value.bool true
  | 33 => v = Value.bool false
  | 34 => v = Value.bool false
  | 35 => v = Value.bool false
  | 36 => v = Value.slice (some ⟨gb, 0, none⟩) 3 3
  | 37 => v = Value.int IntKind.i64 (i : Int)
  | 38 => v = Value.int IntKind.u8 (i : Int)
  | 39 => ∃ (g : Nat) (c : Int), v = Value.slice (some ⟨g, 0, none⟩) 4 4 ∧ Kd.C (Kd.int .u8) w_ (some ⟨g, 0, none⟩) [1, 2, 3, c].length [1, 2, 3, c]
  | 40 => v = Value.bool true
  | 41 => v = Value.bool false
  | 42 => v = Value.bool false
  | _ => True

theorem kfact_stable {g1 g2 gb i : Nat} (j : Nat) (v : Value) (w1 w2 : World) (hb : Below w1.heap.size w1 w2) (h : KFact g1 g2 gb i j v w1) : KFact g1 g2 gb i j v w2 := by
  unfold KFact at h ⊢
  split at h <;> first | exact h | (obtain ⟨g, e, hC⟩ := h; exact ⟨g, e, Kd.C_below hC hb⟩) | (obtain ⟨g, c, e, hC⟩ := h; exact ⟨g, c, e, Kd.C_below hC hb⟩)

theorem fillI3 (x y z : Int) : Instr.fill (fun i => some (i * 1, 1)) ((Array.range (3 * 1)).map ((Value.int .u8 0).cells[· % (Value.int .u8 0).cells.size]!)) [(0, Value.int .u8 x), (1, Value.int .u8 y), (2, Value.int .u8 z)] = some #[Value.int .u8 x, Value.int .u8 y, Value.int .u8 z] := by kernel_rfl
theorem fillI4 (x y z u : Int) : Instr.fill (fun i => some (i * 1, 1)) ((Array.range (4 * 1)).map ((Value.int .u8 0).cells[· % (Value.int .u8 0).cells.size]!)) [(0, Value.int .u8 x), (1, Value.int .u8 y), (2, Value.int .u8 z), (3, Value.int .u8 u)] = some #[Value.int .u8 x, Value.int .u8 y, Value.int .u8 z, Value.int .u8 u] := by kernel_rfl

theorem sums_nil (w : World) : Calls Try.prog 6 #[.slice none 0 0, .int .u32 0] w (Right w) := sums_walk none 0 [] 0 w (Kd.C_nil _ _) (Nat.le_refl _)
theorem parts_nil (w : World) : Calls Try.prog 5 #[.slice none 0 0, .int .u16 0, .int .u16 0] w (Right w) := parts_walk none 0 [] 0 0 w (Kd.C_nil _ _) (Nat.le_refl _) (by decide) (by decide) (by decide) (by decide)
theorem sums_three {g : Nat} (p q r : List Int) (c : Int) (w : World) (h : Kd.C (Kd.slice 5 (Kd.int .u8)) w (some ⟨g, 0, none⟩) [p, q, r].length [p, q, r]) : Calls Try.prog 6 #[.slice (some ⟨g, 0, none⟩) 3 3, .int .u32 c] w (Right w) := sums_walk (some ⟨g, 0, none⟩) 3 [p, q, r] c w h (Nat.le_refl _)
theorem parts_b3 {g : Nat} (p q r : Int) (i k : Int) (w : World) (h : Kd.C (Kd.int .u8) w (some ⟨g, 0, none⟩) [p, q, r].length [p, q, r]) (h0 : 0 ≤ i) (h1 : i ≤ 65535) (h2 : 0 ≤ k) (h3 : k ≤ 65535) : Calls Try.prog 5 #[.slice (some ⟨g, 0, none⟩) 3 3, .int .u16 i, .int .u16 k] w (Right w) := parts_walk (some ⟨g, 0, none⟩) 3 [p, q, r] i k w h (Nat.le_refl _) h0 h1 h2 h3
theorem flips_b3 {g : Nat} (p q r : Int) (i : Int) (b : Bool) (w : World) (h : Kd.C (Kd.int .u8) w (some ⟨g, 0, none⟩) [p, q, r].length [p, q, r]) (h0 : 0 ≤ i) (h1 : i ≤ 65535) : Calls Try.prog 3 #[.slice (some ⟨g, 0, none⟩) 3 3, .int .u16 i, .bool b] w (Right w) := flips_walk (some ⟨g, 0, none⟩) 3 [p, q, r] i b w h (Nat.le_refl _) h0 h1
theorem xors_b3 {g g' : Nat} (p q r a b c d : Int) (w : World) (h : Kd.C (Kd.int .u8) w (some ⟨g, 0, none⟩) [p, q, r].length [p, q, r]) (h' : Kd.C (Kd.int .u8) w (some ⟨g', 0, none⟩) [a, b, c, d].length [a, b, c, d]) : Calls Try.prog 4 #[.slice (some ⟨g, 0, none⟩) 3 3, .slice (some ⟨g', 0, none⟩) 4 4] w (Right w) := xors_walk (some ⟨g, 0, none⟩) (some ⟨g', 0, none⟩) 3 4 [p, q, r] [a, b, c, d] w h (Nat.le_refl _) h' (Nat.le_refl _)

set_option maxHeartbeats 1000000 in
set_option maxRecDepth 100000 in
theorem known_walk (w : World) : Calls Try.prog 7 #[] w (Right w) := by
  have hu35 := Try.underlying35
  have HB := Aside0.mk (Below.refl w.heap.size w)
  go_enter Try.func7, Try.ntmps7
  go_wp2_with (first
    | (go_at_call 14; (with_reducible refine (ref_Table.calls _).mono ?_); rintro e w1 ⟨rfl, hb⟩; have HB := Aside0.mk (below_step HB.out hb); clear hb)
    | (go_at_call 15; (with_reducible refine (crc_Table.calls _).mono ?_); rintro e w1 ⟨rfl, hb⟩; have HB := Aside0.mk (below_step HB.out hb); clear hb)
    | ((with_reducible refine gate_dst (N := 1) rfl ?_); refine alloc_arr rfl rfl (N := 1) rfl info35 ?_; intro g1 hg w1 hbox hb; have HL1 := Aside0.mk (show w.heap.size ≤ g1 by rw [hg]; exact below_size HB.out); have HB := Aside0.mk (below_step HB.out hb); have H1 := Aside0.mk hbox; clear hg hbox hb)
    | ((with_reducible refine gate_dst (N := 2) rfl ?_); refine alloc_arr rfl rfl (N := 2) rfl info35 ?_; intro g2 hg w1 hbox hb; have HL2 := Aside0.mk (show w.heap.size ≤ g2 by rw [hg]; exact below_size HB.out); have HN := Aside0.mk (show g1 ≠ g2 by rw [hg]; exact Nat.ne_of_lt (blk_lt H1.out)); have HB := Aside0.mk (below_step HB.out hb); have H1 := Aside0.mk (blk_below H1.out hb); have H2 := Aside0.mk hbox; clear hg hbox hb)
    | ((with_reducible refine gate_store (p := 1) (t := 35) (v := .tmp 5) rfl ?_); refine store_arr rfl (p := 1) (v := .tmp 5) rfl rfl (g := g1) rfl rfl H1.out (by simp) ?_; intro w5 hbox hb hfar; have H1 := Aside0.mk hbox; have HB := Aside0.mk (hb w HB.out HL1.out); have H2 := Aside0.mk ((hfar g2 (Ne.symm HN.out)).trans H2.out); clear hbox hb hfar)
    | ((with_reducible refine gate_store (p := 2) (t := 35) (v := .tmp 6) rfl ?_); refine store_arr rfl (p := 2) (v := .tmp 6) rfl rfl (g := g2) rfl rfl H2.out (by simp) ?_; intro w5 hbox hb hfar; have H2 := Aside0.mk hbox; have HB := Aside0.mk (hb w HB.out HL2.out); have H1 := Aside0.mk ((hfar g1 HN.out).trans H1.out); clear hbox hb hfar))
  have K1 := H1
  have K2 := H2
  have KB := HB
  go_loopg [3] 256 (fun kq v3 w' => ∃ i : Nat, v3 = .int .i64 (i : Int) ∧ Aside0 (i + kq = 256) ∧ Aside0 (w'.heap[g1]? = some (.cells tab 35 (0, 0))) ∧ Aside0 (w'.heap[g2]? = some (.cells tab 35 (0, 0))) ∧ Aside0 (Below w.heap.size w w'))
  case atStart => exact ⟨0, rfl, ⟨rfl⟩, K1, K2, KB⟩
  case round =>
    clear K1 K2 KB
    obtain ⟨i, rfl, HK, H1, H2, HB⟩ := hrel
    by_cases hlt : i < 256
    · have c1 : decide ((i : Int) < 256) = true := decide_eq_true (by omega)
      have p1 : (i : Int) < 256 := by omega
      have p0 : 0 ≤ (i : Int) := by omega
      cases gk with
      | zero => exact absurd HK.out (by omega)
      | succ k1 =>
      go_upto_region 6 with ((with_reducible refine gate_dst (N := 16) rfl ?_); refine lit_event rfl (N := 16) rfl _ _ _ (build_run 22 5 3 #[Value.int IntKind.u8 (i : Int), Value.int IntKind.u8 0, Value.int IntKind.u8 (255 - (i : Int))] info5 Try.underlying22 _ rfl (by omega) (by omega) _ (fillI3 _ _ _) (by go_simp)) ?_; intro gb _ w7 hbox hb; have HCB := Aside0.mk (C_blk .u8 [(i : Int), 0, 255 - (i : Int)] hbox rfl (by simp)); have HB := Aside0.mk (below_step HB.out hb); have H1 := Aside0.mk (blk_below H1.out hb); have H2 := Aside0.mk (blk_below H2.out hb); clear hbox hb; obtain ⟨wr, rfl⟩ : ∃ z : World, z = w7 := ⟨_, rfl⟩)
      have HX1 := Aside0.mk (show wr.cell? ⟨g1, i, none⟩ = some (.int .u32 (n32 (ent i))) by rw [blk_cell H1.out, tab_at i hlt])
      have HX2 := Aside0.mk (show wr.cell? ⟨g2, i, none⟩ = some (.int .u32 (n32 (ent i))) by rw [blk_cell H2.out, tab_at i hlt])
      obtain ⟨i5, hi5, _⟩ := Option.map_eq_some_iff.1 info5
      have KA := Aside0.mk (show ∀ W : World, (Instr.slice 22 (Value.slice (some ⟨gb, 0, none⟩) 3 3) none (some (.int .i64 1)) none).run Try.prog W = .ok (.slice (some ⟨gb, 0, none⟩) 1 3) W from cut_to (P := Try.prog) 22 5 .i64 Try.underlying22 hi5 (some ⟨gb, 0, none⟩) 3 3 1 (by omega) (by omega) (Nat.le_refl _))
      have HC1 := Aside0.mk (show Kd.C (Kd.int .u8) wr (some ⟨gb, 0, none⟩) [(i : Int)].length [(i : Int)] from Kd.C_take (m := 1) HCB.out (by simp))
      clear hi5
      refine Reg.region (fr := (fun x : Nat → Value => (⟨#[u0, Value.pointer (some ⟨g1, 0, none⟩), Value.pointer (some ⟨g2, 0, none⟩), Value.int IntKind.i64 ↑i, Value.slice (some ⟨gb, 0, none⟩) 3 3, Value.agg tab, Value.agg tab, Value.int IntKind.i64 ↑i, Value.bool true, u9, u10, Value.int IntKind.i64 ↑i, Value.int IntKind.u8 ↑i, Value.int IntKind.i64 ↑i, Value.int IntKind.i64 (255 - ↑i), Value.int IntKind.u8 (255 - ↑i), Value.slice (some ⟨gb, 0, none⟩) 3 3, x 17, x 18, x 19, x 20, x 21, x 22, x 23, x 24, x 25, x 26, x 27, x 28, x 29, x 30, x 31, x 32, x 33, x 34, x 35, x 36, x 37, x 38, x 39, x 40, x 41, x 42, x 43, x 44, x 45, x 46, x 47, x 48, x 49, x 50, x 51, x 52, x 53, x 54, x 55, x 56, x 57, x 58, x 59, undef, undef, undef, undef, undef, undef, undef], []⟩ : Act))) (dst := fun i => 17 + i) (fun w' => Below wr.heap.size wr w') (KFact g1 g2 gb i) (fun s_ => [u17, u18, u19, u20, u21, u22, u23, u24, u25, u26, u27, u28, u29, u30, u31, u32, u33, u34, u35, u36, u37, u38, u39, u40, u41, u42, u43, u44, u45, u46, u47, u48, u49, u50, u51, u52, u53, u54, u55, u56, u57, u58, u59].getD (s_ - 17) undef) rfl (by kernel_rfl) (by kernel_rfl) ?inj ?stable ?inv ?step ?fin
      case inj =>
        intro i j hi hj h
        have h' : 17 + i = 17 + j := h
        omega
      case stable => exact fun j v w1 w2 hb h => kfact_stable j v w1 w2 hb h
      case inv => exact below_drew1 (Below.refl _ _)
      case fin =>
        intro x w' hG hF
        have h59 : x 59 = Value.bool false := hF 42 (by decide)
        have HW := Aside0.mk (show Below wr.heap.size wr w' from hG)
        dsimp only []
        go_wp2
        go_simp
        go_wp2
        go_roundg k1
        case measure => omega
        case rel => exact ⟨i + 1, by go_num, ⟨by have := HK.out; omega⟩, ⟨blk_below H1.out HW.out⟩, ⟨blk_below H2.out HW.out⟩, ⟨below_step HB.out HW.out⟩⟩
      case step =>
        intro i_ hi
        have hi2 : i_ < 43 := hi
        have hi3 : i_ = 0 ∨ i_ = 1 ∨ i_ = 2 ∨ i_ = 3 ∨ i_ = 4 ∨ i_ = 5 ∨ i_ = 6 ∨ i_ = 7 ∨ i_ = 8 ∨ i_ = 9 ∨ i_ = 10 ∨ i_ = 11 ∨ i_ = 12 ∨ i_ = 13 ∨ i_ = 14 ∨ i_ = 15 ∨ i_ = 16 ∨ i_ = 17 ∨ i_ = 18 ∨ i_ = 19 ∨ i_ = 20 ∨ i_ = 21 ∨ i_ = 22 ∨ i_ = 23 ∨ i_ = 24 ∨ i_ = 25 ∨ i_ = 26 ∨ i_ = 27 ∨ i_ = 28 ∨ i_ = 29 ∨ i_ = 30 ∨ i_ = 31 ∨ i_ = 32 ∨ i_ = 33 ∨ i_ = 34 ∨ i_ = 35 ∨ i_ = 36 ∨ i_ = 37 ∨ i_ = 38 ∨ i_ = 39 ∨ i_ = 40 ∨ i_ = 41 ∨ i_ = 42 := by omega
        clear hi hi2
        rcases hi3 with rfl | rfl | rfl | rfl | rfl | rfl | rfl | rfl | rfl | rfl | rfl | rfl | rfl | rfl | rfl | rfl | rfl | rfl | rfl | rfl | rfl | rfl | rfl | rfl | rfl | rfl | rfl | rfl | rfl | rfl | rfl | rfl | rfl | rfl | rfl | rfl | rfl | rfl | rfl | rfl | rfl | rfl | rfl
        · intro o ho x w' hG hd
          injection ho with ho
          subst ho
          have hW : Below wr.heap.size wr w' := hG
          dsimp only []
          go_wp2
          exact ⟨_, (by simp [Reg.upd]), hW, Below.refl _ _, rfl⟩
        · intro o ho x w' hG hd
          injection ho with ho
          subst ho
          have hW : Below wr.heap.size wr w' := hG
          have h0 : x 17 = Value.int IntKind.i64 (i : Int) := hd 0 rfl
          dsimp only []
          go_wp2
          exact ⟨_, (by simp [Reg.upd, h0]), hW, Below.refl _ _, rfl⟩
        · intro o ho x w' hG hd
          injection ho with ho
          subst ho
          have hW : Below wr.heap.size wr w' := hG
          have h1 : x 18 = Value.pointer (some ⟨g2, i, none⟩) := hd 1 rfl
          dsimp only []
          have hx := pw_cell_below hW HX2.out
          go_wp2
          exact ⟨_, (by simp [Reg.upd, h1]), hW, Below.refl _ _, rfl⟩
        · intro o ho x w' hG hd
          injection ho with ho
          subst ho
          have hW : Below wr.heap.size wr w' := hG
          dsimp only []
          go_wp2
          exact ⟨_, (by simp [Reg.upd]), hW, Below.refl _ _, rfl⟩
        · intro o ho x w' hG hd
          injection ho with ho
          subst ho
          have hW : Below wr.heap.size wr w' := hG
          have h3 : x 20 = Value.int IntKind.i64 (i : Int) := hd 3 rfl
          dsimp only []
          go_wp2
          exact ⟨_, (by simp [Reg.upd, h3]), hW, Below.refl _ _, rfl⟩
        · intro o ho x w' hG hd
          injection ho with ho
          subst ho
          have hW : Below wr.heap.size wr w' := hG
          have h4 : x 21 = Value.pointer (some ⟨g1, i, none⟩) := hd 4 rfl
          dsimp only []
          have hx := pw_cell_below hW HX1.out
          go_wp2
          exact ⟨_, (by simp [Reg.upd, h4]), hW, Below.refl _ _, rfl⟩
        · intro o ho x w' hG hd
          injection ho with ho
          subst ho
          have hW : Below wr.heap.size wr w' := hG
          have h2 : x 19 = Value.int IntKind.u32 (n32 (ent i)) := hd 2 rfl
          have h5 : x 22 = Value.int IntKind.u32 (n32 (ent i)) := hd 5 rfl
          dsimp only []
          go_wp2
          exact ⟨_, (by simp [Reg.upd, h2, h5]), hW, Below.refl _ _, rfl⟩
        · intro o ho x w' hG hd
          injection ho with ho
          subst ho
          have hW : Below wr.heap.size wr w' := hG
          have h6 : x 23 = Value.bool false := hd 6 rfl
          dsimp only []
          go_wp2
          exact ⟨_, (by simp [Reg.upd, h6]), hW, Below.refl _ _, rfl⟩
        · intro o ho x w' hG hd
          injection ho with ho
          subst ho
          have hW : Below wr.heap.size wr w' := hG
          have h7 : x 24 = Value.bool false := hd 7 rfl
          dsimp only []
          go_wp2
          exact ⟨_, (by simp [Reg.upd, h7]), hW, Below.refl _ _, rfl⟩
        · intro o ho x w' hG hd
          injection ho with ho
          subst ho
          have hW : Below wr.heap.size wr w' := hG
          have h7 : x 24 = Value.bool false := hd 7 rfl
          dsimp only []
          go_wp2
          exact ⟨_, (by simp [Reg.upd, h7]), hW, Below.refl _ _, rfl⟩
        · intro o ho x w' hG hd
          injection ho with ho
          subst ho
          have hW : Below wr.heap.size wr w' := hG
          have h9 : x 26 = Value.slice (some ⟨gb, 0, none⟩) 3 3 := hd 9 rfl
          have h7 : x 24 = Value.bool false := hd 7 rfl
          dsimp only []
          have ka := KA.out
          go_wp2
          exact ⟨_, (by simp [Reg.upd, h9, h7]), hW, Below.refl _ _, rfl⟩
        · intro o ho x w' hG hd
          injection ho with ho
          subst ho
          have hW : Below wr.heap.size wr w' := hG
          have h8 : x 25 = Value.slice (some ⟨gb, 0, none⟩) 3 3 := hd 8 rfl
          have h10 : x 27 = Value.slice (some ⟨gb, 0, none⟩) 1 3 := hd 10 rfl
          have h7 : x 24 = Value.bool false := hd 7 rfl
          dsimp only []
          go_wp2_with ((with_reducible refine gate_dst (N := 28) rfl ?_); refine lit_event_g (N := 28) rfl (by go_simp) _ _ _ (build_run 31 22 3 #[Value.slice (some ⟨gb, 0, none⟩) 3 3, Value.slice (some ⟨gb, 0, none⟩) 1 3, Value.slice none 0 0] info22 Try.underlying31 _ rfl (by omega) (by omega) _ (fill3 _ _ _ _ _ _ _ _ _) (by go_simp)) ?_; intro g _ w1 hbox hb)
          exact ⟨_, (by simp [Reg.upd, h8, h10, h7]), below_step hW hb, hb, g, rfl, C_row3 [(i : Int), 0, 255 - (i : Int)] [(i : Int)] [] hbox rfl rfl rfl (Nat.le_refl 3) (show 1 ≤ 3 by omega) (Nat.zero_le _) (Kd.C_below HCB.out (below_step hW hb)) (Kd.C_below HC1.out (below_step hW hb)) (Kd.C_nil _ _)⟩
        · intro o ho x w' hG hd
          injection ho with ho
          subst ho
          have hW : Below wr.heap.size wr w' := hG
          have h7 : x 24 = Value.bool false := hd 7 rfl
          dsimp only []
          go_wp2
          exact ⟨_, (by simp [Reg.upd, h7]), hW, Below.refl _ _, rfl⟩
        · intro o ho x w' hG hd
          injection ho with ho
          subst ho
          have hW : Below wr.heap.size wr w' := hG
          have h12 : x 29 = Value.int IntKind.i64 (i : Int) := hd 12 rfl
          have h7 : x 24 = Value.bool false := hd 7 rfl
          dsimp only []
          go_wp2
          exact ⟨_, (by simp [Reg.upd, h12, h7]), hW, Below.refl _ _, rfl⟩
        · intro o ho x w' hG hd
          injection ho with ho
          subst ho
          have hW : Below wr.heap.size wr w' := hG
          have h13 : x 30 = Value.int IntKind.u32 (i : Int) := hd 13 rfl
          have h7 : x 24 = Value.bool false := hd 7 rfl
          dsimp only []
          go_wp2
          exact ⟨_, (by simp [Reg.upd, h13, h7]), hW, Below.refl _ _, rfl⟩
        · intro o ho x w' hG hd
          injection ho with ho
          subst ho
          have hW : Below wr.heap.size wr w' := hG
          have h11 : ∃ g : Nat, x 28 = Value.slice (some ⟨g, 0, none⟩) 3 3 ∧ Kd.C (Kd.slice 5 (Kd.int .u8)) w' (some ⟨g, 0, none⟩) [[(i : Int), 0, 255 - (i : Int)], [(i : Int)], []].length [[(i : Int), 0, 255 - (i : Int)], [(i : Int)], []] := hd 11 rfl
          have h14 : x 31 = Value.int IntKind.u32 ((i : Int) * 16777216) := hd 14 rfl
          have h7 : x 24 = Value.bool false := hd 7 rfl
          dsimp only []
          obtain ⟨g, e, hC⟩ := h11
          go_wp2_with (go_at_call 6; have HS := sums_three _ _ _ ((i : Int) * 16777216) w' hC; (with_reducible refine HS.mono ?_); clear HS; rintro e1 w1 ⟨rfl, hb⟩)
          exact ⟨_, (by simp [Reg.upd, h14, h7, e]), below_step hW hb, hb, rfl⟩
        · intro o ho x w' hG hd
          injection ho with ho
          subst ho
          have hW : Below wr.heap.size wr w' := hG
          have h15 : x 32 = Value.bool true := hd 15 rfl
          have h7 : x 24 = Value.bool false := hd 7 rfl
          dsimp only []
          go_wp2
          exact ⟨_, (by simp [Reg.upd, h15, h7]), hW, Below.refl _ _, rfl⟩
        · intro o ho x w' hG hd
          injection ho with ho
          subst ho
          have hW : Below wr.heap.size wr w' := hG
          have h7 : x 24 = Value.bool false := hd 7 rfl
          have h16 : x 33 = Value.bool false := hd 16 rfl
          dsimp only []
          go_wp2
          exact ⟨_, (by simp [Reg.upd, h7, h16]), hW, Below.refl _ _, rfl⟩
        · intro o ho x w' hG hd
          injection ho with ho
          subst ho
          have hW : Below wr.heap.size wr w' := hG
          have h17 : x 34 = Value.bool false := hd 17 rfl
          dsimp only []
          go_wp2
          exact ⟨_, (by simp [Reg.upd, h17]), hW, Below.refl _ _, rfl⟩
        · intro o ho x w' hG hd
          injection ho with ho
          subst ho
          have hW : Below wr.heap.size wr w' := hG
          have h18 : x 35 = Value.bool false := hd 18 rfl
          dsimp only []
          go_wp2
          exact ⟨_, (by simp [Reg.upd, h18]), hW, Below.refl _ _, rfl⟩
        · intro o ho x w' hG hd
          injection ho with ho
          subst ho
          have hW : Below wr.heap.size wr w' := hG
          have h18 : x 35 = Value.bool false := hd 18 rfl
          dsimp only []
          go_wp2
          exact ⟨_, (by simp [Reg.upd, h18]), hW, Below.refl _ _, rfl⟩
        · intro o ho x w' hG hd
          injection ho with ho
          subst ho
          have hW : Below wr.heap.size wr w' := hG
          have h20 : x 37 = Value.int IntKind.i64 (i : Int) := hd 20 rfl
          have h18 : x 35 = Value.bool false := hd 18 rfl
          dsimp only []
          go_wp2
          exact ⟨_, (by simp [Reg.upd, h20, h18]), hW, Below.refl _ _, rfl⟩
        · intro o ho x w' hG hd
          injection ho with ho
          subst ho
          have hW : Below wr.heap.size wr w' := hG
          have h19 : x 36 = Value.slice (some ⟨gb, 0, none⟩) 3 3 := hd 19 rfl
          have h21 : x 38 = Value.int IntKind.u16 (i : Int) := hd 21 rfl
          have h18 : x 35 = Value.bool false := hd 18 rfl
          dsimp only []
          go_wp2_with (go_at_call 5; have HS := parts_b3 (i : Int) 0 (255 - (i : Int)) (i : Int) 1 w' (Kd.C_below HCB.out hW) (by omega) (by omega) (by decide) (by decide); (with_reducible refine HS.mono ?_); clear HS; rintro e1 w1 ⟨rfl, hb⟩)
          exact ⟨_, (by simp [Reg.upd, h19, h21, h18]), below_step hW hb, hb, rfl⟩
        · intro o ho x w' hG hd
          injection ho with ho
          subst ho
          have hW : Below wr.heap.size wr w' := hG
          have h22 : x 39 = Value.bool true := hd 22 rfl
          have h18 : x 35 = Value.bool false := hd 18 rfl
          dsimp only []
          go_wp2
          exact ⟨_, (by simp [Reg.upd, h22, h18]), hW, Below.refl _ _, rfl⟩
        · intro o ho x w' hG hd
          injection ho with ho
          subst ho
          have hW : Below wr.heap.size wr w' := hG
          have h18 : x 35 = Value.bool false := hd 18 rfl
          have h23 : x 40 = Value.bool false := hd 23 rfl
          dsimp only []
          go_wp2
          exact ⟨_, (by simp [Reg.upd, h18, h23]), hW, Below.refl _ _, rfl⟩
        · intro o ho x w' hG hd
          injection ho with ho
          subst ho
          have hW : Below wr.heap.size wr w' := hG
          have h24 : x 41 = Value.bool false := hd 24 rfl
          dsimp only []
          go_wp2
          exact ⟨_, (by simp [Reg.upd, h24]), hW, Below.refl _ _, rfl⟩
        · intro o ho x w' hG hd
          injection ho with ho
          subst ho
          have hW : Below wr.heap.size wr w' := hG
          have h25 : x 42 = Value.bool false := hd 25 rfl
          dsimp only []
          go_wp2
          exact ⟨_, (by simp [Reg.upd, h25]), hW, Below.refl _ _, rfl⟩
        · intro o ho x w' hG hd
          injection ho with ho
          subst ho
          have hW : Below wr.heap.size wr w' := hG
          have h25 : x 42 = Value.bool false := hd 25 rfl
          dsimp only []
          go_wp2
          exact ⟨_, (by simp [Reg.upd, h25]), hW, Below.refl _ _, rfl⟩
        · intro o ho x w' hG hd
          injection ho with ho
          subst ho
          have hW : Below wr.heap.size wr w' := hG
          have h27 : x 44 = Value.int IntKind.i64 (i : Int) := hd 27 rfl
          have h25 : x 42 = Value.bool false := hd 25 rfl
          dsimp only []
          go_wp2
          exact ⟨_, (by simp [Reg.upd, h27, h25]), hW, Below.refl _ _, rfl⟩
        · intro o ho x w' hG hd
          injection ho with ho
          subst ho
          have hW : Below wr.heap.size wr w' := hG
          have h25 : x 42 = Value.bool false := hd 25 rfl
          dsimp only []
          go_wp2
          exact ⟨_, (by simp [Reg.upd, h25]), hW, Below.refl _ _, rfl⟩
        · intro o ho x w' hG hd
          injection ho with ho
          subst ho
          have hW : Below wr.heap.size wr w' := hG
          have h29 : x 46 = Value.int IntKind.i64 (i : Int) := hd 29 rfl
          have h25 : x 42 = Value.bool false := hd 25 rfl
          dsimp only []
          go_wp2
          exact ⟨_, (by simp [Reg.upd, h29, h25]), hW, Below.refl _ _, rfl⟩
        · intro o ho x w' hG hd
          injection ho with ho
          subst ho
          have hW : Below wr.heap.size wr w' := hG
          have h30 : x 47 = Value.int IntKind.i64 ((i : Int) % 2) := hd 30 rfl
          have h25 : x 42 = Value.bool false := hd 25 rfl
          dsimp only []
          go_wp2
          exact ⟨_, (by simp [Reg.upd, h30, h25]), hW, Below.refl _ _, rfl⟩
        · intro o ho x w' hG hd
          injection ho with ho
          subst ho
          have hW : Below wr.heap.size wr w' := hG
          have h26 : x 43 = Value.slice (some ⟨gb, 0, none⟩) 3 3 := hd 26 rfl
          have h28 : x 45 = Value.int IntKind.u16 (i : Int) := hd 28 rfl
          have h31 : x 48 = Value.bool ((i : Int) % 2 == 0) := hd 31 rfl
          have h25 : x 42 = Value.bool false := hd 25 rfl
          dsimp only []
          go_wp2_with (go_at_call 3; have HS := flips_b3 (i : Int) 0 (255 - (i : Int)) (i : Int) ((i : Int) % 2 == 0) w' (Kd.C_below HCB.out hW) (by omega) (by omega); (with_reducible refine HS.mono ?_); clear HS; rintro e1 w1 ⟨rfl, hb⟩)
          exact ⟨_, (by simp [Reg.upd, h26, h28, h31, h25]), below_step hW hb, hb, rfl⟩
        · intro o ho x w' hG hd
          injection ho with ho
          subst ho
          have hW : Below wr.heap.size wr w' := hG
          have h32 : x 49 = Value.bool true := hd 32 rfl
          have h25 : x 42 = Value.bool false := hd 25 rfl
          dsimp only []
          go_wp2
          exact ⟨_, (by simp [Reg.upd, h32, h25]), hW, Below.refl _ _, rfl⟩
        · intro o ho x w' hG hd
          injection ho with ho
          subst ho
          have hW : Below wr.heap.size wr w' := hG
          have h25 : x 42 = Value.bool false := hd 25 rfl
          have h33 : x 50 = Value.bool false := hd 33 rfl
          dsimp only []
          go_wp2
          exact ⟨_, (by simp [Reg.upd, h25, h33]), hW, Below.refl _ _, rfl⟩
        · intro o ho x w' hG hd
          injection ho with ho
          subst ho
          have hW : Below wr.heap.size wr w' := hG
          have h34 : x 51 = Value.bool false := hd 34 rfl
          dsimp only []
          go_wp2
          exact ⟨_, (by simp [Reg.upd, h34]), hW, Below.refl _ _, rfl⟩
        · intro o ho x w' hG hd
          injection ho with ho
          subst ho
          have hW : Below wr.heap.size wr w' := hG
          have h35 : x 52 = Value.bool false := hd 35 rfl
          dsimp only []
          go_wp2
          exact ⟨_, (by simp [Reg.upd, h35]), hW, Below.refl _ _, rfl⟩
        · intro o ho x w' hG hd
          injection ho with ho
          subst ho
          have hW : Below wr.heap.size wr w' := hG
          have h35 : x 52 = Value.bool false := hd 35 rfl
          dsimp only []
          go_wp2
          exact ⟨_, (by simp [Reg.upd, h35]), hW, Below.refl _ _, rfl⟩
        · intro o ho x w' hG hd
          injection ho with ho
          subst ho
          have hW : Below wr.heap.size wr w' := hG
          have h37 : x 54 = Value.int IntKind.i64 (i : Int) := hd 37 rfl
          have h35 : x 52 = Value.bool false := hd 35 rfl
          dsimp only []
          go_wp2
          exact ⟨_, (by simp [Reg.upd, h37, h35]), hW, Below.refl _ _, rfl⟩
        · intro o ho x w' hG hd
          injection ho with ho
          subst ho
          have hW : Below wr.heap.size wr w' := hG
          have h38 : x 55 = Value.int IntKind.u8 (i : Int) := hd 38 rfl
          have h35 : x 52 = Value.bool false := hd 35 rfl
          dsimp only []
          go_wp2_with ((with_reducible refine gate_dst (N := 56) rfl ?_); refine lit_event_g (N := 56) rfl (by go_simp) _ _ _ (build_run 22 5 4 #[Value.int IntKind.u8 1, Value.int IntKind.u8 2, Value.int IntKind.u8 3, Value.int IntKind.u8 (i : Int)] info5 Try.underlying22 _ rfl (by omega) (by omega) _ (fillI4 _ _ _ _) (by go_simp)) ?_; intro g _ w1 hbox hb)
          exact ⟨_, (by simp [Reg.upd, h38, h35]), below_step hW hb, hb, g, (i : Int), rfl, C_blk .u8 [1, 2, 3, (i : Int)] hbox rfl (by simp)⟩
        · intro o ho x w' hG hd
          injection ho with ho
          subst ho
          have hW : Below wr.heap.size wr w' := hG
          have h36 : x 53 = Value.slice (some ⟨gb, 0, none⟩) 3 3 := hd 36 rfl
          have h39 : ∃ (g : Nat) (c : Int), x 56 = Value.slice (some ⟨g, 0, none⟩) 4 4 ∧ Kd.C (Kd.int .u8) w' (some ⟨g, 0, none⟩) [1, 2, 3, c].length [1, 2, 3, c] := hd 39 rfl
          have h35 : x 52 = Value.bool false := hd 35 rfl
          dsimp only []
          obtain ⟨g, c, e, hC⟩ := h39
          go_wp2_with (go_at_call 4; have HS := xors_b3 (i : Int) 0 (255 - (i : Int)) 1 2 3 c w' (Kd.C_below HCB.out hW) hC; (with_reducible refine HS.mono ?_); clear HS; rintro e1 w1 ⟨rfl, hb⟩)
          exact ⟨_, (by simp [Reg.upd, h36, h35, e]), below_step hW hb, hb, rfl⟩
        · intro o ho x w' hG hd
          injection ho with ho
          subst ho
          have hW : Below wr.heap.size wr w' := hG
          have h40 : x 57 = Value.bool true := hd 40 rfl
          have h35 : x 52 = Value.bool false := hd 35 rfl
          dsimp only []
          go_wp2
          exact ⟨_, (by simp [Reg.upd, h40, h35]), hW, Below.refl _ _, rfl⟩
        · intro o ho x w' hG hd
          injection ho with ho
          subst ho
          have hW : Below wr.heap.size wr w' := hG
          have h35 : x 52 = Value.bool false := hd 35 rfl
          have h41 : x 58 = Value.bool false := hd 41 rfl
          dsimp only []
          go_wp2
          exact ⟨_, (by simp [Reg.upd, h35, h41]), hW, Below.refl _ _, rfl⟩
    · have c1 : decide ((i : Int) < 256) = false := decide_eq_false (by omega)
      go_wp2_with (first
        | (go_at_call 6; (with_reducible refine (sums_nil _).mono ?_); rintro e w1 ⟨rfl, hb⟩; have HB := Aside0.mk (below_step HB.out hb); clear hb)
        | (go_at_call 5; (with_reducible refine (parts_nil _).mono ?_); rintro e w1 ⟨rfl, hb⟩; have HB := Aside0.mk (below_step HB.out hb); clear hb)
        | (go_at_call 8; (with_reducible refine (chartroomlaw02_works.calls true _ rfl).mono ?_); rintro e w1 ⟨rfl, hb⟩; have HB := Aside0.mk (below_step HB.out hb); clear hb))
      go_ret
      exact ⟨rfl, HB.out⟩
end Go.Proofs.Ytdnfmcpphamicaa
