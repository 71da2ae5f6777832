/- clock: the clocks themselves: how they are made, asked, let go on; the greatest hand less the least one. -/
import Derived.Test.YtonchomjddhciaaNum
import Derived.Lib.SliceRun
import Derived.Deep.RegionWith
namespace Go.Proofs.Ytonchomjddhciaa.Clk
open Go.RowKit Go.Proofs.YtonchomjddhciaaW.PrintWords Go.Proofs.YtonchomjddhciaaW.PrintLast Go.Proofs.YtonchomjddhciaaW.PrintMore
set_option linter.unusedVariables false
set_option linter.unusedSimpArgs false

theorem own_empty (w : World) : (w.alloc (.cells #[] 22)).ownsRow w.heap.size 22 1 (.slice (some ⟨w.heap.size, 0, none⟩) 0 0) ([] : List Int).length (nums .u64 []) := World.ownsRow_made w #[] 0 (Nat.le_refl _) (by decide) rfl

/-- A row of the call's own that reads as l. -/
def Cloned (w : World) (l : List Int) (e : Ending) (w' : World) : Prop := ∃ v, e = .returned v ∧ Ow w' w.heap.size v l ∧ Below w.heap.size w w'

theorem clone_calls (A : Option Addr) (c : Nat) (l : List Int) (w : World) (hr : Rd w A l) (hl : l.length * 8 ≤ 140737488355328) :
    Calls Try.prog 24 #[.slice A l.length c] w (Cloned w l) := by
  cases A with
  | none =>
    obtain rfl := Rd.nil hr
    have HQ := fun w => Lib.run_eql_slice_nil (P := Try.prog) w 27 22 none 0 c 0 0 Try.underlying27
    clear hr
    go_enter Try.func24, Try.ntmps24
    go_wp2
    go_ret
    exact ⟨_, rfl, own_nil _ _ _ _, Below.refl _ _⟩
  | some ad =>
    have HQ := fun w => Lib.run_eql_slice_nil (P := Try.prog) w 27 22 (some ad) l.length c 0 0 Try.underlying27
    have HR := Aside0.mk hr
    clear hr
    go_enter Try.func24, Try.ntmps24
    go_wp2_with ((with_reducible refine gate_dst (N := 7) rfl ?_); refine print_append_row (w0 := w) w.heap.size rfl (.tmp 5) (.tmp 6) 27 22 .u64 8 rfl Try.underlying27 info22 (by decide) (.slice (some ⟨w.heap.size, 0, none⟩) 0 0) [] l (some ad) l.length c rfl rfl (own_empty w) (HR.out.below (below_alloc (Below.refl _ _) _)) (below_alloc (Below.refl _ _) _) (by simp) (by simpa using hl) ?_; intro v1 w1 hown hb _ _; have HO := Aside0.mk hown; have HB := Aside0.mk hb; clear hown hb)
    go_ret
    exact ⟨_, rfl, HO.out, HB.out⟩

/-- The clocks at g, whose hands are v. -/
abbrev Ck (w : World) (g : Nat) (v : Value) : Prop := w.heap[g]? = some (.cells #[v] 48 (0, 0))
/-- New clocks, whose hands read as l. -/
def Made (w : World) (l : List Int) (e : Ending) (w' : World) : Prop := ∃ g v, e = .returned (.pointer (some ⟨g, 0, none⟩)) ∧ w.heap.size ≤ g ∧ Ck w' g v ∧ Ow w' w.heap.size v l ∧ Below w.heap.size w w'

theorem of_calls (A : Option Addr) (c : Nat) (l : List Int) (w : World) (hr : Rd w A l) (hl : l.length * 8 ≤ 140737488355328) :
    Calls Try.prog 16 #[.slice A l.length c] w (Made w l) := by
  have HC := Aside0.mk (clone_calls A c l w hr hl)
  have HB := Aside0.mk (Below.refl w.heap.size w)
  have hu48 := Try.underlying48
  clear hr
  go_enter Try.func16, Try.ntmps16
  go_wp2_with (first
    | (go_at_call 24; (with_reducible refine HC.out.mono ?_); rintro e w1 ⟨v, rfl, ho, hb⟩; have HO := Aside0.mk ho; have HB := Aside0.mk hb; clear ho hb; obtain ⟨A1, c1, rfl, _⟩ := Ow.rd HO.out)
    | ((with_reducible refine gate_dst (N := 6) rfl ?_); refine box_event ?hg (N := 6) ?hd (cs := #[.slice A1 l.length c1]) (t := 48) ?hr ?_; (case hd => rfl); (case hg => rfl); (case hr => first | (go_simp; done) | (go_simp; rfl)); intro g hg w2 hbox hb; have HG := Aside0.mk (show w.heap.size ≤ g by rw [hg]; exact below_size HB.out); clear hg; have HB := Aside0.mk (below_step HB.out hb); have HO := Aside0.mk (pw_own_below HO.out hb); have HK := Aside0.mk hbox; clear hbox hb))
  go_ret
  exact ⟨_, _, rfl, HG.out, HK.out, HO.out, HB.out⟩

theorem has_none (p : Int) (w : World) : Calls Try.prog 23 #[.pointer none, .int .i64 p] w fun e w' => e = .returned (.bool false) ∧ w = w' := by
  go_enter Try.func23, Try.ntmps23
  go_wp2
  go_ret
  exact ⟨rfl, rfl⟩

theorem has_calls (g : Nat) (A : Option Addr) (n c : Nat) (p : Int) (w : World) (hk : Ck w g (.slice A n c)) (hn : n ≤ 9223372036854775807) :
    Calls Try.prog 23 #[.pointer (some ⟨g, 0, none⟩), .int .i64 p] w fun e w' => e = .returned (.bool (decide (0 ≤ p ∧ p < n))) ∧ w = w' := by
  have hx : w.cell? ⟨g, 0, none⟩ = some (.slice A n c) := (blk_cell hk 0).trans rfl
  clear hk
  by_cases h0 : 0 ≤ p
  · have c0 : decide (0 ≤ p) = true := decide_eq_true h0
    have HE := Aside0.mk (show decide (0 ≤ p ∧ p < n) = decide (p < n) by simp [h0])
    clear h0
    go_enter Try.func23, Try.ntmps23
    go_wp2
    go_ret
    exact ⟨by rw [HE.out]; rfl, rfl⟩
  · have c0 : decide (0 ≤ p) = false := decide_eq_false h0
    have HE := Aside0.mk (show decide (0 ≤ p ∧ p < n) = false by simp [h0])
    clear h0
    go_enter Try.func23, Try.ntmps23
    go_wp2
    go_ret
    exact ⟨by rw [HE.out]; rfl, rfl⟩

theorem read_none (p : Int) (w : World) : Calls Try.prog 9 #[.pointer none, .int .i64 p] w fun e w' => e = .returned (.int .u64 0) ∧ w = w' := by
  go_enter Try.func9, Try.ntmps9
  go_wp2_with (go_at_call 23; (with_reducible refine (has_none _ _).mono ?_); rintro e w1 ⟨rfl, rfl⟩)
  go_ret
  exact ⟨rfl, rfl⟩

theorem read_out (g : Nat) (A : Option Addr) (c : Nat) (l : List Int) (p : Int) (w : World) (hk : Ck w g (.slice A l.length c)) (hr : Rd w A l) (hp : ¬ (0 ≤ p ∧ p < l.length)) :
    Calls Try.prog 9 #[.pointer (some ⟨g, 0, none⟩), .int .i64 p] w fun e w' => e = .returned (.int .u64 0) ∧ w = w' := by
  have HC := Aside0.mk (has_calls g A l.length c p w hk hr.2.1)
  rw [show decide (0 ≤ p ∧ p < l.length) = false from decide_eq_false hp] at HC
  clear hk hr hp
  go_enter Try.func9, Try.ntmps9
  go_wp2_with (go_at_call 23; (with_reducible refine HC.out.mono ?_); rintro e w1 ⟨rfl, rfl⟩)
  go_ret
  exact ⟨rfl, rfl⟩

theorem read_in (g : Nat) (A : Option Addr) (c : Nat) (l : List Int) (k : Nat) (w : World) (hk : Ck w g (.slice A l.length c)) (hr : Rd w A l) (hp : k < l.length) :
    Calls Try.prog 9 #[.pointer (some ⟨g, 0, none⟩), .int .i64 (k : Int)] w fun e w' => e = .returned (.int .u64 (nth l k)) ∧ w = w' := by
  have hm := hr.2.1
  have HC := Aside0.mk (has_calls g A l.length c k w hk hm)
  rw [show decide (0 ≤ (k : Int) ∧ (k : Int) < l.length) = true from decide_eq_true (by omega)] at HC
  obtain ⟨ad, rfl, hx⟩ := hr.val k hp
  have h0 : w.cell? ⟨g, 0, none⟩ = some (.slice (some ad) l.length c) := (blk_cell hk 0).trans rfl
  have p1 : (k : Int) < (l.length : Int) := by omega
  clear hk hr hp
  go_enter Try.func9, Try.ntmps9
  go_wp2_with (go_at_call 23; (with_reducible refine HC.out.mono ?_); rintro e w1 ⟨rfl, rfl⟩)
  go_ret
  exact ⟨rfl, rfl⟩

theorem hands_none (w : World) : Calls Try.prog 10 #[.pointer none] w fun e w' => e = .returned (.slice none 0 0) ∧ w = w' := by
  go_enter Try.func10, Try.ntmps10
  go_wp2
  go_ret
  exact ⟨rfl, rfl⟩

theorem hands_calls (g : Nat) (A : Option Addr) (c : Nat) (l : List Int) (w : World) (hk : Ck w g (.slice A l.length c)) (hr : Rd w A l) (hl : l.length * 8 ≤ 140737488355328) :
    Calls Try.prog 10 #[.pointer (some ⟨g, 0, none⟩)] w (Cloned w l) := by
  have HC := Aside0.mk (clone_calls A c l w hr hl)
  have h0 : w.cell? ⟨g, 0, none⟩ = some (.slice A l.length c) := (blk_cell hk 0).trans rfl
  clear hk hr
  go_enter Try.func10, Try.ntmps10
  go_wp2_with (go_at_call 24; (with_reducible refine HC.out.mono ?_); rintro e w1 ⟨v, rfl, ho, hb⟩; have HO := Aside0.mk ho; have HB := Aside0.mk hb; clear ho hb)
  go_ret
  exact ⟨_, rfl, HO.out, HB.out⟩

theorem tick_none (p b : Int) (w : World) : Calls Try.prog 8 #[.pointer none, .int .i64 p, .int .u64 b] w fun e w' => e = .returned (.int .i64 1) ∧ w = w' := by
  go_enter Try.func8, Try.ntmps8
  go_wp2
  go_ret
  exact ⟨rfl, rfl⟩

theorem tick_out (g : Nat) (A : Option Addr) (n c : Nat) (p b : Int) (w : World) (hk : Ck w g (.slice A n c)) (hm : n ≤ 9223372036854775807) (hp : ¬ (0 ≤ p ∧ p < n)) :
    Calls Try.prog 8 #[.pointer (some ⟨g, 0, none⟩), .int .i64 p, .int .u64 b] w fun e w' => e = .returned (.int .i64 2) ∧ w = w' := by
  have HC := Aside0.mk (has_calls g A n c p w hk hm)
  rw [show decide (0 ≤ p ∧ p < n) = false from decide_eq_false hp] at HC
  clear hk hp
  go_enter Try.func8, Try.ntmps8
  go_wp2_with (go_at_call 23; (with_reducible refine HC.out.mono ?_); rintro e w1 ⟨rfl, rfl⟩)
  go_ret
  exact ⟨rfl, rfl⟩

/-- Two numbers that a row holds, together. -/
theorem sum_pair (x y : Int) (A : Option Addr) (w : World) (hr : Rd w A [x, y]) (hx0 : 0 ≤ x) (hx1 : x ≤ 18446744073709551615) (hy0 : 0 ≤ y) (hy1 : y ≤ 18446744073709551615) :
    Calls Try.prog 19 #[.slice A 2 2] w fun e w' => e = .returned (.int .u64 (sat x y)) ∧ w = w' := by
  have h := sum_calls A 2 [x, y] w hr (by intro z hz; simp at hz; rcases hz with rfl | rfl <;> omega)
  have e : sumTo [x, y] 2 = sat x y := by
    show sat (sat 0 x) y = _
    rw [show sat 0 x = x by unfold sat; rw [if_pos (by omega)]; omega]
  rw [show [x, y].length = 2 from rfl, e] at h
  exact h
theorem rd_lit (w : World) (l : List Int) (hl : l.length ≤ 9223372036854775807) : Rd (w.alloc (.cells (nums .u64 l).toArray 22)) (some ⟨w.heap.size, 0, none⟩) l :=
  (Ow.rd' (own_lit w w.heap.size 22 .u64 l (Nat.le_refl _) hl)).2
theorem sum_two (x y : Int) (w : World) (hx0 : 0 ≤ x) (hx1 : x ≤ 18446744073709551615) (hy0 : 0 ≤ y) (hy1 : y ≤ 18446744073709551615) :
    Calls Try.prog 19 #[.slice (some ⟨w.heap.size, 0, none⟩) 2 2] (w.alloc (.cells #[.int .u64 x, .int .u64 y] 22)) fun e w' => e = .returned (.int .u64 (sat x y)) ∧ w.alloc (.cells #[.int .u64 x, .int .u64 y] 22) = w' :=
  sum_pair x y _ _ (rd_lit w [x, y] (by simp)) hx0 hx1 hy0 hy1
theorem sum_two_drew (x y : Int) (w : World) (hx0 : 0 ≤ x) (hx1 : x ≤ 18446744073709551615) (hy0 : 0 ≤ y) (hy1 : y ≤ 18446744073709551615) :
    Calls Try.prog 19 #[.slice (some ⟨w.heap.size, 0, none⟩) 2 2] (w.alloc (.cells #[.int .u64 x, .int .u64 y] 22)).drew fun e w' => e = .returned (.int .u64 (sat x y)) ∧ (w.alloc (.cells #[.int .u64 x, .int .u64 y] 22)).drew = w' :=
  sum_pair x y _ _ ((rd_lit w [x, y] (by simp)).below (below_drew (Below.refl _ _))) hx0 hx1 hy0 hy1

def Ticked (w : World) (b h : Nat) (v : Value) (l : List Int) (e : Ending) (w' : World) : Prop := e = .returned (.int .i64 0) ∧ Ow w' b v l ∧ w.grownBy w' (some h)

theorem ticked_own {w : World} {b h n c : Nat} {l : List Int} (ho : Ow w b (.slice (some ⟨h, 0, none⟩) n c) l) (k : Nat) (x : Int) (o : Obj) :
    Ow ((w.setCell ⟨h, k, none⟩ (.int .u64 x)).alloc o).drew b (.slice (some ⟨h, 0, none⟩) n c) (l.set k x) ∧ w.grownBy ((w.setCell ⟨h, k, none⟩ (.int .u64 x)).alloc o).drew (some h) := by
  obtain ⟨e, _⟩ := Ow.rd' ho
  subst e
  have h1 := own_store ho (k : Int) x
  rw [Int.toNat_natCast] at h1
  have hb : Below (w.setCell ⟨h, k, none⟩ (.int .u64 x)).heap.size (w.setCell ⟨h, k, none⟩ (.int .u64 x)) ((w.setCell ⟨h, k, none⟩ (.int .u64 x)).alloc o).drew := below_drew (below_alloc (Below.refl _ _) _)
  refine ⟨?_, ?_⟩
  · have h2 := pw_own_below h1.1 hb
    show World.ownsRow _ _ _ _ _ (l.set k x).length _
    rw [List.length_set]
    exact h2
  · exact h1.2.trans (grown_of_below hb (some h))

set_option maxHeartbeats 1000000 in
theorem tick_in (g h : Nat) (c : Nat) (l : List Int) (k b : Nat) (y : Int) (w : World) (hk : Ck w g (.slice (some ⟨h, 0, none⟩) l.length c)) (ho : Ow w b (.slice (some ⟨h, 0, none⟩) l.length c) l) (hp : k < l.length) (hu : U l) (hy0 : 0 ≤ y) (hy1 : y ≤ 18446744073709551615) :
    Calls Try.prog 8 #[.pointer (some ⟨g, 0, none⟩), .int .i64 (k : Int), .int .u64 y] w (Ticked w b h (.slice (some ⟨h, 0, none⟩) l.length c) (l.set k (sat (nth l k) y))) := by
  have hr := (Ow.rd' ho).2
  have hm := hr.2.1
  have HC := Aside0.mk (has_calls g (some ⟨h, 0, none⟩) l.length c k w hk hm)
  rw [show decide (0 ≤ (k : Int) ∧ (k : Int) < l.length) = true from decide_eq_true (by omega)] at HC
  obtain ⟨ad, e, hx⟩ := hr.val k hp
  cases e
  have h0 : w.cell? ⟨g, 0, none⟩ = some (.slice (some ⟨h, 0, none⟩) l.length c) := (blk_cell hk 0).trans rfl
  have p1 : (k : Int) < (l.length : Int) := by omega
  have q := hu.at k
  have HS := Aside0.mk (sum_two_drew (nth l k) y w q.1 q.2 hy0 hy1)
  have HO := Aside0.mk ho
  rw [add_plain] at hx
  have hf : w.frozen? ⟨h, k, none⟩ = false := by
    have := (own_at ho (k : Int) (by omega) p1).2
    simpa using this
  have hlt : h < w.heap.size := own_lt ho h rfl
  have hgt : g < w.heap.size := blk_lt hk
  clear hk hr hp ho q hu
  go_enter Try.func8, Try.ntmps8
  go_wp2_with (go_at_call 23; (with_reducible refine HC.out.mono ?_); rintro e w1 ⟨rfl, rfl⟩)
  go_region_with (go_at_call 19; (with_reducible refine HS.out.mono ?_); rintro e w1 ⟨rfl, rfl⟩)
  all_goals
    go_wp2
    go_ret
    exact ⟨rfl, ticked_own HO.out k _ _⟩
end Go.Proofs.Ytonchomjddhciaa.Clk
