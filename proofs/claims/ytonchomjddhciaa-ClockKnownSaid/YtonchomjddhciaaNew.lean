/- clock: new clocks; the laws at the literals of the closed statement. -/
import Derived.Test.YtonchomjddhciaaLits
import Derived.Test.YtonchomjddhciaaNone
import Derived.Test.YtonchomjddhciaaPast
import Derived.Test.YtonchomjddhciaaPlays
namespace Go.Proofs.Ytonchomjddhciaa.Clk
open Go.RowKit Go.Proofs.YtonchomjddhciaaW.PrintWords Go.Proofs.YtonchomjddhciaaW.PrintLast Go.Proofs.YtonchomjddhciaaW.PrintMore
set_option linter.unusedVariables false
set_option linter.unusedSimpArgs false
attribute [local go_sem] max2_int max_two

theorem new3_calls (w : World) : Calls Try.prog 14 #[.int .i64 3] w (Made w [0, 0, 0]) := by
  have hmk : ∀ W : World, (Instr.makeSlice 27 (.int .i64 3) (.int .i64 3)).run Try.prog W = .ok (.slice (some ⟨W.heap.size, 0, none⟩) 3 3) (W.alloc (.cells (madeCells #[.int .u64 0] 3) 22)) := print_make 27 22 .u64 8 Try.underlying27 info22 (by decide) 3 (by decide)
  have HO := Aside0.mk (own_made w w.heap.size 22 .u64 3 (Nat.le_refl _) (by decide))
  have hu48 := Try.underlying48
  have HB := Aside0.mk (below_alloc (Below.refl w.heap.size w) (.cells (madeCells #[.int .u64 0] 3) 22))
  go_enter Try.func14, Try.ntmps14
  go_wp2_with ((with_reducible refine gate_dst (N := 7) rfl ?_); refine box_event ?hg (N := 7) ?hd (cs := #[.slice (some ⟨w.heap.size, 0, none⟩) 3 3]) (t := 48) ?hr ?_; (case hd => rfl); (case hg => rfl); (case hr => first | (go_simp; done) | (go_simp; rfl)); intro g hg w2 hbox hb; have HG := Aside0.mk (show w.heap.size ≤ g by rw [hg]; exact below_size HB.out); clear hg; have HB := Aside0.mk (below_step HB.out hb); have HO := Aside0.mk (pw_own_below HO.out hb); have HK := Aside0.mk hbox; clear hbox hb)
  go_ret
  exact ⟨_, _, rfl, HG.out, HK.out, HO.out, HB.out⟩

theorem newneg_calls (w : World) : Calls Try.prog 14 #[.int .i64 (-1)] w (Made w []) := by
  have hmk : ∀ W : World, (Instr.makeSlice 27 (.int .i64 0) (.int .i64 0)).run Try.prog W = .ok (.slice (some ⟨W.heap.size, 0, none⟩) 0 0) (W.alloc (.cells (madeCells #[.int .u64 0] 0) 22)) := print_make 27 22 .u64 8 Try.underlying27 info22 (by decide) 0 (by decide)
  have HO := Aside0.mk (own_made w w.heap.size 22 .u64 0 (Nat.le_refl _) (by decide))
  have hu48 := Try.underlying48
  have HB := Aside0.mk (below_alloc (Below.refl w.heap.size w) (.cells (madeCells #[.int .u64 0] 0) 22))
  go_enter Try.func14, Try.ntmps14
  go_wp2_with ((with_reducible refine gate_dst (N := 7) rfl ?_); refine box_event ?hg (N := 7) ?hd (cs := #[.slice (some ⟨w.heap.size, 0, none⟩) 0 0]) (t := 48) ?hr ?_; (case hd => rfl); (case hg => rfl); (case hr => first | (go_simp; done) | (go_simp; rfl)); intro g hg w2 hbox hb; have HG := Aside0.mk (show w.heap.size ≤ g by rw [hg]; exact below_size HB.out); clear hg; have HB := Aside0.mk (below_step HB.out hb); have HO := Aside0.mk (pw_own_below HO.out hb); have HK := Aside0.mk hbox; clear hbox hb)
  go_ret
  exact ⟨_, _, rfl, HG.out, HK.out, HO.out, HB.out⟩

/-- Hands of new clocks. -/
theorem hands_made {w : World} {b g : Nat} {A : Option Addr} {n c : Nat} {l : List Int} (hk : Ck w g (.slice A n c)) (ho : Ow w b (.slice A n c) l) (hl : l.length ≤ 70) : Calls Try.prog 10 #[.pointer (some ⟨g, 0, none⟩)] w (Cloned w l) := by
  obtain ⟨e, hr⟩ := Ow.rd' ho
  subst e
  exact hands_calls g A c l w hk hr (by omega)

theorem rd_nil (w : World) : Rd w none [] := ⟨rfl, by simp, fun h => absurd h (by simp)⟩
theorem sums_nil (w : World) : Calls Try.prog 6 #[.slice none 0 0, .int .u64 0, .int .u64 0, .int .u64 0] w (Right w) :=
  sums_walk none 0 [] 0 0 0 w (rd_nil w) (fun x hx => by cases hx) (by decide) (by decide) (by decide) (by decide)
theorem plays_nil (w : World) : Calls Try.prog 5 #[.slice none 0 0, .slice none 0 0, .int .u64 0] w (Right w) :=
  plays_walk none none 0 0 [] [] 0 w (rd_nil w) (fun x hx => by cases hx) ⟨by simp, fun h => absurd h (by simp)⟩ (fun j => by simp [actB])
theorem none_nil (w : World) : Calls Try.prog 3 #[.int .i64 0, .int .u64 0] w (Right w) := none_walk 0 0 w (by decide)
theorem same_nil {w : World} {b c : Nat} {A A' : Option Addr} {c' : Nat} (ho : Ow w b (.slice A 3 c) [0, 0, 0]) (hr : Rd w A' [0, 0, 0]) : Calls Try.prog 15 #[.slice A 3 c, .slice A' 3 c'] w fun e w' => e = .returned (.bool true) ∧ Drawn0 w w' :=
  same_calls A A' c c' [0, 0, 0] w (Ow.rd' ho).2 hr

/-- A number that fits. -/
structure Fit (x : Int) : Prop where
  lo : 0 ≤ x
  hi : x ≤ 18446744073709551615
theorem fit5 : Fit 5 := ⟨by decide, by decide⟩
theorem sums_lit {w : World} {g : Nat} {a b c : Int} (h : Rd w (some ⟨g, 0, none⟩) [a, b, c]) (ha : Fit a) (hb : Fit b) (hc : Fit c) :
    Calls Try.prog 6 #[.slice (some ⟨g, 0, none⟩) 3 3, .int .u64 a, .int .u64 b, .int .u64 c] w (Right w) :=
  sums_walk _ 3 [a, b, c] a b c w h (u_three ha.lo ha.hi hb.lo hb.hi hc.lo hc.hi) hb.lo hb.hi hc.lo hc.hi
theorem past_lit {w : World} {g : Nat} {a b c p : Int} (h : Rd w (some ⟨g, 0, none⟩) [a, b, 5]) (ha : Fit a) (hb : Fit b) (hc : Fit c) :
    Calls Try.prog 7 #[.slice (some ⟨g, 0, none⟩) 3 3, .int .i64 p, .int .u64 c, .int .u64 b, .int .u64 a] w (Right w) :=
  past_walk _ 3 [a, b, 5] p c b a w h (by simp) (u_three ha.lo ha.hi hb.lo hb.hi fit5.lo fit5.hi) hc.lo hc.hi hb.lo hb.hi ha.lo ha.hi
theorem plays_lit {w : World} {g h : Nat} {a b c p : Int} (hr : Rd w (some ⟨g, 0, none⟩) [a, b]) (hA : RdA w (some ⟨h, 0, none⟩) [(p, c), (1, a)]) (ha : Fit a) (hb : Fit b) (hc : Fit c) :
    Calls Try.prog 5 #[.slice (some ⟨g, 0, none⟩) 2 2, .slice (some ⟨h, 0, none⟩) 2 2, .int .u64 c] w (Right w) :=
  plays_walk _ _ 2 2 [a, b] [(p, c), (1, a)] c w hr (u_two ha.lo ha.hi hb.lo hb.hi) hA (ua_two hc.lo hc.hi ha.lo ha.hi)

def vals : List Int := [0, 1, 2, 9223372036854775807, 9223372036854775808, 18446744073709551614, 18446744073709551615]
theorem vals_fit (i : Nat) (hi : i < 7) : Fit (nth vals i) := by
  match i, hi with
  | 0, _ | 1, _ | 2, _ | 3, _ | 4, _ | 5, _ | 6, _ => exact ⟨by decide, by decide⟩
end Go.Proofs.Ytonchomjddhciaa.Clk
