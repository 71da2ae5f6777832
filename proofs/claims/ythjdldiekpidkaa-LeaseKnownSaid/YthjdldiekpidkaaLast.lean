import Derived.Test.YthjdldiekpidkaaHand

namespace Go.Proofs.Ythjdldiekpidkaa
open Go.RowKit Go.Proofs.YthjdldiekpidkaaW.PrintWords Go.Proofs.YthjdldiekpidkaaW.PrintLast Go.Proofs.YthjdldiekpidkaaW.PrintMore
open Pl
set_option linter.unusedVariables false
set_option linter.unusedSimpArgs false

theorem lastAt_succ (l : List S24) (k : Nat) : lastAt l (k + 1) = if k = 0 ∨ (lastAt l k).f0 < (rd_T24 l k).f0 then rd_T24 l k else lastAt l k := rfl

set_option maxHeartbeats 2000000 in
set_option maxRecDepth 100000 in
theorem last_walk (A : Option Addr) (l : List S24) (cap : Nat) (w : World) (hC : Kd.C k24 w A l.length l) (hcap : l.length ≤ cap) (hmax : l.length ≤ 1000000) :
    Calls Try.prog 27 #[.slice A l.length cap] w fun e w' => e = .returned (.agg #[Value.int .u64 (lastAt l l.length).f0, .int .u64 (lastAt l l.length).f1, .int .u64 (lastAt l l.length).f2, .int .u64 (lastAt l l.length).f3, .bool (lastAt l l.length).f4]) ∧ Below w.heap.size w w' := by
  have hu24 := Try.underlying24
  have hu50 := Try.underlying50
  have hmf : ∀ (fn : Fn) (first cap : Array Value) (w : World), (Instr.makeFunc fn first cap).run Try.prog w = .ok (.func fn first cap) w := fun _ _ _ _ => rfl
  have HC := Aside0.mk hC
  clear hC
  have HB := Aside0.mk (Below.refl w.heap.size w)
  go_enter Try.func27, Try.ntmps27
  go_wp2_with (((with_reducible refine gate_dst (N := 2) rfl ?_); refine box_event ?hg (N := 2) ?hd (cs := #[.int .u64 0, .int .u64 0, .int .u64 0, .int .u64 0, .bool false]) (t := 24) ?hr ?_; (case hd => rfl); (case hg => rfl); (case hr => first | (go_simp; done) | (go_simp; rfl)); intro g2 hg w2 hbox hb; have HG := Aside0.mk (show w.heap.size ≤ g2 by rw [hg]; exact Nat.le_refl _); have HB := Aside0.mk (below_step HB.out hb); have H2 := Aside0.mk hbox; clear hbox hb hg))
  go_loopg [8] l.length (fun kq v8 w' => ∃ i : Nat, v8 = .int .i64 (i : Int) ∧ Aside0 (i + kq = l.length) ∧ Aside0 (w'.heap[g2]? = some (.cells #[Value.int .u64 (lastAt l i).f0, .int .u64 (lastAt l i).f1, .int .u64 (lastAt l i).f2, .int .u64 (lastAt l i).f3, .bool (lastAt l i).f4] 24 (0, 0))) ∧ Aside0 (Below w.heap.size w w'))
  case atStart => exact ⟨0, rfl, ⟨by omega⟩, H2, HB⟩
  case round =>
    clear HB H2
    obtain ⟨i, rfl, HK, H2, HB⟩ := hrel
    by_cases hlt : i < l.length
    · have c1 : decide ((i : Int) < l.length) = true := decide_eq_true (by omega)
      cases gk with
      | zero => exact absurd HK.out (by omega)
      | succ k1 =>
      obtain ⟨ad, rfl, hx0, hx1, hx2, hx3, hx4⟩ := at_T24 (Kd.C_below HC.out HB.out) (i : Int) (by omega) (by omega)
      rw [Int.toNat_natCast] at hx0 hx1 hx2 hx3 hx4
      go_upto_region 4 with (first | ((with_reducible refine gate_dst (N := 4) rfl ?_); refine box_event ?hg (N := 4) ?hd (cs := #[.int .u64 0, .int .u64 0, .int .u64 0, .int .u64 0, .bool false]) (t := 24) ?hr ?_; (case hd => rfl); (case hg => rfl); (case hr => first | (go_simp; done) | (go_simp; rfl)); intro g4 hg w4 hbox hb; have HG4 := Aside0.mk (show w.heap.size ≤ g4 by rw [hg]; exact below_size HB.out); have HN := Aside0.mk (show g2 ≠ g4 by rw [hg]; exact Nat.ne_of_lt (blk_lt H2.out)); have HB := Aside0.mk (below_step HB.out hb); have H2 := Aside0.mk (blk_below H2.out hb); have H4 := Aside0.mk hbox; clear hbox hb hg hx0 hx1 hx2 hx3 hx4) | ((with_reducible refine gate_ (.store 24 (.tmp 4) (.tmp 12)) rfl ?_); refine storeN_event (g := g4) (new := #[Value.int .u64 (rd_T24 l ↑i).f0, .int .u64 (rd_T24 l ↑i).f1, .int .u64 (rd_T24 l ↑i).f2, .int .u64 (rd_T24 l ↑i).f3, .bool (rd_T24 l ↑i).f4]) rfl rfl rfl ?ha ?hx H4.out ?ht rfl ?h1 ?_; (case ha => rfl); (case hx => rfl); (case ht => kernel_rfl); (case h1 => simp [Value.oneCell']); intro W1 hW hfar hbel; have HB := Aside0.mk (hbel w HB.out HG4.out); have H2 := Aside0.mk ((hfar g2 HN.out).trans H2.out); have H4 := Aside0.mk hW; clear hW hfar hbel))
      have hcx0 : W1.cell? ⟨g2, 0, none⟩ = some (.int .u64 (lastAt l i).f0) := (blk_cell H2.out 0).trans rfl
      have hcx1 : W1.cell? ⟨g2, 1, none⟩ = some (.int .u64 (lastAt l i).f1) := (blk_cell H2.out 1).trans rfl
      have hcx2 : W1.cell? ⟨g2, 2, none⟩ = some (.int .u64 (lastAt l i).f2) := (blk_cell H2.out 2).trans rfl
      have hcx3 : W1.cell? ⟨g2, 3, none⟩ = some (.int .u64 (lastAt l i).f3) := (blk_cell H2.out 3).trans rfl
      have hcx4 : W1.cell? ⟨g2, 4, none⟩ = some (.bool (lastAt l i).f4) := (blk_cell H2.out 4).trans rfl
      have hcy0 : W1.cell? ⟨g4, 0, none⟩ = some (.int .u64 (rd_T24 l ↑i).f0) := (blk_cell H4.out 0).trans rfl
      have hcy1 : W1.cell? ⟨g4, 1, none⟩ = some (.int .u64 (rd_T24 l ↑i).f1) := (blk_cell H4.out 1).trans rfl
      have hcy2 : W1.cell? ⟨g4, 2, none⟩ = some (.int .u64 (rd_T24 l ↑i).f2) := (blk_cell H4.out 2).trans rfl
      have hcy3 : W1.cell? ⟨g4, 3, none⟩ = some (.int .u64 (rd_T24 l ↑i).f3) := (blk_cell H4.out 3).trans rfl
      have hcy4 : W1.cell? ⟨g4, 4, none⟩ = some (.bool (rd_T24 l ↑i).f4) := (blk_cell H4.out 4).trans rfl
      by_cases hz : i = 0
      · subst hz
        go_wp2_with (((with_reducible refine gate_ (.store 24 (.tmp 2) (.tmp 22)) rfl ?_); refine storeN_event (g := g2) (new := #[Value.int .u64 (rd_T24 l 0).f0, .int .u64 (rd_T24 l 0).f1, .int .u64 (rd_T24 l 0).f2, .int .u64 (rd_T24 l 0).f3, .bool (rd_T24 l 0).f4]) rfl rfl rfl ?ha ?hx H2.out ?ht rfl ?h1 ?_; (case ha => rfl); (case hx => rfl); (case ht => kernel_rfl); (case h1 => simp [Value.oneCell']); intro W2 hW hfar hbel; have HB := Aside0.mk (hbel w HB.out HG.out); have H2 := Aside0.mk hW; clear hW hfar hbel hcx0 hcx1 hcx2 hcx3 hcx4 hcy0 hcy1 hcy2 hcy3 hcy4))
        go_roundg k1
        case measure => omega
        case rel => exact ⟨1, rfl, ⟨by have := HK.out; omega⟩, ⟨by rw [show lastAt l 1 = rd_T24 l 0 from rfl]; exact H2.out⟩, HB⟩
      · have c2 : ((i : Int) == 0) = false := beq_eq_false_iff_ne.mpr (by omega)
        by_cases hl : (lastAt l i).f0 < (rd_T24 l ↑i).f0
        · have c3 : decide ((lastAt l i).f0 < (rd_T24 l ↑i).f0) = true := decide_eq_true hl
          go_wp2_with (first | (go_at_call 32; have HS := later_calls (lastAt l i) (rd_T24 l ↑i) W1; (with_reducible refine HS.mono ?_); clear HS; rintro e1 w3 ⟨rfl, hb⟩; clear hcx0 hcx1 hcx2 hcx3 hcx4 hcy0 hcy1 hcy2 hcy3 hcy4; have HB := Aside0.mk (below_step HB.out hb); have H2 := Aside0.mk (blk_below H2.out hb); have H4 := Aside0.mk (blk_below H4.out hb); clear hb; have hcy0 : w3.cell? ⟨g4, 0, none⟩ = some (Value.int .u64 (rd_T24 l ↑i).f0) := (blk_cell H4.out 0).trans rfl; have hcy1 : w3.cell? ⟨g4, 1, none⟩ = some (.int .u64 (rd_T24 l ↑i).f1) := (blk_cell H4.out 1).trans rfl; have hcy2 : w3.cell? ⟨g4, 2, none⟩ = some (.int .u64 (rd_T24 l ↑i).f2) := (blk_cell H4.out 2).trans rfl; have hcy3 : w3.cell? ⟨g4, 3, none⟩ = some (.int .u64 (rd_T24 l ↑i).f3) := (blk_cell H4.out 3).trans rfl; have hcy4 : w3.cell? ⟨g4, 4, none⟩ = some (.bool (rd_T24 l ↑i).f4) := (blk_cell H4.out 4).trans rfl; ) | ((with_reducible refine gate_ (.store 24 (.tmp 2) (.tmp 22)) rfl ?_); refine storeN_event (g := g2) (new := #[Value.int .u64 (rd_T24 l ↑i).f0, .int .u64 (rd_T24 l ↑i).f1, .int .u64 (rd_T24 l ↑i).f2, .int .u64 (rd_T24 l ↑i).f3, .bool (rd_T24 l ↑i).f4]) rfl rfl rfl ?ha ?hx H2.out ?ht rfl ?h1 ?_; (case ha => rfl); (case hx => rfl); (case ht => kernel_rfl); (case h1 => simp [Value.oneCell']); intro W2 hW hfar hbel; have HB := Aside0.mk (hbel w HB.out HG.out); have H2 := Aside0.mk hW; clear hW hfar hbel hcy0 hcy1 hcy2 hcy3 hcy4))
          go_roundg k1
          case measure => omega
          case rel => exact ⟨i + 1, by go_num, ⟨by have := HK.out; omega⟩, ⟨by rw [lastAt_succ, if_pos (.inr hl)]; exact H2.out⟩, HB⟩
        · have c3 : decide ((lastAt l i).f0 < (rd_T24 l ↑i).f0) = false := decide_eq_false hl
          go_wp2_with ((go_at_call 32; have HS := later_calls (lastAt l i) (rd_T24 l ↑i) W1; (with_reducible refine HS.mono ?_); clear HS; rintro e1 w3 ⟨rfl, hb⟩; clear hcx0 hcx1 hcx2 hcx3 hcx4 hcy0 hcy1 hcy2 hcy3 hcy4; have HB := Aside0.mk (below_step HB.out hb); have H2 := Aside0.mk (blk_below H2.out hb); have H4 := Aside0.mk (blk_below H4.out hb); clear hb; have hcy0 : w3.cell? ⟨g4, 0, none⟩ = some (Value.int .u64 (rd_T24 l ↑i).f0) := (blk_cell H4.out 0).trans rfl; have hcy1 : w3.cell? ⟨g4, 1, none⟩ = some (.int .u64 (rd_T24 l ↑i).f1) := (blk_cell H4.out 1).trans rfl; have hcy2 : w3.cell? ⟨g4, 2, none⟩ = some (.int .u64 (rd_T24 l ↑i).f2) := (blk_cell H4.out 2).trans rfl; have hcy3 : w3.cell? ⟨g4, 3, none⟩ = some (.int .u64 (rd_T24 l ↑i).f3) := (blk_cell H4.out 3).trans rfl; have hcy4 : w3.cell? ⟨g4, 4, none⟩ = some (.bool (rd_T24 l ↑i).f4) := (blk_cell H4.out 4).trans rfl; ))
          go_roundg k1
          case measure => omega
          case rel => exact ⟨i + 1, by go_num, ⟨by have := HK.out; omega⟩, ⟨by rw [lastAt_succ, if_neg (by rintro (h | h); exact hz h; exact absurd h (by omega))]; exact H2.out⟩, HB⟩
    · have c1 : decide ((i : Int) < l.length) = false := decide_eq_false (by omega)
      have e : i = l.length := by have := HK.out; omega
      subst e
      have hcx0 : wr.cell? ⟨g2, 0, none⟩ = some (Value.int .u64 (lastAt l l.length).f0) := (blk_cell H2.out 0).trans rfl
      have hcx1 : wr.cell? ⟨g2, 1, none⟩ = some (.int .u64 (lastAt l l.length).f1) := (blk_cell H2.out 1).trans rfl
      have hcx2 : wr.cell? ⟨g2, 2, none⟩ = some (.int .u64 (lastAt l l.length).f2) := (blk_cell H2.out 2).trans rfl
      have hcx3 : wr.cell? ⟨g2, 3, none⟩ = some (.int .u64 (lastAt l l.length).f3) := (blk_cell H2.out 3).trans rfl
      have hcx4 : wr.cell? ⟨g2, 4, none⟩ = some (.bool (lastAt l l.length).f4) := (blk_cell H2.out 4).trans rfl
      go_wp2_with (((with_reducible refine gate_ (.store 24 (.tmp 2) (.tmp 24)) rfl ?_); refine storeN_event (g := g2) (new := #[Value.int .u64 (lastAt l l.length).f0, .int .u64 (lastAt l l.length).f1, .int .u64 (lastAt l l.length).f2, .int .u64 (lastAt l l.length).f3, .bool (lastAt l l.length).f4]) rfl rfl rfl ?ha ?hx H2.out ?ht rfl ?h1 ?_; (case ha => rfl); (case hx => rfl); (case ht => kernel_rfl); (case h1 => simp [Value.oneCell']); intro W2 hW hfar hbel; have HB := Aside0.mk (hbel w HB.out HG.out); have H2 := Aside0.mk hW; clear hW hfar hbel hcx0 hcx1 hcx2 hcx3 hcx4))
      refine bodyPost_ret (results_cell_row rfl _ _ g2 24 #[Value.int .u64 (lastAt l l.length).f0, .int .u64 (lastAt l l.length).f1, .int .u64 (lastAt l l.length).f2, .int .u64 (lastAt l l.length).f3, .bool (lastAt l l.length).f4] (0, 0) _ rfl H2.out Try.underlying24 rfl (by kernel_rfl)) rfl ?_
      exact ⟨rfl, HB.out⟩
end Go.Proofs.Ythjdldiekpidkaa
