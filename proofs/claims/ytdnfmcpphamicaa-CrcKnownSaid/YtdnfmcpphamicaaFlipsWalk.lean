/- CrcFlips' walk: bytes with one binary digit another one, or two next to one another, have another check; for every slice that can be read. -/
import Derived.Test.YtdnfmcpphamicaaWorks
import Derived.Test.YtdnfmcpphamicaaFlip
namespace Go.Proofs.Ytdnfmcpphamicaa
open Go.RowKit Go.Proofs.YtdnfmcpphamicaaW.PrintWords Go.Proofs.YtdnfmcpphamicaaW.PrintLast Go.Proofs.YtdnfmcpphamicaaW.PrintMore
open Go.Proofs.Ytdnfmcpphamicaa.Crc Go.Proofs.Ytdnfmcpphamicaa.Pc

theorem flip_cell {W : World} {base g cap : Nat} {l : List Int} {k : Nat} {ok : Nat → Prop} (h : Kd.R (Kd.int .u8) 5 W base ok (.slice (some ⟨g, 0, none⟩) k cap) l) (n : Nat) :
    Kd.R (Kd.int .u8) 5 (W.setCell ⟨g, n / 8, none⟩ (.int .u8 (Go.bits .xor .u8 (rdOf 0 l ((n / 8 : Nat) : Int)) (2 ^ (n % 8) % 256)))) base ok (.slice (some ⟨g, 0, none⟩) k cap) (flip1 l n) := by
  have h1 := Kd.R_putn h ((n / 8 : Nat) : Int) (Go.bits .xor .u8 (rdOf 0 l ((n / 8 : Nat) : Int)) (2 ^ (n % 8) % 256))
  rw [Int.toNat_natCast] at h1
  exact h1

/-- The check of a row of the call's own, which a literal holds. -/
theorem sum_own {g : Nat} {t : TypeId} {A : Option Addr} {n c : Nat} {base : Nat} {ok : Nat → Prop} (l : List Int) (w : World) (h : w.heap[g]? = some (.cells #[.slice A n c] t (0, 0))) (ho : Kd.R (Kd.int .u8) 5 w base ok (.slice A n c) l) :
    Calls Try.prog 9 #[.slice (some ⟨g, 0, none⟩) 1 1] w fun e w' => e = .returned (.int .u32 (n32 (sum [l]))) ∧ Below w.heap.size w w' := by
  obtain ⟨h1, h2, h3⟩ := Kd.R_reads' ho
  exact sum_one l _ w h h1 (by omega) h3 rfl

def Right (w : World) (e : Ending) (w' : World) : Prop := e = .returned (.bool true) ∧ Below w.heap.size w w'

set_option maxHeartbeats 400000 in
set_option maxRecDepth 100000 in
theorem flips_walk (A : Option Addr) (c1 : Nat) (l : List Int) (at_ : Int) (two : Bool) (w : World) (hr : Kd.C (Kd.int .u8) w A l.length l) (hc : l.length ≤ c1) (ha0 : 0 ≤ at_) (ha1 : at_ ≤ 65535) :
    Calls Try.prog 3 #[.slice A l.length c1, .int .u16 at_, .bool two] w (Right w) := by
  have HR := Aside0.mk hr
  have HC := Aside0.mk hc
  have HB := Aside0.mk (Below.refl w.heap.size w)
  clear hr hc
  by_cases h0 : l.length = 0
  · have c0 : ((l.length : Int) == 0) = true := beq_iff_eq.mpr (by omega)
    have c0' : ((l.length : Int) != 0) = false := bne_eq_false_iff_eq.mpr (by omega)
    clear h0
    go_enter Try.func3, Try.ntmps3
    go_wp2_with (go_at_call 8; (with_reducible refine (chartroomlaw02_works.calls true _ rfl).mono ?_); rintro e w1 ⟨rfl, hb⟩; have HB := Aside0.mk (below_step HB.out hb); clear hb)
    go_ret
    exact ⟨rfl, HB.out⟩
  · have c0 : ((l.length : Int) == 0) = false := beq_eq_false_iff_ne.mpr (by omega)
    have c0' : ((l.length : Int) != 0) = true := bne_iff_ne.mpr (by omega)
    by_cases h1 : 300 < l.length
    · have c2 : decide (300 < (l.length : Int)) = true := decide_eq_true (by omega)
      have c3 : decide (300 < l.length) = true := decide_eq_true h1
      clear h0 h1
      go_enter Try.func3, Try.ntmps3
      go_wp2_with (go_at_call 8; (with_reducible refine (chartroomlaw02_works.calls true _ rfl).mono ?_); rintro e w1 ⟨rfl, hb⟩; have HB := Aside0.mk (below_step HB.out hb); clear hb)
      go_ret
      exact ⟨rfl, HB.out⟩
    · have c2 : decide (300 < (l.length : Int)) = false := decide_eq_false (by omega)
      have c3 : decide (300 < l.length) = false := decide_eq_false h1
      have p1 : 0 < l.length := by omega
      have p2 : l.length ≤ 300 := by omega
      clear h0 h1
      go_enter Try.func3, Try.ntmps3
      go_wp2_with (first
        | ((with_reducible refine gate_dst (N := 26) rfl ?_); refine Kd.R_append_rows (Kd.int .u8) (w0 := w) w.heap.size rfl (.tmp 24) (.tmp 25) 22 5 (.int .u8 0) 1 rfl Try.underlying22 info5 rfl (by decide) (by omega) (.slice none 0 0) ([] : List Int) l _ _ _ (fun _ => True) (fun _ => False) rfl rfl (Kd.R_nil _ _ _ _ (fun _ => True)) HR.out (fun _ _ h => h) (fun _ h => h.elim) (fun _ _ => trivial) HB.out (Nat.le_refl _) (by simp; omega) ?_; intro v1 w1 hown hb _ _; have HO := Aside0.mk hown; have HB := Aside0.mk hb; clear hown hb))
      have HO2 := Aside0.mk (show Kd.R (Kd.int .u8) 5 w1 w.heap.size (fun _ => True) v1 l from HO.out)
      obtain ⟨g, cap, e, hg, _, _⟩ := Kd.R_form HO2.out p1
      subst e
      have HG := Aside0.mk hg
      clear HO hg
      obtain ⟨n, hn⟩ : ∃ n : Nat, at_ % (8 * (l.length : Int)) = (n : Int) := ⟨(at_ % (8 * (l.length : Int))).toNat, (Int.toNat_of_nonneg (Int.emod_nonneg _ (by omega))).symm⟩
      have q1 : n < 8 * l.length := by have := Int.emod_lt_of_pos at_ (show 0 < 8 * (l.length : Int) by omega); omega
      have q2 : n / 8 < l.length := by omega
      rw [hn]
      clear hn
      obtain ⟨hx, hf⟩ := Kd.R_celln (0 : Int) HO2.out ((n / 8 : Nat) : Int) (by omega) (by omega)
      rw [Int.toNat_natCast] at hx hf
      cases two with
      | false =>
        go_region
        go_upto_region 9 with (fail)
        obtain ⟨W, hW⟩ : ∃ W, W = ((w1.setCell ⟨g, n / 8, none⟩ (.int .u8 (bits BinOp.xor IntKind.u8 (rdOf 0 l ((n : Int) / 8)) (2 ^ (n % 8) % 256)))).drew) := ⟨_, rfl⟩
        have HO3 := Aside0.mk (show Kd.R (Kd.int .u8) 5 W w.heap.size (fun _ => True) (.slice (some ⟨g, 0, none⟩) l.length cap) (flip1 l n) by rw [hW]; exact Kd.R_drew (flip_cell HO2.out n))
        have HB3 := Aside0.mk (show Below w.heap.size w W by rw [hW]; exact below_drew1 (below_set HB.out HG.out))
        rw [← hW]
        clear hW
        have HM := Aside0.mk (flip_one l n q2)
        have hv0 : (n32 (sum [flip1 l n]) != n32 (sum [l])) = true := bne_iff_ne.mpr (fun h => HM.out (n32_inj h))
        go_wp2_with (first
          | ((with_reducible refine gate_dst (N := 66) rfl ?_); refine lit_event rfl (N := 66) rfl _ _ _ (build_run 31 22 1 #[.slice (some ⟨g, 0, none⟩) l.length cap] info22 Try.underlying31 _ rfl (by omega) (by omega) _ (fill1 _ _ _) (by go_simp)) ?_; intro g66 _ w66 hbox hb; have H66 := Aside0.mk hbox; have HO3 := Aside0.mk (Kd.R_below HO3.out hb); have HB3 := Aside0.mk (below_step HB3.out hb); clear hbox hb)
          | ((with_reducible refine gate_dst (N := 69) rfl ?_); refine lit_event rfl (N := 69) rfl _ _ _ (build_run 31 22 1 #[.slice A l.length c1] info22 Try.underlying31 _ rfl (by omega) (by omega) _ (fill1 _ _ _) (by go_simp)) ?_; intro g69 _ w69 hbox hb; have H69 := Aside0.mk hbox; have HB3 := Aside0.mk (below_step HB3.out hb); clear hbox hb)
          | (go_at_call 9; have HS := sum_own (flip1 l n) _ H66.out HO3.out; (with_reducible refine HS.mono ?_); clear HS; rintro e w67 ⟨rfl, hb⟩; have HB3 := Aside0.mk (below_step HB3.out hb); clear hb H66)
          | (go_at_call 9; have HS := sum_one l (n32 (sum [l])) _ H69.out rfl HC.out (Kd.C_below HR.out HB3.out) rfl; (with_reducible refine HS.mono ?_); clear HS; rintro e w70 ⟨rfl, hb⟩; have HB3 := Aside0.mk (below_step HB3.out hb); clear hb)
          | (go_at_call 8; (with_reducible refine (chartroomlaw02_works.calls true _ rfl).mono ?_); rintro e w73 ⟨rfl, hb⟩; have HB3 := Aside0.mk (below_step HB3.out hb); clear hb))
        go_ret
        exact ⟨rfl, HB3.out⟩
      | true =>
        by_cases h8 : n + 1 < 8 * l.length
        · have c8 : decide ((n : Int) + 1 < 8 * (l.length : Int)) = true := decide_eq_true (by omega)
          have q3 : (n + 1) / 8 < l.length := by omega
          go_region
          go_upto_region 8 with (fail)
          obtain ⟨W, hW⟩ : ∃ w_ : World, w_ = ((w1.setCell ⟨g, n / 8, none⟩ (.int .u8 (bits BinOp.xor IntKind.u8 (rdOf 0 l ((n : Int) / 8)) (2 ^ (n % 8) % 256)))).drew) := ⟨_, rfl⟩
          have HO3 := Aside0.mk (show Kd.R (Kd.int .u8) 5 W w.heap.size (fun _ => True) (.slice (some ⟨g, 0, none⟩) l.length cap) (flip1 l n) by rw [hW]; exact Kd.R_drew (flip_cell HO2.out n))
          have HB3 := Aside0.mk (show Below w.heap.size w W by rw [hW]; exact below_drew1 (below_set HB.out HG.out))
          rw [← hW]
          clear hW
          obtain ⟨hx3, hf3⟩ := Kd.R_celln (0 : Int) HO3.out (((n + 1) / 8 : Nat) : Int) (by omega) (by omega)
          rw [Int.toNat_natCast] at hx3 hf3
          go_region
          go_upto_region 9 with (fail)
          obtain ⟨W2, hW⟩ : ∃ w_ : World, w_ = ((W.setCell ⟨g, (n + 1) / 8, none⟩ (.int .u8 (bits BinOp.xor IntKind.u8 (rdOf 0 (flip1 l n) (((n : Int) + 1) / 8)) (2 ^ ((n + 1) % 8) % 256)))).drew) := ⟨_, rfl⟩
          have HO3 := Aside0.mk (show Kd.R (Kd.int .u8) 5 W2 w.heap.size (fun _ => True) (.slice (some ⟨g, 0, none⟩) l.length cap) (flip1 (flip1 l n) (n + 1)) by rw [hW]; exact Kd.R_drew (flip_cell HO3.out (n + 1)))
          have HB3 := Aside0.mk (show Below w.heap.size w W2 by rw [hW]; exact below_drew1 (below_set HB3.out HG.out))
          rw [← hW]
          clear hW
          have HM := Aside0.mk (flip_two l n q3)
          have hv0 : (n32 (sum [flip1 (flip1 l n) (n + 1)]) != n32 (sum [l])) = true := bne_iff_ne.mpr (fun h => HM.out (n32_inj h))
          go_wp2_with (first
            | ((with_reducible refine gate_dst (N := 66) rfl ?_); refine lit_event rfl (N := 66) rfl _ _ _ (build_run 31 22 1 #[.slice (some ⟨g, 0, none⟩) l.length cap] info22 Try.underlying31 _ rfl (by omega) (by omega) _ (fill1 _ _ _) (by go_simp)) ?_; intro g66 _ w66 hbox hb; have H66 := Aside0.mk hbox; have HO3 := Aside0.mk (Kd.R_below HO3.out hb); have HB3 := Aside0.mk (below_step HB3.out hb); clear hbox hb)
            | ((with_reducible refine gate_dst (N := 69) rfl ?_); refine lit_event rfl (N := 69) rfl _ _ _ (build_run 31 22 1 #[.slice A l.length c1] info22 Try.underlying31 _ rfl (by omega) (by omega) _ (fill1 _ _ _) (by go_simp)) ?_; intro g69 _ w69 hbox hb; have H69 := Aside0.mk hbox; have HB3 := Aside0.mk (below_step HB3.out hb); clear hbox hb)
            | (go_at_call 9; have HS := sum_own (flip1 (flip1 l n) (n + 1)) _ H66.out HO3.out; (with_reducible refine HS.mono ?_); clear HS; rintro e w67 ⟨rfl, hb⟩; have HB3 := Aside0.mk (below_step HB3.out hb); clear hb H66)
            | (go_at_call 9; have HS := sum_one l (n32 (sum [l])) _ H69.out rfl HC.out (Kd.C_below HR.out HB3.out) rfl; (with_reducible refine HS.mono ?_); clear HS; rintro e w70 ⟨rfl, hb⟩; have HB3 := Aside0.mk (below_step HB3.out hb); clear hb)
            | (go_at_call 8; (with_reducible refine (chartroomlaw02_works.calls true _ rfl).mono ?_); rintro e w73 ⟨rfl, hb⟩; have HB3 := Aside0.mk (below_step HB3.out hb); clear hb))
          go_ret
          exact ⟨rfl, HB3.out⟩
        · have c8 : decide ((n : Int) + 1 < 8 * (l.length : Int)) = false := decide_eq_false (by omega)
          go_region
          go_upto_region 9 with (fail)
          obtain ⟨W, hW⟩ : ∃ w_ : World, w_ = ((w1.setCell ⟨g, n / 8, none⟩ (.int .u8 (bits BinOp.xor IntKind.u8 (rdOf 0 l ((n : Int) / 8)) (2 ^ (n % 8) % 256)))).drew) := ⟨_, rfl⟩
          have HO3 := Aside0.mk (show Kd.R (Kd.int .u8) 5 W w.heap.size (fun _ => True) (.slice (some ⟨g, 0, none⟩) l.length cap) (flip1 l n) by rw [hW]; exact Kd.R_drew (flip_cell HO2.out n))
          have HB3 := Aside0.mk (show Below w.heap.size w W by rw [hW]; exact below_drew1 (below_set HB.out HG.out))
          rw [← hW]
          clear hW
          have HM := Aside0.mk (flip_one l n q2)
          have hv0 : (n32 (sum [flip1 l n]) != n32 (sum [l])) = true := bne_iff_ne.mpr (fun h => HM.out (n32_inj h))
          go_wp2_with (first
            | ((with_reducible refine gate_dst (N := 66) rfl ?_); refine lit_event rfl (N := 66) rfl _ _ _ (build_run 31 22 1 #[.slice (some ⟨g, 0, none⟩) l.length cap] info22 Try.underlying31 _ rfl (by omega) (by omega) _ (fill1 _ _ _) (by go_simp)) ?_; intro g66 _ w66 hbox hb; have H66 := Aside0.mk hbox; have HO3 := Aside0.mk (Kd.R_below HO3.out hb); have HB3 := Aside0.mk (below_step HB3.out hb); clear hbox hb)
            | ((with_reducible refine gate_dst (N := 69) rfl ?_); refine lit_event rfl (N := 69) rfl _ _ _ (build_run 31 22 1 #[.slice A l.length c1] info22 Try.underlying31 _ rfl (by omega) (by omega) _ (fill1 _ _ _) (by go_simp)) ?_; intro g69 _ w69 hbox hb; have H69 := Aside0.mk hbox; have HB3 := Aside0.mk (below_step HB3.out hb); clear hbox hb)
            | (go_at_call 9; have HS := sum_own (flip1 l n) _ H66.out HO3.out; (with_reducible refine HS.mono ?_); clear HS; rintro e w67 ⟨rfl, hb⟩; have HB3 := Aside0.mk (below_step HB3.out hb); clear hb H66)
            | (go_at_call 9; have HS := sum_one l (n32 (sum [l])) _ H69.out rfl HC.out (Kd.C_below HR.out HB3.out) rfl; (with_reducible refine HS.mono ?_); clear HS; rintro e w70 ⟨rfl, hb⟩; have HB3 := Aside0.mk (below_step HB3.out hb); clear hb)
            | (go_at_call 8; (with_reducible refine (chartroomlaw02_works.calls true _ rfl).mono ?_); rintro e w73 ⟨rfl, hb⟩; have HB3 := Aside0.mk (below_step HB3.out hb); clear hb))
          go_ret
          exact ⟨rfl, HB3.out⟩

theorem wf_u16 {n : Int} (h : (Lit.int .u16 n).wf = true) : 0 ≤ n ∧ n ≤ 65535 := by
  have h1 := (Bool.and_eq_true_iff.1 h).1
  have h2 := (Bool.and_eq_true_iff.1 h).2
  exact ⟨of_decide_eq_true h1, of_decide_eq_true h2⟩

theorem flips_row (a0 : Option Addr) (len0 cap0 : Nat) (z0 : List Int) (a1 : Int) (a2 : Bool) (w : World)
    (w0 : (a0 = none ∧ len0 = 0 ∧ cap0 = 0 ∧ z0 = []) ∨ ∃ x, a0 = some x ∧ len0 ≤ cap0 ∧ cap0 ≤ maxLen ∧ z0.length = cap0 ∧ (∀ i, i < z0.length → w.cell? (x.add i) = some (.int .u8 (z0.getD i 0))) ∧ ∀ n ∈ z0, (Lit.int .u8 n).wf = true)
    (w1 : (Lit.int .u16 a1).wf = true) : Calls Try.prog 3 #[.slice a0 len0 cap0, .int .u16 a1, .bool a2] w (fun e w' => e = .returned (.bool true) ∧ Below w.heap.size w w') := by
  obtain ⟨l0, rfl, hr0, _, _, hc0⟩ := ReadsInt.ofRowC w0
  have h := wf_u16 w1
  exact flips_walk a0 cap0 l0 a1 a2 w (Kd.C_of_reads (d := (0 : Int)) (h1 := fun _ => rfl) hr0) hc0 h.1 h.2
end Go.Proofs.Ytdnfmcpphamicaa
