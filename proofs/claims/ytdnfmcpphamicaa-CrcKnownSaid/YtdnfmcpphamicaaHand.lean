/- The contracts of the checksum's table maker, its byte loop, its two fronts, by a walk over the program; what they ask of memory: the slices can be read. -/
import Derived.Test.YtdnfmcpphamicaaPcx0
import Derived.Test.YtdnfmcpphamicaaNum
namespace Go.Proofs.Ytdnfmcpphamicaa
open Go.RowKit Go.Proofs.YtdnfmcpphamicaaW.PrintWords Go.Proofs.YtdnfmcpphamicaaW.PrintLast Go.Proofs.YtdnfmcpphamicaaW.PrintMore
open Go.Proofs.Ytdnfmcpphamicaa.Crc Go.Proofs.Ytdnfmcpphamicaa.Pc

theorem info35 : (Try.prog.info? 35).map (fun i => (i.zero, i.size, i.bytes)) = some (some (.agg (Array.replicate 256 (.int .u32 0))), 256, 1024) := by kernel_rfl

/-- A variable of an array's type: its block, its cells. -/
theorem alloc_arr {P : Program} {ops : Array Oper} {rest : List Oper} {o : Oper} {a : Act} {Q : Exit → Act → World → Prop} {W : World} (hgd : o.guard = none) {t : TypeId} (ho : o.op = .alloc t) {N : Tmp} (_hd : o.dst = some N)
    {cs : Array Value} {n b : Nat} (hi : (P.info? t).map (fun i => (i.zero, i.size, i.bytes)) = some (some (.agg cs), n, b))
    (h : ∀ g, g = W.heap.size → ∀ w1, w1.heap[g]? = some (.cells cs t (0, 0)) → Below W.heap.size W w1 → wpList P ops Q rest (a.put o.dst (.pointer (some ⟨g, 0, none⟩))) w1) : wpList P ops Q (o :: rest) a W := by
  obtain ⟨i, hi1, hz⟩ := Option.map_eq_some_iff.1 hi
  simp only [Prod.mk.injEq] at hz
  refine box_event hgd _hd (cs := cs) (t := t) ?_ h
  unfold execOp
  simp only [ho]
  simp [Instr.alloc, zeroValue, typeInfo, hi1, hz.1, newVar, newRow, Value.cells]

theorem below_cells {w W : World} {g : Nat} (h : Below w.heap.size w W) (hg : w.heap.size ≤ g) (o : Nat) (vs : List Value) : Below w.heap.size w (W.setCells g o vs) := by
  obtain ⟨h1, h2, h3, h4⟩ := setCells_same g vs o W
  exact ⟨h1.trans h.os, h2.trans h.tape, h3.trans h.output, by rw [h4]; exact h.size, fun i hi => (setCells_far vs o i (by omega)).trans (h.block i hi)⟩

def ReturnsAgg (cs : Array Value) (w : World) (e : Ending) (w' : World) : Prop := e = .returned (.agg cs) ∧ Below w.heap.size w w'

set_option maxHeartbeats 1000000 in
set_option maxRecDepth 100000 in
theorem crc_Table.calls (w : World) : Calls Try.prog 15 #[] w (ReturnsAgg tab w) := by
  have hu35 := Try.underlying35
  go_enter Try.func15, Try.ntmps15
  go_wp2_with (first
    | ((with_reducible refine gate_dst (N := 0) rfl ?_); refine alloc_arr rfl rfl (N := 0) rfl info35 ?_; intro g0 hg w1 hbox hb; have HB1 := Aside0.mk hb; have H0 := Aside0.mk hbox; have HG0 := Aside0.mk hg; clear hg hbox hb)
    | ((with_reducible refine gate_dst (N := 1) rfl ?_); refine alloc_arr rfl rfl (N := 1) rfl info35 ?_; intro g1 hg w2 hbox hb; have HB2 := Aside0.mk hb; have H1 := Aside0.mk hbox; have HG1 := Aside0.mk hg; clear hg hbox hb))
  have HB := Aside0.mk (below_step HB1.out HB2.out)
  have HN := Aside0.mk (show g0 ≠ g1 by have h1 := HG0.out; have h2 := HG1.out; have h3 := blk_lt H0.out; omega)
  have HL := Aside0.mk (show w.heap.size ≤ g0 ∧ w.heap.size ≤ g1 by have h1 := HG0.out; have h2 := HG1.out; have h3 := below_size HB1.out; omega)
  have K0 := Aside0.mk (blk_below H0.out HB2.out)
  clear HG0 HG1 HB1 HB2 H0
  go_loopg [4] 256 (fun kq v4 w' => ∃ i : Nat, v4 = .int .i64 (i : Int) ∧ Aside0 (i + kq = 256) ∧ Aside0 (w'.heap[g0]? = some (.cells (tabTo 0) 35 (0, 0))) ∧ Aside0 (w'.heap[g1]? = some (.cells (tabTo i) 35 (0, 0))) ∧ Aside0 (Below w.heap.size w w'))
  case atStart => exact ⟨0, rfl, ⟨rfl⟩, ⟨by rw [tabTo_zero]; exact K0.out⟩, ⟨by rw [tabTo_zero]; exact H1.out⟩, HB⟩
  case round =>
    clear HB K0 H1
    obtain ⟨i, rfl, HK, H0, H1, HB⟩ := hrel
    by_cases hlt : i < 256
    · have c1 : decide ((i : Int) < 256) = true := decide_eq_true (by omega)
      have hi := (⟨hlt⟩ : Aside0 (i < 256))
      clear hlt
      go_wp2
      cases gk with
      | zero => exact absurd HK.out (by have := hi.out; omega)
      | succ k1 =>
      go_loopg [3, 9] 8 (fun kq v3 v9 w' => ∃ k : Nat, v3 = .int .u32 (n32 (sts k (BitVec.ofNat 32 i))) ∧ v9 = .int .i64 (k : Int) ∧ Aside0 (k + kq = 8) ∧ Aside0 (w'.heap[g0]? = some (.cells (tabTo 0) 35 (0, 0))) ∧ Aside0 (w'.heap[g1]? = some (.cells (tabTo i) 35 (0, 0))) ∧ Aside0 (Below w.heap.size w w'))
      case atStart => exact ⟨0, by rw [show n32 (sts 0 (BitVec.ofNat 32 i)) = (i : Int) % 4294967296 by simp [n32, sts]], rfl, ⟨rfl⟩, H0, H1, HB⟩
      case round =>
        clear H0 H1 HB
        obtain ⟨k, rfl, rfl, HK2, H0, H1, HB⟩ := hrel
        by_cases hk : k < 8
        · have c2 : decide ((k : Int) < 8) = true := decide_eq_true (by omega)
          cases gk with
          | zero => exact absurd HK2.out (by omega)
          | succ k2 =>
          have hst := Aside0.mk (step_table (sts k (BitVec.ofNat 32 i)))
          go_wp2
          go_roundg k2
          case measure => omega
          case rel => exact ⟨k + 1, by rw [show n32 (sts (k + 1) (BitVec.ofNat 32 i)) = _ from hst.out.symm], by go_num, ⟨by have := HK2.out; omega⟩, H0, H1, HB⟩
        · have c2 : decide ((k : Int) < 8) = false := decide_eq_false (by omega)
          have e : k = 8 := by have := HK2.out; omega
          subst e
          clear hk
          have hx : wr.cell? ⟨g1, i, none⟩ = some (.int .u32 0) := by rw [blk_cell H1.out, tabTo_at _ _ hi.out, if_neg (Nat.lt_irrefl i)]
          have hf : wr.frozen? ⟨g1, i, none⟩ = false := blk_frozen H1.out i
          have hi2 : (i : Int) < 256 := by have := hi.out; omega
          go_wp2
          clear hx hf
          go_roundg k1
          case measure => omega
          case rel => exact ⟨i + 1, by go_num, ⟨by have := HK.out; omega⟩, ⟨blk_far H0.out HN.out _⟩, ⟨blk_put H1.out i _ (tabTo_set i)⟩, ⟨below_set HB.out HL.out.2⟩⟩
    · have c1 : decide ((i : Int) < 256) = false := decide_eq_false (by omega)
      have e : i = 256 := by have := HK.out; omega
      subst e
      clear hlt
      obtain ⟨c0, hc0, hs0, ht0⟩ := setCells_row tab.toList 0 wr (tabTo 0) H0.out (by rw [Array.length_toList, tab_size, tabTo_size]; omega)
      have hc1 : c0 = tab := by
        apply Array.toList_inj.mp
        rw [ht0]
        have : (tabTo 0).toList.drop (0 + tab.toList.length) = [] := List.drop_eq_nil_of_le (by rw [Array.length_toList, Array.length_toList, tab_size, tabTo_size]; omega)
        rw [this]; simp
      rw [hc1] at hc0
      have HC := Aside0.mk hc0
      clear hc0 hs0 ht0 hc1
      have HR := Aside0.mk (run_store_run (P := Try.prog) (o := 0) 35 (.agg tab) tab.toList H0.out rfl (by rw [Array.length_toList, tab_size]; kernel_rfl) (by rw [Array.length_toList, tab_size, tabTo_size]; omega) (fun q hq => by
        obtain ⟨j, hj, rfl⟩ := List.mem_iff_getElem.1 hq
        have h1 : j < 256 := by rw [Array.length_toList, tab_size] at hj; exact hj
        have h2 := tab_at j h1
        rw [Array.getElem?_eq_getElem (by rw [tab_size]; exact h1)] at h2
        rw [Array.getElem_toList, Option.some.inj h2]; rfl))
      go_wp2_with (first
        | ((with_reducible refine gate_dst (N := 23) rfl ?_); refine wpList_load_row rfl 35 (.tmp 1) rfl g1 rfl 35 tab (0, 0) _ H1.out hu35 rfl (by rw [tab_size]; kernel_rfl) ?_)
        | ((with_reducible refine gate_store (p := 0) (t := 35) (v := .tmp 23) rfl ?_); refine store_event rfl (p := 0) (t := 35) (v := .tmp 23) rfl rfl (w1 := wr.setCells g0 0 tab.toList) ?hs ?_; (case hs => exact (by show ((Instr.storeAt 35 (.pointer (some ⟨g0, 0, none⟩)) (.agg tab)) >>= fun _ => pure Next.skip).run Try.prog wr = _; rw [Sem.run_bind, HR.out]; rfl)); intro w9 hw9; have HW := Aside0.mk hw9; clear hw9))
      refine bodyPost_ret (results_cell_row rfl _ _ g0 35 tab (0, 0) _ rfl (by rw [HW.out]; exact HC.out) hu35 rfl (by rw [tab_size]; kernel_rfl)) rfl ?_
      refine ⟨rfl, ?_⟩
      rw [HW.out]
      exact below_cells HB.out HL.out.1 0 tab.toList
theorem run_take (c : BitVec 32) (l : List Int) (i : Nat) (h : i < l.length) : run c (l.take (i + 1)) = up (run c (l.take i)) (by8 (rd l (i : Int))) := by
  have e : l.take (i + 1) = l.take i ++ [rd l (i : Int)] := by
    rw [List.take_succ_eq_append_getElem h]
    simp [rd, h]
  rw [e, run_append]; rfl

set_option maxHeartbeats 1000000 in
set_option maxRecDepth 100000 in
theorem crc_update.calls (g : Nat) (a0 : Int) (A : Option Addr) (c1 : Nat) (l : List Int) (w : World) (ht : w.heap[g]? = some (.cells tab 35 (0, 0))) (hr : Kd.C (Kd.int .u8) w A l.length l) (_hc : l.length ≤ c1) :
    Calls Try.prog 16 #[.pointer (some ⟨g, 0, none⟩), .int .u32 a0, .slice A l.length c1] w fun e w' => e = .returned (.int .u32 (n32 (upd (BitVec.ofInt 32 a0) l))) ∧ w = w' := by
  obtain ⟨c, hc0⟩ : ∃ c, c = BitVec.ofInt 32 a0 := ⟨_, rfl⟩
  rw [← hc0]
  have hu35 := Try.underlying35
  have HT := Aside0.mk ht
  have HR := Aside0.mk hr
  have HM := Aside0.mk (Kd.C_max hr)
  have HX := Aside0.mk (show Go.bits .xor .u32 a0 4294967295 = n32 (c ^^^ ones) by rw [hc0]; exact bits_xor32 _ _)
  clear ht hr hc0
  go_enter Try.func16, Try.ntmps16
  go_wp2
  go_loopg [1, 13] l.length (fun kq v1 v13 w' => ∃ i : Nat, v1 = .int .u32 (n32 (run (c ^^^ ones) (l.take i))) ∧ v13 = .int .i64 (i : Int) ∧ Aside0 (i + kq = l.length) ∧ w = w')
  case atStart => exact ⟨0, by rw [HX.out]; rfl, rfl, ⟨by omega⟩, rfl⟩
  case round =>
    obtain ⟨i, rfl, rfl, HK, rfl⟩ := hrel
    by_cases hlt : i < l.length
    · have c2 : decide ((i : Int) < (l.length : Int)) = true := decide_eq_true (by omega)
      have p1 : 0 ≤ (i : Int) := by omega
      have p2 : (i : Int) < (l.length : Int) := by omega
      cases gk with
      | zero => exact absurd HK.out (by omega)
      | succ k1 =>
      obtain ⟨r, hr1⟩ : ∃ r, r = run (c ^^^ ones) (l.take i) := ⟨_, rfl⟩
      have HRT := Aside0.mk (run_take (c ^^^ ones) l i hlt)
      rw [← hr1] at HRT ⊢
      clear hr1
      obtain ⟨ad, e, hx⟩ := Kd.at_int HR.out (i : Int) p1 p2
      cases e
      rw [Int.toNat_natCast] at hx
      have q1 : 0 ≤ Go.bits .xor .u8 (n32 r % 256) (rd l (i : Int)) := Go.bits_lo_u8 _ _ _
      have q2 : Go.bits .xor .u8 (n32 r % 256) (rd l (i : Int)) < 256 := by have := Go.bits_hi_u8 .xor (n32 r % 256) (rd l (i : Int)); omega
      have hy : w.cell? ⟨g, (Go.bits .xor .u8 (n32 r % 256) (rd l (i : Int))).toNat, none⟩ = some (.int .u32 (n32 (ent (place r (rd l (i : Int)))))) := by
        rw [blk_cell HT.out, place_eq, Int.toNat_natCast, tab_at _ (place_lt _ _)]
      have q3 := n32_lo r
      have q4 := n32_hi r
      have hm := HM.out
      have HE := Aside0.mk (up_ent r (rd l (i : Int)))
      go_wp2
      go_roundg k1
      case measure => omega
      case rel => exact ⟨i + 1, by rw [HRT.out, HE.out], by go_num, ⟨by have := HK.out; omega⟩, rfl⟩
    · have c2 : decide ((i : Int) < (l.length : Int)) = false := decide_eq_false (by omega)
      have e : l.take i = l := List.take_of_length_le (by omega)
      rw [e]
      have HY := Aside0.mk (xor_ones (run (c ^^^ ones) l))
      go_wp2
      go_ret
      exact ⟨by rw [HY.out]; rfl, rfl⟩
/-- A whole array stored into its variable. -/
theorem store_arr {ops : Array Oper} {rest : List Oper} {o : Oper} {a : Act} {Q : Exit → Act → World → Prop} {W : World} (hgd : o.guard = none) {p : Tmp} {v : Operand} (ho : o.op = .store 35 (.tmp p) v) (hN : o.dst = none)
    {g : Nat} {cs : Array Value} (hp : a.eval (.tmp p) = .pointer (some ⟨g, 0, none⟩)) (hv : a.eval v = .agg tab) (hb : W.heap[g]? = some (.cells cs 35 (0, 0))) (hs : cs.size = 256)
    (h : ∀ w', w'.heap[g]? = some (.cells tab 35 (0, 0)) → (∀ w0 : World, Below w0.heap.size w0 W → w0.heap.size ≤ g → Below w0.heap.size w0 w') → (∀ k, k ≠ g → w'.heap[k]? = W.heap[k]?) → wpList Try.prog ops Q rest a w') : wpList Try.prog ops Q (o :: rest) a W := by
  obtain ⟨c0, hc0, hs0, ht0⟩ := setCells_row tab.toList 0 W cs hb (by rw [Array.length_toList, tab_size, hs]; omega)
  have hc1 : c0 = tab := by
    apply Array.toList_inj.mp
    rw [ht0]
    have : cs.toList.drop (0 + tab.toList.length) = [] := List.drop_eq_nil_of_le (by rw [Array.length_toList, Array.length_toList, tab_size, hs]; omega)
    rw [this]; simp
  rw [hc1] at hc0
  have hrun := run_store_run (P := Try.prog) (o := 0) 35 (.agg tab) tab.toList hb rfl (by rw [Array.length_toList, tab_size]; kernel_rfl) (by rw [Array.length_toList, tab_size, hs]; omega) (fun q hq => by
    obtain ⟨j, hj, rfl⟩ := List.mem_iff_getElem.1 hq
    have h1 : j < 256 := by rw [Array.length_toList, tab_size] at hj; exact hj
    have h2 := tab_at j h1
    rw [Array.getElem?_eq_getElem (by rw [tab_size]; exact h1)] at h2
    rw [Array.getElem_toList, Option.some.inj h2]; rfl)
  refine store_event hgd ho hN (w1 := W.setCells g 0 tab.toList) ?_ (fun w' hw' => h w' (by rw [hw']; exact hc0) (fun w0 hB hg => by rw [hw']; exact below_cells hB hg 0 tab.toList) (fun k hk => by rw [hw']; exact setCells_far tab.toList 0 k hk))
  unfold execOp
  rw [ho]
  show ((Instr.storeAt 35 (a.eval (.tmp p)) (a.eval v)) >>= fun _ => pure Next.skip).run Try.prog W = _
  rw [hp, hv, Sem.run_bind, hrun]; rfl

def crc_Sum.f (l0 : List (List Int)) : Option Int := some (n32 (sum l0))

theorem foldl_take (l0 : List (List Int)) (i : Nat) (h : i < l0.length) : (l0.take (i + 1)).foldl upd 0#32 = upd ((l0.take i).foldl upd 0#32) (rd_L1 l0 (i : Int)) := by
  have e : l0.take (i + 1) = l0.take i ++ [rd_L1 l0 (i : Int)] := by
    rw [List.take_succ_eq_append_getElem h]
    simp [rd_L1, h]
  rw [e, List.foldl_append]; rfl

set_option maxHeartbeats 1000000 in
set_option maxRecDepth 100000 in
theorem crc_Sum.calls (A0 : Option Addr) (c0 : Nat) (l0 : List (List Int)) (r : Int) (w : World) (hr0 : Kd.C (Kd.slice 5 (Kd.int .u8)) w A0 l0.length l0) (_hc0 : l0.length ≤ c0) (h : crc_Sum.f l0 = some r) :
    Calls Try.prog 9 #[.slice A0 l0.length c0] w fun e w' => e = .returned (.int .u32 r) ∧ Below w.heap.size w w' := by
  have hu35 := Try.underlying35
  have HR := Aside0.mk hr0
  have hm := Kd.C_max hr0
  obtain rfl := Option.some.inj h
  clear hr0 h
  go_enter Try.func9, Try.ntmps9
  go_wp2_with (first
    | (go_at_call 15; (with_reducible refine (crc_Table.calls _).mono ?_); rintro e w1 ⟨rfl, hb⟩; have HB1 := Aside0.mk hb; clear hb)
    | ((with_reducible refine gate_dst (N := 3) rfl ?_); refine alloc_arr rfl rfl (N := 3) rfl info35 ?_; intro g hg w2 hbox hb; have HB2 := Aside0.mk hb; have H0 := Aside0.mk hbox; have HG0 := Aside0.mk hg; clear hg hbox hb)
    | ((with_reducible refine gate_store (p := 3) (t := 35) (v := .tmp 7) rfl ?_); refine store_arr rfl (p := 3) (v := .tmp 7) rfl rfl (g := g) rfl rfl H0.out (by simp) ?_; intro w3 hbox hb _; have H1 := Aside0.mk hbox; have HB3 := Aside0.mk hb; clear hbox hb))
  have HL := Aside0.mk (show w.heap.size ≤ g by rw [HG0.out]; exact below_size HB1.out)
  have HB := Aside0.mk (HB3.out w (below_step HB1.out HB2.out) HL.out)
  clear HB1 HB2 HB3 H0 HG0
  go_loopg [4, 10] l0.length (fun kq v4 v10 w' => ∃ i : Nat, v4 = .int .u32 (n32 ((l0.take i).foldl upd 0#32)) ∧ v10 = .int .i64 (i : Int) ∧ Aside0 (i + kq = l0.length) ∧ Aside0 (w'.heap[g]? = some (.cells tab 35 (0, 0))) ∧ Aside0 (Below w.heap.size w w'))
  case atStart => exact ⟨0, rfl, rfl, ⟨by omega⟩, H1, HB⟩
  case round =>
    clear H1 HB
    obtain ⟨i, rfl, rfl, HK, H1, HB⟩ := hrel
    by_cases hlt : i < l0.length
    · have c2 : decide ((i : Int) < (l0.length : Int)) = true := decide_eq_true (by omega)
      have p1 : 0 ≤ (i : Int) := by omega
      have p2 : (i : Int) < (l0.length : Int) := by omega
      cases gk with
      | zero => exact absurd HK.out (by omega)
      | succ k1 =>
      have HF := Aside0.mk (foldl_take l0 i hlt)
      obtain ⟨r, hr1⟩ : ∃ r, r = (l0.take i).foldl upd 0#32 := ⟨_, rfl⟩
      rw [← hr1] at HF ⊢
      clear hr1
      obtain ⟨ad, A1, c1, e, hx, hl, hi⟩ := at_L1 HR.out (i : Int) p1 p2
      cases e
      rw [Int.toNat_natCast] at hx
      replace hx := pw_cell_below HB.out hx
      have HI := Aside0.mk (Kd.C_below hi HB.out)
      have HLc := Aside0.mk hl
      clear hi hl
      go_wp2_with (go_at_call 16; (with_reducible refine (crc_update.calls g (n32 r) A1 c1 _ _ H1.out HI.out HLc.out).mono ?_); rintro e w' ⟨rfl, rfl⟩)
      go_roundg k1
      case measure => omega
      case rel => exact ⟨i + 1, by rw [HF.out, of_n32], by go_num, ⟨by have := HK.out; omega⟩, H1, HB⟩
    · have c2 : decide ((i : Int) < (l0.length : Int)) = false := decide_eq_false (by omega)
      have e : l0.take i = l0 := List.take_of_length_le (by omega)
      rw [e]
      go_wp2
      go_ret
      exact ⟨rfl, HB.out⟩

def crc_Update.f (a0 : Int) (l1 : List Int) : Option Int := some (n32 (upd (BitVec.ofInt 32 a0) l1))

set_option maxHeartbeats 1000000 in
set_option maxRecDepth 100000 in
theorem crc_Update.calls (a0 : Int) (A1 : Option Addr) (c1 : Nat) (l1 : List Int) (r : Int) (w : World) (hr1 : Kd.C (Kd.int .u8) w A1 l1.length l1) (hc1 : l1.length ≤ c1) (h : crc_Update.f a0 l1 = some r) :
    Calls Try.prog 10 #[.int .u32 a0, .slice A1 l1.length c1] w fun e w' => e = .returned (.int .u32 r) ∧ Below w.heap.size w w' := by
  have hu35 := Try.underlying35
  have HR := Aside0.mk hr1
  have HC := Aside0.mk hc1
  obtain rfl := Option.some.inj h
  clear hr1 hc1 h
  go_enter Try.func10, Try.ntmps10
  go_wp2_with (first
    | (go_at_call 15; (with_reducible refine (crc_Table.calls _).mono ?_); rintro e w1 ⟨rfl, hb⟩; have HB1 := Aside0.mk hb; clear hb)
    | ((with_reducible refine gate_dst (N := 5) rfl ?_); refine alloc_arr rfl rfl (N := 5) rfl info35 ?_; intro g hg w2 hbox hb; have HB2 := Aside0.mk hb; have H0 := Aside0.mk hbox; have HG0 := Aside0.mk hg; clear hg hbox hb)
    | ((with_reducible refine gate_store (p := 5) (t := 35) (v := .tmp 6) rfl ?_); refine store_arr rfl (p := 5) (v := .tmp 6) rfl rfl (g := g) rfl rfl H0.out (by simp) ?_; intro w3 hbox hb _; have H1 := Aside0.mk hbox; have HB3 := Aside0.mk hb; clear hbox hb)
    | (go_at_call 16; (with_reducible refine (crc_update.calls g a0 A1 c1 _ _ H1.out (Kd.C_below HR.out (HB3.out w (below_step HB1.out HB2.out) (by rw [HG0.out]; exact below_size HB1.out))) HC.out).mono ?_); rintro e w' ⟨rfl, rfl⟩))
  go_ret
  exact ⟨rfl, HB3.out w (below_step HB1.out HB2.out) (by rw [HG0.out]; exact below_size HB1.out)⟩

end Go.Proofs.Ytdnfmcpphamicaa
