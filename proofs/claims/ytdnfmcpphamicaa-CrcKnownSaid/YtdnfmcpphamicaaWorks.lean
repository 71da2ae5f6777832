/- The contract of the examples' function of the checksum's laws, by a walk over the program; no condition. -/
import Derived.Test.YtdnfmcpphamicaaHand
import Derived.Great.BuildSlice
import Derived.Lib.SlBytesConst
namespace Go.Proofs.Ytdnfmcpphamicaa
open Go.RowKit Go.Proofs.YtdnfmcpphamicaaW.PrintWords Go.Proofs.YtdnfmcpphamicaaW.PrintLast Go.Proofs.YtdnfmcpphamicaaW.PrintMore
open Go.Proofs.Ytdnfmcpphamicaa.Crc Go.Proofs.Ytdnfmcpphamicaa.Pc

/-- A slice that is made here: its block. -/
theorem lit_event {P : Program} {ops : Array Oper} {rest : List Oper} {o : Oper} {a : Act} {Q : Exit → Act → World → Prop} {W : World} (hgd : o.guard = none) {N : Tmp} (_hd : o.dst = some N) (cs : Array Value) (t : TypeId) (n : Nat)
    (hrun : (execOp a.eval o).run P W = .ok (.value (.slice (some ⟨W.heap.size, 0, none⟩) n n)) (W.alloc (.cells cs t (0, 0))))
    (h : ∀ g, W.heap.size ≤ g → ∀ w1, w1.heap[g]? = some (.cells cs t (0, 0)) → Below W.heap.size W w1 → wpList P ops Q rest (a.put o.dst (.slice (some ⟨g, 0, none⟩) n n)) w1) : wpList P ops Q (o :: rest) a W :=
  Kd.event_run hgd hrun (h _ (Nat.le_refl _) _ (blk_new W _) (below_alloc (Below.refl _ _) _))

/-- The same, of a guarded operation whose guard says yes. -/
theorem lit_event_g {P : Program} {ops : Array Oper} {rest : List Oper} {o : Oper} {a : Act} {Q : Exit → Act → World → Prop} {W : World} {N : Tmp} (_hd : o.dst = some N) (hw : Region.wanted o (yielded ops a.tmps) = true) (cs : Array Value) (t : TypeId) (n : Nat)
    (hrun : (execOp a.eval o).run P W = .ok (.value (.slice (some ⟨W.heap.size, 0, none⟩) n n)) (W.alloc (.cells cs t (0, 0))))
    (h : ∀ g, W.heap.size ≤ g → ∀ w1, w1.heap[g]? = some (.cells cs t (0, 0)) → Below W.heap.size W w1 → wpList P ops Q rest (a.put o.dst (.slice (some ⟨g, 0, none⟩) n n)) w1) : wpList P ops Q (o :: rest) a W := by
  refine Go.BigFrame.wpList_want hw fun K hK => ?_
  unfold Oper.wp
  rw [hrun]
  exact hK _ _ (h _ (Nat.le_refl _) _ (blk_new W _) (below_alloc (Below.refl _ _) _))

/-- A row in its block, read. -/
theorem C_blk {w : World} {g : Nat} {t : TypeId} {cs : Array Value} {fr : Nat × Nat} (k : IntKind) (l : List Int) (h : w.heap[g]? = some (.cells cs t fr)) (hc : cs.toList = l.map (Value.int k)) (hl : l.length ≤ 9223372036854775807) :
    Kd.C (Kd.int k) w (some ⟨g, 0, none⟩) l.length l := by
  refine ⟨rfl, hl, fun _ => ⟨_, rfl, fun j p hj => ⟨[.int k p], rfl, rfl, fun i u hu => ?_⟩⟩⟩
  cases i with
  | succ i => simp at hu
  | zero =>
    simp only [List.getElem?_cons_zero, Option.some.injEq] at hu
    rw [add_at, cell_of_row w g _ cs t fr h, ← Array.getElem?_toList, hc]
    simp only [Nat.zero_add, Kd.int, Kd.scalar, Nat.mul_one, Nat.add_zero, List.getElem?_map, hj, ← hu, Option.map_some]

/-- A row of rows in its block, read: what its cells are. -/
theorem C_rows {w : World} {g : Nat} {t : TypeId} {cs : Array Value} (ls : List (List Int)) (h : w.heap[g]? = some (.cells cs t (0, 0))) (hl : ls.length ≤ 9223372036854775807)
    (hc : ∀ (j : Nat) (l : List Int), ls[j]? = some l → ∃ (A : Option Addr) (c : Nat), cs[j]? = some (Value.slice A l.length c) ∧ l.length ≤ c ∧ Kd.C (Kd.int .u8) w A l.length l) :
    Kd.C (Kd.slice 5 (Kd.int .u8)) w (some ⟨g, 0, none⟩) ls.length ls := by
  refine ⟨rfl, hl, fun _ => ⟨_, rfl, fun j p hj => ?_⟩⟩
  obtain ⟨A, c, h1, h2, h3⟩ := hc j p hj
  refine ⟨[.slice A p.length c], rfl, ⟨A, c, rfl, h2, h3⟩, fun i u hu => ?_⟩
  cases i with
  | succ i => simp at hu
  | zero =>
    simp only [List.getElem?_cons_zero, Option.some.injEq] at hu
    rw [add_at, blk_cell h, ← hu, ← h1]
    simp [Kd.slice]

/-- One row, read as a row of rows. -/
theorem C_row1 {w : World} {g : Nat} {t : TypeId} {A : Option Addr} {n c : Nat} (l : List Int) (h : w.heap[g]? = some (.cells #[.slice A n c] t (0, 0))) (hn : n = l.length) (hc : l.length ≤ c) (hl : Kd.C (Kd.int .u8) w A l.length l) :
    Kd.C (Kd.slice 5 (Kd.int .u8)) w (some ⟨g, 0, none⟩) [l].length [l] := by
  subst hn
  refine C_rows [l] h (by simp) (fun j q hj => ?_)
  cases j with
  | succ j => simp at hj
  | zero => simp at hj; subst hj; exact ⟨A, c, rfl, hc, hl⟩

/-- The examples. -/
def digits9 : List Int := [49, 50, 51, 52, 53, 54, 55, 56, 57]
def zeros32 : List Int := List.replicate 32 0
def ones32 : List Int := List.replicate 32 255
set_option maxRecDepth 100000 in
theorem sum_digits9 : sum [digits9] = 3808858755#32 := by decide +kernel
set_option maxRecDepth 100000 in
theorem sum_zeros32 : sum [zeros32] = 2324772522#32 := by decide +kernel
set_option maxRecDepth 100000 in
theorem sum_ones32 : sum [ones32] = 1655221059#32 := by decide +kernel
set_option maxRecDepth 100000 in
theorem ent_1 : ent 1 = 4067132163#32 := by decide +kernel
set_option maxRecDepth 100000 in
theorem ent_128 : ent 128 = 2197175160#32 := by decide +kernel

/-- The row of 255 when n of its 32 are set. -/
def onesTo (n : Nat) : Array Value := ((List.range 32).map fun j => if j < n then Value.int .u8 255 else .int .u8 0).toArray
theorem onesTo_zero : onesTo 0 = Array.replicate 32 (.int .u8 0) := by
  apply Array.ext
  · simp [onesTo]
  · intro i h1 h2; simp [onesTo]
theorem onesTo_at (n j : Nat) (h : j < 32) : (onesTo n)[j]? = some (if j < n then Value.int .u8 255 else .int .u8 0) := by simp [onesTo, h]
theorem onesTo_set (n : Nat) : (onesTo n).setIfInBounds n (.int .u8 255) = onesTo (n + 1) := by
  apply Array.ext
  · simp [onesTo]
  · intro i h1 h2
    rw [Array.getElem_setIfInBounds (by simpa using h1)]
    by_cases e : n = i
    · subst e; simp [onesTo]
    · rw [if_neg e]
      simp only [onesTo, List.getElem_toArray, List.getElem_map, List.getElem_range]
      by_cases e2 : i < n
      · rw [if_pos e2, if_pos (by omega)]
      · rw [if_neg e2, if_neg (by omega)]
theorem onesTo_32 : (onesTo 32).toList = ones32.map (Value.int .u8) := rfl

theorem make32 (W : World) : (Instr.makeSlice 22 (.int .i64 32) (.int .i64 32)).run Try.prog W = .ok (.slice (some ⟨W.heap.size, 0, none⟩) 32 32) (W.alloc (.cells (Array.replicate 32 (.int .u8 0)) 5 (0, 0))) := by kernel_rfl

theorem make_run {P : Program} {o : Oper} {a : Act} {W w1 : World} {v : Value} {t : TypeId} {n c : Operand} {x y : Value} (hr : (Instr.makeSlice t x y).run P W = .ok v w1) (ho : o.op = .makeSlice t n c := by rfl) (hx : a.eval n = x := by rfl) (hy : a.eval c = y := by rfl) : (execOp a.eval o).run P W = .ok (.value v) w1 := by
  unfold execOp
  rw [ho]
  show ((Instr.makeSlice t (a.eval n) (a.eval c)) >>= fun v => pure (Next.value v)).run P W = _
  rw [hx, hy, Sem.run_bind, hr]; rfl

theorem info22 : (Try.prog.info? 22).map (fun i => (i.zero, i.size, i.bytes)) = some (some (.slice none 0 0), 1, 24) := by kernel_rfl
theorem info5 : (Try.prog.info? 5).map (fun i => (i.zero, i.size, i.bytes)) = some (some (.int .u8 0), 1, 1) := by kernel_rfl

/-- A slice literal's run. -/
theorem build_run {P : Program} {o : Oper} {a : Act} {W : World} {z : Value} {b : Nat} (t e : TypeId) (len : Nat) (cells : Array Value) (hinfo : (P.info? e).map (fun i => (i.zero, i.size, i.bytes)) = some (some z, 1, b)) (hu : P.underlying t = some (.slice e)) (parts : Array (Nat × Operand)) (ho : o.op = .buildSlice t len parts) (h0 : 0 < len) (h1 : len ≤ 2 ^ 24)
    (vals : List (Nat × Value)) (hf : Instr.fill (fun i => some (i * 1, 1)) ((Array.range (len * 1)).map (z.cells[· % z.cells.size]!)) vals = some cells) (hv : (parts.map fun (i, x) => (i, a.eval x)).toList = vals) :
    (execOp a.eval o).run P W = .ok (.value (.slice (some ⟨W.heap.size, 0, none⟩) len len)) (W.alloc (.cells cells e (0, 0))) := by
  obtain ⟨i, hi, hz⟩ := Option.map_eq_some_iff.1 hinfo
  simp only [Prod.mk.injEq] at hz
  obtain ⟨z1, z2, _⟩ := hz
  unfold execOp
  simp only [ho, Sem.run_bind, run_buildSlice W t e len _ cells i z hu hi z1 (by rw [z2]; omega) (by rw [z2]; omega) (by rw [z2, hv]; exact hf), Result.andThen_ok]
  rfl

theorem fill1 (A : Option Addr) (n c : Nat) : Instr.fill (fun i => some (i * 1, 1)) ((Array.range (1 * 1)).map ((Value.slice none 0 0).cells[· % (Value.slice none 0 0).cells.size]!)) [(0, Value.slice A n c)] = some #[Value.slice A n c] := by
  kernel_rfl
theorem fill3 (A B C : Option Addr) (n c m d k e : Nat) : Instr.fill (fun i => some (i * 1, 1)) ((Array.range (3 * 1)).map ((Value.slice none 0 0).cells[· % (Value.slice none 0 0).cells.size]!)) [(0, Value.slice A n c), (1, Value.slice B m d), (2, Value.slice C k e)] = some #[Value.slice A n c, Value.slice B m d, Value.slice C k e] := by
  kernel_rfl

/-- The check of one row, which a literal holds. -/
theorem sum_one {g : Nat} {t : TypeId} {A : Option Addr} {n c : Nat} (l : List Int) (v : Int) (w : World) (h : w.heap[g]? = some (.cells #[.slice A n c] t (0, 0))) (hn : n = l.length) (hc : l.length ≤ c) (hl : Kd.C (Kd.int .u8) w A l.length l) (hv : n32 (sum [l]) = v) :
    Calls Try.prog 9 #[.slice (some ⟨g, 0, none⟩) 1 1] w fun e w' => e = .returned (.int .u32 v) ∧ Below w.heap.size w w' :=
  crc_Sum.calls (some ⟨g, 0, none⟩) 1 [l] v w (C_row1 l h hn hc hl) (Nat.le_refl _) (by rw [← hv]; rfl)

theorem sum_none (w : World) : Calls Try.prog 9 #[.slice none 0 0] w fun e w' => e = .returned (.int .u32 0) ∧ Below w.heap.size w w' :=
  crc_Sum.calls none 0 [] 0 w (Kd.C_nil _ _) (Nat.le_refl _) rfl

def chartroomlaw02_works.f : Option Bool := some true

set_option maxHeartbeats 2000000 in
set_option maxRecDepth 100000 in
theorem chartroomlaw02_works.calls (r : Bool) (w : World) (h : chartroomlaw02_works.f = some r) :
    Calls Try.prog 8 #[] w fun e w' => e = .returned (.bool r) ∧ Below w.heap.size w w' := by
  have hu35 := Try.underlying35
  have kc := fun (w : World) (C : Array Value) (n c : Nat) => Lib.run_convert_bytes_const (P := Try.prog) w 22 5 C n c Try.underlying22 Try.underlying5
  have HB := Aside0.mk (Below.refl w.heap.size w)
  obtain rfl := Option.some.inj h
  clear h
  go_enter Try.func8, Try.ntmps8
  go_wp2_with (first
    | ((with_reducible refine gate_dst (N := 4) rfl ?_); refine lit_event rfl (N := 4) rfl (Array.replicate 32 (.int .u8 0)) 5 32 ?hr ?_; (case hr => exact make_run (make32 _)); intro g1 hg w1 hbox hb; have HG := Aside0.mk hg; have H1 := Aside0.mk hbox; have HB1 := Aside0.mk hb; clear hg hbox hb))
  have HL1 := Aside0.mk (show w.heap.size ≤ g1 from HG.out)
  clear HG
  have HB := Aside0.mk (below_step HB.out HB1.out)
  go_loopg [2] 32 (fun kq v2 w' => ∃ i : Nat, v2 = .int .i64 (i : Int) ∧ Aside0 (i + kq = 32) ∧ Aside0 (w'.heap[g1]? = some (.cells (onesTo i) 5 (0, 0))) ∧ Aside0 (Below w.heap.size w w'))
  case atStart => exact ⟨0, rfl, ⟨rfl⟩, ⟨by rw [onesTo_zero]; exact H1.out⟩, HB⟩
  case round =>
    clear H1 HB HB1
    obtain ⟨i, rfl, HK, H1, HB⟩ := hrel
    by_cases hlt : i < 32
    · have c1 : decide ((i : Int) < 32) = true := decide_eq_true (by omega)
      cases gk with
      | zero => exact absurd HK.out (by omega)
      | succ k1 =>
      have hx : wr.cell? ⟨g1, i, none⟩ = some (.int .u8 0) := by rw [blk_cell H1.out, onesTo_at _ _ hlt, if_neg (Nat.lt_irrefl i)]
      have hf : wr.frozen? ⟨g1, i, none⟩ = false := blk_frozen H1.out i
      have hi2 : (i : Int) < 32 := by omega
      go_wp2
      clear hx hf
      go_roundg k1
      case measure => omega
      case rel => exact ⟨i + 1, by go_num, ⟨by have := HK.out; omega⟩, ⟨blk_put H1.out i _ (onesTo_set i)⟩, ⟨below_set HB.out HL1.out⟩⟩
    · have c1 : decide ((i : Int) < 32) = false := decide_eq_false (by omega)
      have e : i = 32 := by have := HK.out; omega
      subst e
      clear hlt
      clear HL1
      go_wp2_with (first
        | (go_at_call 15; (with_reducible refine (crc_Table.calls _).mono ?_); rintro e w3 ⟨rfl, hb⟩; have HB := Aside0.mk (below_step HB.out hb); have H1 := Aside0.mk (blk_below H1.out hb); clear hb)
        | ((with_reducible refine gate_dst (N := 3) rfl ?_); refine alloc_arr rfl rfl (N := 3) rfl info35 ?_; intro g hg w4 hbox hb; have HG := Aside0.mk (show w.heap.size ≤ g by rw [hg]; exact below_size HB.out); have HB := Aside0.mk (below_step HB.out hb); have H4 := Aside0.mk hbox; have HN := Aside0.mk (show g1 ≠ g by rw [hg]; exact Nat.ne_of_lt (blk_lt H1.out)); have H1 := Aside0.mk (blk_below H1.out hb); clear hg hbox hb)
        | ((with_reducible refine gate_store (p := 3) (t := 35) (v := .tmp 12) rfl ?_); refine store_arr rfl (p := 3) (v := .tmp 12) rfl rfl (g := g) rfl rfl H4.out (by simp) ?_; intro w5 hbox hb hfar; have H5 := Aside0.mk hbox; have HB := Aside0.mk (hb w HB.out HG.out); have H1 := Aside0.mk ((hfar g1 HN.out).trans H1.out); clear hbox hb hfar H4)
        | ((with_reducible refine gate_dst (N := 15) rfl ?_); have H13 := Aside0.mk (blk_new w5 (.cells #[.int .u8 49, .int .u8 50, .int .u8 51, .int .u8 52, .int .u8 53, .int .u8 54, .int .u8 55, .int .u8 56, .int .u8 57] 5 (9, 10))); have HB := Aside0.mk (below_alloc HB.out (.cells #[.int .u8 49, .int .u8 50, .int .u8 51, .int .u8 52, .int .u8 53, .int .u8 54, .int .u8 55, .int .u8 56, .int .u8 57] 5 (9, 10))); have H1 := Aside0.mk (blk_alloc H1.out (.cells #[.int .u8 49, .int .u8 50, .int .u8 51, .int .u8 52, .int .u8 53, .int .u8 54, .int .u8 55, .int .u8 56, .int .u8 57] 5 (9, 10))); have H5 := Aside0.mk (blk_alloc H5.out (.cells #[.int .u8 49, .int .u8 50, .int .u8 51, .int .u8 52, .int .u8 53, .int .u8 54, .int .u8 55, .int .u8 56, .int .u8 57] 5 (9, 10))); refine lit_event rfl (N := 15) rfl _ _ _ (build_run 31 22 1 #[.slice (some ⟨w5.heap.size, 0, none⟩) 9 9] info22 Try.underlying31 _ rfl (by omega) (by omega) _ (fill1 _ _ _) (by go_simp)) ?_; intro g15 _ w15 hbox hb; have HB := Aside0.mk (below_step HB.out hb); have H1 := Aside0.mk (blk_below H1.out hb); have H5 := Aside0.mk (blk_below H5.out hb); have H13 := Aside0.mk (blk_below H13.out hb); have H15 := Aside0.mk hbox; clear hbox hb)
        | (go_at_call 9; have HS := sum_one digits9 3808858755 _ H15.out rfl (Nat.le_refl _) (C_blk .u8 digits9 H13.out rfl (by decide)) (by rw [sum_digits9]; rfl); (with_reducible refine HS.mono ?_); clear HS; rintro e w16 ⟨rfl, hb⟩; have HB := Aside0.mk (below_step HB.out hb); have H1 := Aside0.mk (blk_below H1.out hb); have H5 := Aside0.mk (blk_below H5.out hb); clear hb)
        | ((with_reducible refine gate_dst (N := 19) rfl ?_); refine lit_event_g (N := 19) rfl (by go_simp) (Array.replicate 32 (.int .u8 0)) 5 32 ?hr ?_; (case hr => exact make_run (make32 _)); intro g19 _ w19 hbox hb; have HB := Aside0.mk (below_step HB.out hb); have H1 := Aside0.mk (blk_below H1.out hb); have H5 := Aside0.mk (blk_below H5.out hb); have H19 := Aside0.mk hbox; clear hbox hb)
        | ((with_reducible refine gate_dst (N := 20) rfl ?_); refine lit_event_g (N := 20) rfl (by go_simp) _ _ _ (build_run 31 22 1 #[.slice (some ⟨g19, 0, none⟩) 32 32] info22 Try.underlying31 _ rfl (by omega) (by omega) _ (fill1 _ _ _) (by go_simp)) ?_; intro g20 _ w20 hbox hb; have HB := Aside0.mk (below_step HB.out hb); have H1 := Aside0.mk (blk_below H1.out hb); have H5 := Aside0.mk (blk_below H5.out hb); have H19 := Aside0.mk (blk_below H19.out hb); have H20 := Aside0.mk hbox; clear hbox hb)
        | (go_at_call 9; have HS := sum_one zeros32 2324772522 _ H20.out rfl (Nat.le_refl _) (C_blk .u8 zeros32 H19.out rfl (by decide)) (by rw [sum_zeros32]; rfl); (with_reducible refine HS.mono ?_); clear HS; rintro e w21 ⟨rfl, hb⟩; have HB := Aside0.mk (below_step HB.out hb); have H1 := Aside0.mk (blk_below H1.out hb); have H5 := Aside0.mk (blk_below H5.out hb); clear hb)
        | ((with_reducible refine gate_dst (N := 26) rfl ?_); refine lit_event_g (N := 26) rfl (by go_simp) _ _ _ (build_run 31 22 1 #[.slice (some ⟨g1, 0, none⟩) 32 32] info22 Try.underlying31 _ rfl (by omega) (by omega) _ (fill1 _ _ _) (by go_simp)) ?_; intro g26 _ w26 hbox hb; have HB := Aside0.mk (below_step HB.out hb); have H1 := Aside0.mk (blk_below H1.out hb); have H5 := Aside0.mk (blk_below H5.out hb); have H26 := Aside0.mk hbox; clear hbox hb)
        | (go_at_call 9; have HS := sum_one ones32 1655221059 _ H26.out rfl (Nat.le_refl _) (C_blk .u8 ones32 H1.out onesTo_32 (by decide)) (by rw [sum_ones32]; rfl); (with_reducible refine HS.mono ?_); clear HS; rintro e w27 ⟨rfl, hb⟩; have HB := Aside0.mk (below_step HB.out hb); have H5 := Aside0.mk (blk_below H5.out hb); have hx1 : w27.cell? ⟨g, 1, none⟩ = some (.int .u32 4067132163) := (by rw [blk_cell H5.out, tab_at _ (by decide), ent_1]; rfl); have hx128 : w27.cell? ⟨g, 128, none⟩ = some (.int .u32 2197175160) := (by rw [blk_cell H5.out, tab_at _ (by decide), ent_128]; rfl); clear hb)
        | (go_at_call 9; (with_reducible refine (sum_none _).mono ?_); rintro e w41 ⟨rfl, hb⟩; have HB := Aside0.mk (below_step HB.out hb); clear hb))
      go_ret
      exact ⟨rfl, HB.out⟩

end Go.Proofs.Ytdnfmcpphamicaa
