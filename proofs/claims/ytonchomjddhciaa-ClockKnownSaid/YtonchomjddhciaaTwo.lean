/- clock: what ClockPlays keeps of its rows: the ticks that came in, the copy beside the hands, and that they are apart. -/
import Derived.Test.YtonchomjddhciaaSums
import Derived.Lib.SmallJoins
import Derived.Deep.Slices
import Derived.Deep.Fields
import Derived.ChangeSame
namespace Go.Proofs.Ytonchomjddhciaa.Clk
open Go.Joins Go.ChangeShapes Go.WideShapes Go.Deep Go.RowKit Go.Proofs.YtonchomjddhciaaW.PrintWords Go.Proofs.YtonchomjddhciaaW.PrintLast Go.Proofs.YtonchomjddhciaaW.PrintMore
set_option linter.unusedVariables false
set_option linter.unusedSimpArgs false

section
variable {H : Type} {enc : TypeId × Value → H} {P : Program} {w : World} {base : Nat} {spare : Nat → Bool} {held : Bool}
theorem open_slice_fields {t e : TypeId} {fs : Array Field} {fuel : Nat} {cs : List Value} {x : DataW H × List MemPlace} (ht : P.underlying t = some (.slice e)) (he : P.underlying e = some (.struct fs))
    (hone : oneCellFields P fs = true) (hC : P.cellsOf e = fs.size) (h : DataW.trod enc P w base spare held fuel t cs = some x) :
    (cs = [.slice none 0 0] ∧ x = (.nil, [])) ∨
    ∃ (a : Addr) (len cap m : Nat) (D : Nat → DataW H) (Pl : Nat → List MemPlace), cs = [.slice (some a) len cap] ∧ base ≤ a.block ∧ len ≤ cap ∧ cap ≤ maxLen ∧ m = (if spare a.block then cap else len) ∧
      x = (.slice ((List.range len).map D) ((List.range (m - len)).map fun j => D (len + j)), MemPlace.row a (m * fs.size) ++ (List.range m).flatMap Pl) ∧
      ∀ i, i < m → ∃ (ys : List (DataW H × List MemPlace)) (n : Nat), D i = .agg (ys.map (·.1)) ∧ Pl i = ys.flatMap (·.2) ∧ ys.length = fs.size ∧
        ∀ (j : Nat) (f : Field), fs[j]? = some f → ∃ (v : Value) (y : DataW H × List MemPlace), w.cell? (a.add (i * fs.size + j)) = some v ∧ ys[j]? = some y ∧ DataW.trod enc P w base spare held n f.type [v] = some y := by
  rcases open_slice ht h with h0 | ⟨a, len, cap, m, n, D, Pl, hcs, hb, hl, hm, hmm, hx, hi⟩
  · exact .inl h0
  · refine .inr ⟨a, len, cap, m, D, Pl, hcs, hb, hl, hm, hmm, by rw [hC] at hx; exact hx, fun i him => ?_⟩
    obtain ⟨cs', hc, ht'⟩ := hi i him
    rw [hC] at hc
    obtain ⟨ys, n', hn', hy, hlen, hyl, hf⟩ := DataW.trod_struct he ht'
    obtain ⟨_, hcl, hat⟩ := World.cells?_some hc
    simp only [Prod.mk.injEq] at hy
    refine ⟨ys, n', hy.1, hy.2, hyl, fun j f hj => ?_⟩
    obtain ⟨ho, hk⟩ := hone_of hone j f hj
    have hjl : j < fs.size := (Array.getElem?_eq_some_iff.1 hj).1
    have hcell := hat j hjl
    have hv : cs'[j]? = some (cs'[j]'(by omega)) := List.getElem?_eq_getElem (by omega)
    have h1 := hf j f hj
    rw [ho, hk] at h1
    have hone' : (cs'.drop j).take 1 = [cs'[j]'(by omega)] := by
      rw [List.drop_eq_getElem_cons (by omega)]
      rfl
    rw [hone'] at h1
    have hys : ys[j]? = some (ys[j]'(by omega)) := List.getElem?_eq_getElem (by omega)
    refine ⟨_, _, ?_, hys, h1.trans hys⟩
    rw [← Go.Deep.add_add, hcell, hv]
end

def actP (ac : List (Int × Int)) (j : Nat) : Int := (ac.getD j (0, 0)).1
def actB (ac : List (Int × Int)) (j : Nat) : Int := (ac.getD j (0, 0)).2
/-- Ticks that are read. -/
def RdA (w : World) (B : Option Addr) (ac : List (Int × Int)) : Prop :=
  ac.length ≤ 9223372036854775807 ∧ (0 < ac.length → ∃ ad : Addr, B = some ad ∧ ∀ j, j < ac.length → w.cell? (ad.add (j * 2)) = some (.int .i64 (actP ac j)) ∧ w.cell? (ad.add (j * 2 + 1)) = some (.int .u64 (actB ac j)))
theorem RdA.below {w w1 : World} {B : Option Addr} {ac : List (Int × Int)} (h : RdA w B ac) (hb : Below w.heap.size w w1) : RdA w1 B ac :=
  ⟨h.1, fun h0 => by
    obtain ⟨ad, e, hc⟩ := h.2 h0
    exact ⟨ad, e, fun j hj => ⟨pw_cell_below hb (hc j hj).1, pw_cell_below hb (hc j hj).2⟩⟩⟩
theorem RdA.val {w : World} {B : Option Addr} {ac : List (Int × Int)} (h : RdA w B ac) (j : Nat) (hj : j < ac.length) :
    ∃ ad : Addr, B = some ad ∧ w.cell? (ad.add (j * 2)) = some (.int .i64 (actP ac j)) ∧ w.cell? ⟨(ad.add (j * 2)).block, (ad.add (j * 2)).off + 1, none⟩ = some (.int .u64 (actB ac j)) := by
  obtain ⟨ad, e, hc⟩ := h.2 (by omega)
  refine ⟨ad, e, (hc j hj).1, ?_⟩
  have h1 := (hc j hj).2
  rwa [add_field ad (j * 2) 1 (by decide)] at h1
/-- Each number that is added is a uint64. -/
def UA (ac : List (Int × Int)) : Prop := ∀ j, 0 ≤ actB ac j ∧ actB ac j ≤ 18446744073709551615

theorem acts_open {H : Type} {enc : TypeId × Value → H} {w : World} {base fuel len cap : Nat} {held : Bool} {a : Option Addr} {x : DataW H × List MemPlace}
    (h : DataW.trod enc Try.prog w base (fun _ => true) held fuel 38 (Value.slice a len cap).cells.toList = some x) :
    ∃ ac : List (Int × Int), len = ac.length ∧ RdA w a ac ∧ UA ac := by
  rcases open_slice_fields Try.underlying38 Try.underlying37 (by kernel_rfl) (by kernel_rfl) h with ⟨hcs, _⟩ | ⟨ad, l, c, m, D, Pl, hcs, _, hl, hm, hmm, _, hf⟩
  · simp [Value.cells] at hcs
    obtain ⟨rfl, rfl, rfl⟩ := hcs
    exact ⟨[], rfl, ⟨by simp, fun h0 => absurd h0 (by simp)⟩, fun j => by simp [actB]⟩
  · simp [Value.cells] at hcs
    obtain ⟨rfl, rfl, rfl⟩ := hcs
    simp only [if_true] at hmm
    have key : ∀ i, i < len → ∃ y : Int × Int, (0 ≤ y.2 ∧ y.2 ≤ 18446744073709551615) ∧ w.cell? (ad.add (i * 2)) = some (.int .i64 y.1) ∧ w.cell? (ad.add (i * 2 + 1)) = some (.int .u64 y.2) := by
      intro i hi
      obtain ⟨ys, n, _, _, _, hj⟩ := hf i (by omega)
      obtain ⟨v0, y0, c0, _, t0⟩ := hj 0 _ rfl
      obtain ⟨v1, y1, c1, _, t1⟩ := hj 1 _ rfl
      obtain ⟨a0, e0, _, w0⟩ := DataW.trod_int Try.underlying3 t0
      obtain ⟨a1, e1, _, w1⟩ := DataW.trod_int Try.underlying22 t1
      simp at e0 e1
      subst e0 e1
      exact ⟨(a0, a1), wf_u64 w1, c0, c1⟩
    obtain ⟨g, hg⟩ : ∃ g : Nat → Int × Int, ∀ i, i < len → (0 ≤ (g i).2 ∧ (g i).2 ≤ 18446744073709551615) ∧ w.cell? (ad.add (i * 2)) = some (.int .i64 (g i).1) ∧ w.cell? (ad.add (i * 2 + 1)) = some (.int .u64 (g i).2) :=
      ⟨fun i => if hi : i < len then (key i hi).choose else (0, 0), fun i hi => by simp only [hi, dite_true]; exact (key i hi).choose_spec⟩
    have eg : ∀ j, j < len → ((List.range len).map g).getD j (0, 0) = g j := fun j hj => by simp [List.getD, hj]
    refine ⟨(List.range len).map g, by simp, ⟨?_, fun _ => ⟨ad, rfl, fun j hj => ?_⟩⟩, fun j => ?_⟩
    · unfold maxLen at hm; simp; omega
    · have hj' : j < len := by simpa using hj
      unfold actP actB
      rw [eg j hj']
      exact (hg j hj').2
    · unfold actB
      by_cases hj : j < len
      · rw [eg j hj]; exact (hg j hj).1
      · have : ((List.range len).map g).getD j (0, 0) = (0, 0) := by simp [List.getD, hj]
        rw [this]; simp

/-- Two rows are apart. -/
def Apart (A A' : Option Addr) : Prop := ∀ g, A = some ⟨g, 0, none⟩ → A' ≠ some ⟨g, 0, none⟩
theorem Apart.symm {A A' : Option Addr} (h : Apart A A') : Apart A' A := fun g e e' => h g e' e
theorem fresh_apart {w w1 : World} {b n n' c c' : Nat} {A A' : Option Addr} {l l' : List Int} (ho : Ow w b (.slice A n c) l) (hn : Ow w1 w.heap.size (.slice A' n' c') l') : Apart A A' := by
  intro g e e'
  subst e e'
  have h1 := own_lt ho g rfl
  have h2 := own_base hn g rfl
  omega

/-- The clocks at gc, their hands (which read zh), and a row that reads zs; all of the call's own, and apart. -/
structure Two (w : World) (b n : Nat) (A : Option Addr) (c gc : Nat) (Ah : Option Addr) (ch : Nat) (zs zh : List Int) : Prop where
  now : Ow w b (.slice A n c) zs
  hands : Ow w b (.slice Ah n ch) zh
  ck : Ck w gc (.slice Ah n ch)
  n1 : n = zs.length
  n2 : n = zh.length
  ne : Apart A Ah
section
variable {w w1 : World} {b n c gc ch : Nat} {A Ah : Option Addr} {zs zh : List Int}
theorem Two.below (h : Two w b n A c gc Ah ch zs zh) (hb : Below w.heap.size w w1) : Two w1 b n A c gc Ah ch zs zh :=
  ⟨pw_own_below h.now hb, pw_own_below h.hands hb, blk_below h.ck hb, h.n1, h.n2, h.ne⟩
theorem Two.far (h : Two w b n A c gc Ah ch zs zh) {g : Nat} (hg : w.grownBy w1 (some g)) (h1 : A ≠ some ⟨g, 0, none⟩) (h2 : Ah ≠ some ⟨g, 0, none⟩) {cur : Array Value} (hc : w.heap[g]? = some (.cells cur 22 (0, 0))) : Two w1 b n A c gc Ah ch zs zh := by
  have key : ∀ {A : Option Addr} {c : Nat} {l : List Int}, Ow w b (.slice A n c) l → A ≠ some ⟨g, 0, none⟩ → (Value.slice A n c).ownBlock = none ∨ (Value.slice A n c).ownBlock ≠ some g := by
    intro A c l ho hne
    rcases ho.2 with ⟨e, _⟩ | ⟨g', cap, cur, e, _⟩
    · injection e with e1; subst e1; exact .inl rfl
    · injection e with e1; subst e1
      refine .inr fun e => hne ?_
      simp [Value.ownBlock] at e
      rw [e]
  refine ⟨own_other h.now hg (key h.now h1), own_other h.hands hg (key h.hands h2), blk_grown h.ck hg ?_, h.n1, h.n2, h.ne⟩
  intro e
  injection e with e
  subst e
  rw [h.ck] at hc
  simp at hc
theorem Two.ticked {gh : Nat} (h : Two w b n A c gc (some ⟨gh, 0, none⟩) ch zs zh) {zh' : List Int} (ho : Ow w1 b (.slice (some ⟨gh, 0, none⟩) n ch) zh') (hl : zh'.length = zh.length) (hg : w.grownBy w1 (some gh)) : Two w1 b n A c gc (some ⟨gh, 0, none⟩) ch zs zh' := by
  refine ⟨?_, ho, blk_grown h.ck hg (own_ne h.hands h.ck (by decide)), h.n1, h.n2.trans hl.symm, h.ne⟩
  refine own_other h.now hg ?_
  rcases h.now.2 with ⟨e, _⟩ | ⟨g', cap, cur, e, _⟩
  · injection e with e1; subst e1; exact .inl rfl
  · injection e with e1; subst e1
    refine .inr fun e => ?_
    simp [Value.ownBlock] at e
    subst e
    exact h.ne _ rfl rfl
theorem own_put {g : Nat} {l : List Int} (h : Ow w b (.slice (some ⟨g, 0, none⟩) n c) l) (k : Nat) (x : Int) : Ow (w.setCell ⟨g, k, none⟩ (.int .u64 x)) b (.slice (some ⟨g, 0, none⟩) n c) (l.set k x) ∧ w.grownBy (w.setCell ⟨g, k, none⟩ (.int .u64 x)) (some g) := by
  obtain ⟨e, _⟩ := Ow.rd' h
  subst e
  have h1 := own_store h (k : Int) x
  rw [Int.toNat_natCast] at h1
  refine ⟨?_, h1.2⟩
  show World.ownsRow _ _ _ _ _ (l.set k x).length _
  rw [List.length_set]
  exact h1.1
theorem Two.put {g : Nat} (h : Two w b n (some ⟨g, 0, none⟩) c gc Ah ch zs zh) (k : Nat) (x : Int) : Two (w.setCell ⟨g, k, none⟩ (.int .u64 x)) b n (some ⟨g, 0, none⟩) c gc Ah ch (zs.set k x) zh := by
  obtain ⟨h1, hg⟩ := own_put h.now k x
  refine ⟨h1, own_other h.hands hg ?_, blk_grown h.ck hg (own_ne h.now h.ck (by decide)), by rw [List.length_set]; exact h.n1, h.n2, h.ne⟩
  rcases h.hands.2 with ⟨e, _⟩ | ⟨g', cap, cur, e, _⟩
  · injection e with e1; subst e1; exact .inl rfl
  · injection e with e1; subst e1
    refine .inr fun e => ?_
    simp [Value.ownBlock] at e
    subst e
    exact h.ne _ rfl rfl
/-- A write into a third row. -/
theorem third {g8 c8 : Nat} {z8 : List Int} (ho : Ow w b (.slice (some ⟨g8, 0, none⟩) n c8) z8) (h : Two w b n A c gc Ah ch zs zh) (h1 : Apart A (some ⟨g8, 0, none⟩)) (h2 : Apart (some ⟨g8, 0, none⟩) Ah) (hz : 0 < z8.length) (k : Nat) (x : Int) :
    Ow (w.setCell ⟨g8, k, none⟩ (.int .u64 x)) b (.slice (some ⟨g8, 0, none⟩) n c8) (z8.set k x) ∧ Two (w.setCell ⟨g8, k, none⟩ (.int .u64 x)) b n A c gc Ah ch zs zh := by
  obtain ⟨h3, hg⟩ := own_put ho k x
  obtain ⟨g, e, _, _, _, cur, hc⟩ := Ow.form ho hz
  cases e
  exact ⟨h3, h.far hg (fun e => h1 g8 e rfl) (h2 g8 rfl) hc⟩
theorem own_cell {g : Nat} {z : List Int} (ho : Ow w b (.slice (some ⟨g, 0, none⟩) n c) z) (k : Nat) (hk : k < z.length) : w.cell? ⟨g, k, none⟩ = some (.int .u64 (nth z k)) ∧ w.frozen? ⟨g, k, none⟩ = false := by
  obtain ⟨e, _⟩ := Ow.rd' ho
  have h := own_at (xs := z) (n := z.length) (by rw [e] at ho; exact ho) (k : Int) (by omega) (by omega)
  rw [Int.toNat_natCast] at h
  refine ⟨h.1.trans ?_, h.2⟩
  show some (Value.int .u64 (rd z (k : Int))) = _
  unfold rd nth
  rw [Int.toNat_natCast]

def TickedTwo (w0 : World) (n : Nat) (A : Option Addr) (c gc : Nat) (Ah : Option Addr) (ch : Nat) (zs zh : List Int) (e : Ending) (w' : World) : Prop := e = .returned (.int .i64 0) ∧ Two w' w0.heap.size n A c gc Ah ch zs zh ∧ Below w0.heap.size w0 w'
theorem tick_two {w0 : World} {gh : Nat} (h : Two w w0.heap.size n A c gc (some ⟨gh, 0, none⟩) ch zs zh) (hb : Below w0.heap.size w0 w) (k : Nat) (y : Int) (hk : k < zh.length) (hu : U zh) (hy0 : 0 ≤ y) (hy1 : y ≤ 18446744073709551615) :
    Calls Try.prog 8 #[.pointer (some ⟨gc, 0, none⟩), .int .i64 (k : Int), .int .u64 y] w (TickedTwo w0 n A c gc (some ⟨gh, 0, none⟩) ch zs (zh.set k (sat (nth zh k) y))) := by
  have n2 := h.n2
  subst n2
  refine (tick_in gc gh ch zh k w0.heap.size y w h.ck h.hands hk hu hy0 hy1).mono fun e w' ⟨he, ho, hg⟩ => ?_
  exact ⟨he, h.ticked ho (by rw [List.length_set]) hg, pw_below_grown hb _ hb.size hg (fun j hj => by cases hj; exact own_base h.hands gh rfl)⟩
theorem tick_two_out (h : Two w b n A c gc Ah ch zs zh) (q y : Int) (hq : ¬ (0 ≤ q ∧ q < n)) :
    Calls Try.prog 8 #[.pointer (some ⟨gc, 0, none⟩), .int .i64 q, .int .u64 y] w fun e w' => e = .returned (.int .i64 2) ∧ w = w' := by
  have hm := (Ow.rd' h.hands).2.2.1
  rw [← h.n2] at hm
  exact tick_out gc Ah n ch q y w h.ck hm hq
theorem read_two_out (h : Two w b n A c gc Ah ch zs zh) (q : Int) (hq : ¬ (0 ≤ q ∧ q < n)) :
    Calls Try.prog 9 #[.pointer (some ⟨gc, 0, none⟩), .int .i64 q] w fun e w' => e = .returned (.int .u64 0) ∧ w = w' := by
  have n2 := h.n2
  subst n2
  exact read_out gc Ah ch zh q w h.ck (Ow.rd' h.hands).2 hq
theorem read_two (h : Two w b n A c gc Ah ch zs zh) (k : Nat) (hk : k < zh.length) (m : Nat) :
    Calls Try.prog 9 #[.pointer (some ⟨gc, 0, none⟩), .int .i64 (k : Int)] (w.drewN m) fun e w' => e = .returned (.int .u64 (nth zh k)) ∧ w' = w.drewN m := by
  have h := h.below (pw_below_drewN (Below.refl _ _) m)
  have n2 := h.n2
  subst n2
  exact (read_in gc Ah ch zh k (w.drewN m) h.ck (Ow.rd' h.hands).2 hk).mono fun e w' ⟨he, hw⟩ => ⟨he, hw.symm⟩
theorem hands_two (h : Two w b n A c gc Ah ch zs zh) (hl : n ≤ 70) : Calls Try.prog 10 #[.pointer (some ⟨gc, 0, none⟩)] w (Cloned w zh) := by
  have n2 := h.n2
  subst n2
  exact hands_calls gc Ah ch zh w h.ck (Ow.rd' h.hands).2 (by omega)
theorem skew_two (h : Two w b n A c gc Ah ch zs zh) (hl : n ≤ 70) (hu : U zh) : Calls Try.prog 11 #[.pointer (some ⟨gc, 0, none⟩)] w fun e w' => e = .returned (.int .u64 (skew zh)) ∧ Below w.heap.size w w' := by
  have n2 := h.n2
  subst n2
  exact skew_calls gc Ah ch zh w h.ck (Ow.rd' h.hands).2 (by omega) hu
theorem within_two (h : Two w b n A c gc Ah ch zs zh) (s : Int) (hl : n ≤ 70) (hu : U zh) : Calls Try.prog 12 #[.pointer (some ⟨gc, 0, none⟩), .int .u64 s] w fun e w' => e = .returned (.bool (decide (skew zh ≤ s))) ∧ Below w.heap.size w w' := by
  have n2 := h.n2
  subst n2
  exact within_calls gc Ah ch zh s w h.ck (Ow.rd' h.hands).2 (by omega) hu
theorem rskew_two (h : Two w b n A c gc Ah ch zs zh) (hu : U zs) : Calls Try.prog 18 #[.slice A n c] w fun e w' => e = .returned (.int .u64 (skew zs)) ∧ Drawn0 w w' := by
  have n1 := h.n1
  subst n1
  exact rskew_calls A c zs w (Ow.rd' h.now).2 hu
theorem same_two (h : Two w b n A c gc Ah ch zs zh) {b' c' : Nat} {A' : Option Addr} (ho : Ow w b' (.slice A' n c') zs) : Calls Try.prog 15 #[.slice A' n c', .slice A n c] w fun e w' => e = .returned (.bool true) ∧ Drawn0 w w' := by
  have n1 := h.n1
  subst n1
  exact same_calls A' A c' c zs w (Ow.rd' ho).2 (Ow.rd' h.now).2
end
end Go.Proofs.Ytonchomjddhciaa.Clk
