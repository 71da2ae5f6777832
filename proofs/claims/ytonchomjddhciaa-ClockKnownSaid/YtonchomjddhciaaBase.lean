/- clock: what all walks of this layer lean on: the imports, small lemmas, the sum that tells its carry. -/
import Derived.Test.YtonchomjddhciaaProg
import Derived.Below
import Derived.Deep.Draws
import Derived.Deep.AppendLies
import Derived.Maps.AppendAt
import Derived.OwnWalk
import Derived.Laws.BytesArg
import Derived.Laws.MakeOwn
import Derived.Laws.OwnMore
import Derived.Deep.OwnRows
import Derived.Tactics
import Derived.Lib.ConvBytes
import Derived.Laws.Slices
import Derived.WalkKit
import Derived.KernelRfl
import Derived.RowKit3
import Derived.Deep.LoopGhost
import Derived.Deep.QuietTactic
import Derived.BigQuiet
import Derived.WideLaws
import Derived.Deep.DeepCutAuto
import Derived.Deep.CutBlock
import Derived.Deep.RegionHeld3
import Derived.Laws.Rows
import Derived.Lib.AppendStr
import Derived.ArgAppend
import Derived.Laws.IdiomCopy
import Derived.OrdersHeld
import Derived.Laws.BitsLemmas
import Derived.RowKit
import Derived.Test.YtonchomjddhciaaWWords
import Derived.Test.YtonchomjddhciaaWLast
import Derived.Test.YtonchomjddhciaaWTab
import Derived.Test.YtonchomjddhciaaWFour
import Derived.Test.YtonchomjddhciaaWQPut
import Derived.Test.YtonchomjddhciaaWApart
import Derived.Test.YtonchomjddhciaaWArr
import Derived.Test.YtonchomjddhciaaWZeros
import Derived.Test.YtonchomjddhciaaWFoot
import Derived.Test.YtonchomjddhciaaWKept
import Derived.Test.YtonchomjddhciaaWShare
import Derived.Test.YtonchomjddhciaaWN
import Derived.Test.YtonchomjddhciaaWFootNe
import Derived.Test.YtonchomjddhciaaWAt
import Derived.Test.YtonchomjddhciaaWEqStruct
import Derived.Test.YtonchomjddhciaaWRepsOne
import Derived.Test.YtonchomjddhciaaWInv
import Derived.Test.YtonchomjddhciaaWInvWords
import Derived.Test.YtonchomjddhciaaWGuard
import Derived.Test.YtonchomjddhciaaWNEv
import Derived.Test.YtonchomjddhciaaWMore
import Derived.Laws.Externs
import Derived.Great.BuildSlice
import Derived.WalkSpells
import Derived.Test.YtonchomjddhciaaPure
namespace Go.Proofs.Ytonchomjddhciaa.Clk
open Go.RowKit Go.Proofs.YtonchomjddhciaaW.PrintWords Go.Proofs.YtonchomjddhciaaW.PrintLast Go.Proofs.YtonchomjddhciaaW.PrintMore
set_option linter.unusedVariables false

theorem info22 : (Try.prog.info? 22).map (fun i => (i.zero, i.size, i.bytes)) = some (some (.int .u64 0), 1, 8) := by kernel_rfl

/-- bits.Add64 with no carry handed in. -/
theorem add64_run (x y : Int) (hx : 0 ≤ x) (hy : 0 ≤ y) (w : World) :
    (callFunc 28 #[.int .u64 x, .int .u64 y, .int .u64 0]).run Try.prog w = .ok (.value (.tuple #[.int .u64 ((x + y + 0) % 18446744073709551616), .int .u64 ((x + y + 0) / 18446744073709551616)])) w := by
  have h := run_add64 (P := Try.prog) x y 0 hx hy (Int.le_refl 0) (by decide) w
  rw [run_callFunc_extern Try.func28 (by kernel_rfl) (by kernel_rfl) (by kernel_rfl) (e := add64Entry) (by kernel_rfl)]
  simp only [h]
  rfl

theorem add64_fit (x y : Int) (hx : 0 ≤ x) (hy : 0 ≤ y) (h : x + y ≤ 18446744073709551615) (w : World) :
    (callFunc 28 #[.int .u64 x, .int .u64 y, .int .u64 0]).run Try.prog w = .ok (.value (.tuple #[.int .u64 (x + y), .int .u64 0])) w := by
  have h1 := add64_run x y hx hy w
  rw [show (x + y + 0) % 18446744073709551616 = x + y by omega, show (x + y + 0) / 18446744073709551616 = 0 by omega] at h1
  exact h1
theorem add64_over (x y : Int) (hx : 0 ≤ x) (hy : 0 ≤ y) (hx1 : x ≤ 18446744073709551615) (hy1 : y ≤ 18446744073709551615) (h : ¬ x + y ≤ 18446744073709551615) (w : World) :
    (callFunc 28 #[.int .u64 x, .int .u64 y, .int .u64 0]).run Try.prog w = .ok (.value (.tuple #[.int .u64 ((x + y + 0) % 18446744073709551616), .int .u64 1])) w := by
  have h1 := add64_run x y hx hy w
  rw [show (x + y + 0) / 18446744073709551616 = 1 by omega] at h1
  exact h1

theorem wf_u64 {n : Int} (h : (Lit.int .u64 n).wf = true) : 0 ≤ n ∧ n ≤ 18446744073709551615 := by
  have h1 := (Bool.and_eq_true_iff.1 h).1
  have h2 := (Bool.and_eq_true_iff.1 h).2
  exact ⟨of_decide_eq_true h1, of_decide_eq_true h2⟩

/-- A slice that is read. -/
abbrev Rd (w : World) (A : Option Addr) (l : List Int) : Prop := ReadsInt w .u64 A l.length l
/-- A slice of the call's own. -/
abbrev Ow (w : World) (b : Nat) (v : Value) (l : List Int) : Prop := w.ownsRow b 22 1 v l.length (nums .u64 l)

theorem Rd.val {w : World} {A : Option Addr} {l : List Int} (h : Rd w A l) (k : Nat) (hk : k < l.length) : ∃ ad, A = some ad ∧ w.cell? (ad.add k) = some (.int .u64 (nth l k)) := by
  obtain ⟨ad, e, hc⟩ := h.2.2 (by omega)
  exact ⟨ad, e, hc k hk⟩
theorem Rd.nil {w : World} {l : List Int} (h : Rd w none l) : l = [] := by
  rcases Nat.eq_zero_or_pos l.length with h0 | h0
  · exact List.eq_nil_of_length_eq_zero h0
  · obtain ⟨ad, h, _⟩ := h.2.2 h0
    cases h
theorem Ow.rd {w : World} {b : Nat} {v : Value} {l : List Int} (h : Ow w b v l) : ∃ A c, v = .slice A l.length c ∧ Rd w A l := own_reads h
theorem Ow.form {w : World} {b : Nat} {A : Option Addr} {n c : Nat} {l : List Int} (h : Ow w b (.slice A n c) l) (hp : 0 < l.length) : ∃ g, A = some ⟨g, 0, none⟩ ∧ n = l.length ∧ b ≤ g ∧ g < w.heap.size ∧ ∃ cur, w.heap[g]? = some (.cells cur 22 (0, 0)) := by
  rcases h.2 with ⟨_, h0⟩ | ⟨g, cap, cur, e, hb, hg, hr⟩
  · omega
  · injection e with e1 e2 e3
    exact ⟨g, e1, e2, hb, (Array.getElem?_eq_some_iff.1 hg).1, cur, hg⟩
theorem Ow.rd' {w : World} {b : Nat} {A : Option Addr} {n c : Nat} {l : List Int} (h : Ow w b (.slice A n c) l) : n = l.length ∧ Rd w A l := by
  obtain ⟨A', c', e, hr⟩ := h.rd
  injection e with e1 e2 e3
  subst e1
  exact ⟨e2, hr⟩
end Go.Proofs.Ytonchomjddhciaa.Clk
