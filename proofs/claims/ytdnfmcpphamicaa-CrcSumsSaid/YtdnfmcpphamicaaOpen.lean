/- How a slice of byte slices that came in is read as a row of rows; no condition. -/
import Derived.Test.YtdnfmcpphamicaaSumsWalk
import Derived.Deep.Matrix
namespace Go.Proofs.Ytdnfmcpphamicaa
open Go.Deep Go.RowKit Go.Proofs.YtdnfmcpphamicaaW.PrintWords

theorem rows_open {H : Type} {enc : TypeId × Value → H} {w : World} {base fuel len cap : Nat} {held : Bool} {a : Option Addr} {x : DataW H × List MemPlace}
    (h : DataW.trod enc Try.prog w base (fun _ => true) held fuel 31 (Value.slice a len cap).cells.toList = some x) :
    ∃ ls : List (List Int), len = ls.length ∧ len ≤ cap ∧ Kd.C (Kd.slice 5 (Kd.int .u8)) w a ls.length ls := by
  rcases open_int_rows Try.underlying31 Try.underlying22 Try.underlying5 (by kernel_rfl) (by kernel_rfl) h with ⟨hcs, _⟩ | ⟨ad, l, c, A, L, C, Z, hcs, _, hl, hm, _, hrow⟩
  · simp [Value.cells] at hcs
    obtain ⟨rfl, rfl, rfl⟩ := hcs
    exact ⟨[], rfl, Nat.le_refl _, Kd.C_nil _ _⟩
  · simp [Value.cells] at hcs
    obtain ⟨rfl, rfl, rfl⟩ := hcs
    refine ⟨(List.range len).map fun r => (Z r).take (L r), by simp, hl, by simp, by unfold maxLen at hm; simp; omega, fun _ => ⟨ad, rfl, fun j p hj => ?_⟩⟩
    have hjl : j < len := by
      have := (List.getElem?_eq_some_iff.1 hj).1
      simpa using this
    have hp : p = (Z j).take (L j) := by
      simp only [List.getElem?_map, List.getElem?_range hjl, Option.map_some, Option.some.injEq] at hj
      exact hj.symm
    obtain ⟨h1, h2, h3, h4, _, h6, h7⟩ := hrow j (by omega)
    have hpl : p.length = L j := by rw [hp, List.length_take, h4]; omega
    refine ⟨[.slice (A j) (L j) (C j)], rfl, ⟨A j, C j, by rw [hpl], by rw [hpl]; exact h2, rfl, ?_, fun h0 => ?_⟩, fun i u hu => ?_⟩
    · rw [hpl]; unfold maxLen at h3; omega
    · rw [hpl] at h0
      cases hA : A j with
      | none => have := h6 hA; omega
      | some ad2 =>
        refine ⟨ad2, rfl, fun i q hq => ⟨[.int .u8 q], rfl, rfl, fun k u hu => ?_⟩⟩
        have hil : i < L j := by
          have := (List.getElem?_eq_some_iff.1 hq).1
          omega
        have hq2 : (Z j).getD i 0 = q := by
          rw [hp, List.getElem?_take, if_pos hil] at hq
          rw [List.getD_eq_getElem?_getD, hq]; rfl
        cases k with
        | succ k => simp at hu
        | zero =>
          simp only [List.getElem?_cons_zero, Option.some.injEq] at hu
          have h8 := (h7 ad2 hA).2 i (by omega)
          rw [← hu, ← hq2, ← h8]
          simp [Kd.int, Kd.scalar]
    · cases i with
      | succ i => simp at hu
      | zero =>
        simp only [List.getElem?_cons_zero, Option.some.injEq] at hu
        rw [← hu, ← h1]
        simp [Kd.slice]
end Go.Proofs.Ytdnfmcpphamicaa
