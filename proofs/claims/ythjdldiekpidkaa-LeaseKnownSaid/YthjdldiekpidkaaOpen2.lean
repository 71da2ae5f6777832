import Derived.Test.YthjdldiekpidkaaOpen
namespace Go.Proofs.Ythjdldiekpidkaa
open Go.Joins Go.ChangeShapes Go.WideShapes Go.RowKit Go.Deep Go.Proofs.YthjdldiekpidkaaW.PrintWords
open Pl
/-- Every field of a change is a number of its type. -/
def FitsA (x : S43) : Prop := (-9223372036854775808 ≤ x.f0 ∧ x.f0 ≤ 9223372036854775807) ∧ (0 ≤ x.f1 ∧ x.f1 ≤ 18446744073709551615) ∧ (0 ≤ x.f2 ∧ x.f2 ≤ 18446744073709551615) ∧ (0 ≤ x.f3 ∧ x.f3 ≤ 18446744073709551615)
theorem wf_i64 {n : Int} (h : (Lit.int .i64 n).wf = true) : -9223372036854775808 ≤ n ∧ n ≤ 9223372036854775807 := by
  have h1 := (Bool.and_eq_true_iff.1 h).1
  have h2 := (Bool.and_eq_true_iff.1 h).2
  exact ⟨of_decide_eq_true h1, of_decide_eq_true h2⟩

theorem acts_open {H : Type} {enc : TypeId × Value → H} {w : World} {base fuel len cap : Nat} {held : Bool} {a : Option Addr} {x : DataW H × List MemPlace}
    (h : DataW.trod enc Try.prog w base (fun _ => true) held fuel 41 (Value.slice a len cap).cells.toList = some x) :
    ∃ ls : List S43, len = ls.length ∧ len ≤ cap ∧ cap ≤ maxLen ∧ Kd.C k43 w a ls.length ls ∧ ∀ y ∈ ls, FitsA y := by
  rcases open_slice_fields Try.underlying41 Try.underlying43 (by kernel_rfl) (by kernel_rfl) h with ⟨hcs, _⟩ | ⟨ad, l, c, m, D, Pl, hcs, _, hl, hm, hmm, _, hf⟩
  · simp [Value.cells] at hcs
    obtain ⟨rfl, rfl, rfl⟩ := hcs
    exact ⟨[], rfl, Nat.le_refl _, Nat.zero_le _, Kd.C_nil _ _, by simp⟩
  · simp [Value.cells] at hcs
    obtain ⟨rfl, rfl, rfl⟩ := hcs
    simp only [if_true] at hmm
    have key : ∀ i, i < len → ∃ y : S43, FitsA y ∧ w.cell? (ad.add (i * 4)) = some (.int .i64 y.f0) ∧ w.cell? (ad.add (i * 4 + 1)) = some (.int .u64 y.f1) ∧ w.cell? (ad.add (i * 4 + 2)) = some (.int .u64 y.f2) ∧ w.cell? (ad.add (i * 4 + 3)) = some (.int .u64 y.f3) := by
      intro i hi
      obtain ⟨ys, n, _, _, _, hj⟩ := hf i (by omega)
      obtain ⟨v0, y0, c0, _, t0⟩ := hj 0 _ rfl
      obtain ⟨v1, y1, c1, _, t1⟩ := hj 1 _ rfl
      obtain ⟨v2, y2, c2, _, t2⟩ := hj 2 _ rfl
      obtain ⟨v3, y3, c3, _, t3⟩ := hj 3 _ rfl
      obtain ⟨a0, e0, _, w0⟩ := DataW.trod_int Try.underlying3 t0
      obtain ⟨a1, e1, _, w1⟩ := DataW.trod_int Try.underlying22 t1
      obtain ⟨a2, e2, _, w2⟩ := DataW.trod_int Try.underlying22 t2
      obtain ⟨a3, e3, _, w3⟩ := DataW.trod_int Try.underlying22 t3
      simp at e0 e1 e2 e3
      subst e0 e1 e2 e3
      exact ⟨⟨a0, a1, a2, a3⟩, ⟨wf_i64 w0, wf_u64 w1, wf_u64 w2, wf_u64 w3⟩, c0, c1, c2, c3⟩
    obtain ⟨g, hg⟩ : ∃ g : Nat → S43, ∀ i, i < len → FitsA (g i) ∧ w.cell? (ad.add (i * 4)) = some (.int .i64 (g i).f0) ∧ w.cell? (ad.add (i * 4 + 1)) = some (.int .u64 (g i).f1) ∧ w.cell? (ad.add (i * 4 + 2)) = some (.int .u64 (g i).f2) ∧ w.cell? (ad.add (i * 4 + 3)) = some (.int .u64 (g i).f3) :=
      ⟨fun i => if hi : i < len then (key i hi).choose else z43, fun i hi => by simp only [hi, dite_true]; exact (key i hi).choose_spec⟩
    refine ⟨(List.range len).map g, by simp, hl, hm, ⟨by simp, ?_, fun _ => ⟨ad, rfl, fun j q hj => ?_⟩⟩, ?_⟩
    · unfold maxLen at hm; simp; omega
    · have hjl : j < len := by
        have := (List.getElem?_eq_some_iff.1 hj).1
        simpa using this
      have hq : q = g j := by
        simp only [List.getElem?_map, List.getElem?_range hjl, Option.map_some, Option.some.injEq] at hj
        exact hj.symm
      subst hq
      obtain ⟨_, c0, c1, c2, c3⟩ := hg j hjl
      refine ⟨[.int .i64 (g j).f0, .int .u64 (g j).f1, .int .u64 (g j).f2, .int .u64 (g j).f3], rfl, k43_mk w (g j), fun i u hu => ?_⟩
      match i, hu with
      | 0, hu => simp only [List.getElem?_cons_zero, Option.some.injEq] at hu; rw [← hu]; exact c0
      | 1, hu => simp only [List.getElem?_cons_zero, List.getElem?_cons_succ, Option.some.injEq] at hu; rw [← hu]; exact c1
      | 2, hu => simp only [List.getElem?_cons_zero, List.getElem?_cons_succ, Option.some.injEq] at hu; rw [← hu]; exact c2
      | 3, hu => simp only [List.getElem?_cons_zero, List.getElem?_cons_succ, Option.some.injEq] at hu; rw [← hu]; exact c3
      | i + 4, hu => simp at hu
    · intro y hy
      simp at hy
      obtain ⟨i, hi, rfl⟩ := hy
      exact (hg i hi).1
end Go.Proofs.Ythjdldiekpidkaa
