/- The plain laws of LeaseChanges: the last one found, granted, renewed. -/
import Derived.Test.YthjdldiekpidkaaPure
import Derived.Test.YthjdldiekpidkaaLast
import Derived.Test.YthjdldiekpidkaaPlxD
import Derived.Test.YthjdldiekpidkaaPlx2
namespace Go.Proofs.Ythjdldiekpidkaa
open Pl Go.RowKit Go.Proofs.YthjdldiekpidkaaW.PrintWords
set_option linter.unusedVariables false

def to25 (x : S24) : S25 := ⟨x.f0, x.f1, x.f2, x.f3, x.f4⟩

/-- z is the first one of the greatest epoch, from lo up to hi. -/
def FirstMax (l : List S24) (lo hi j : Nat) : Prop := lo ≤ j ∧ j < hi ∧ (∀ t, lo ≤ t → t < hi → (rd_T24 l t).f0 ≤ (rd_T24 l j).f0) ∧ ∀ t, lo ≤ t → t < j → (rd_T24 l t).f0 < (rd_T24 l j).f0

theorem FirstMax.uniq {l : List S24} {lo hi i j : Nat} (h : FirstMax l lo hi i) (g : FirstMax l lo hi j) : i = j := by
  obtain ⟨h1, h2, h3, h4⟩ := h
  obtain ⟨g1, g2, g3, g4⟩ := g
  rcases Nat.lt_trichotomy i j with h | h | h
  · have := g4 i h1 h; have := h3 j g1 g2; omega
  · exact h
  · have := h4 j g1 h; have := g3 i h1 h2; omega

theorem lastAt_first (l : List S24) : ∀ k, ∃ j, FirstMax l 0 (k + 1) j ∧ lastAt l (k + 1) = rd_T24 l j
  | 0 => by
    refine ⟨0, ⟨Nat.le_refl _, Nat.lt_succ_self _, fun t _ h => ?_, fun t _ h => by omega⟩, rfl⟩
    have : t = 0 := by omega
    subst this
    exact Int.le_refl _
  | k + 1 => by
    obtain ⟨j, ⟨j1, j2, j3, j4⟩, e⟩ := lastAt_first l k
    by_cases h : (rd_T24 l j).f0 < (rd_T24 l ((k + 1 : Nat) : Int)).f0
    · refine ⟨k + 1, ⟨Nat.zero_le _, Nat.lt_succ_self _, fun t _ ht => ?_, fun t _ ht => ?_⟩, ?_⟩
      · rcases Nat.lt_or_ge t (k + 1) with h1 | h1
        · have := j3 t (Nat.zero_le _) h1; omega
        · have : t = k + 1 := by omega
          subst this; exact Int.le_refl _
      · have := j3 t (Nat.zero_le _) ht; omega
      · rw [lastAt_succ, if_pos (.inr (by rw [e]; exact h))]
    · refine ⟨j, ⟨j1, by omega, fun t _ ht => ?_, j4⟩, ?_⟩
      · rcases Nat.lt_or_ge t (k + 1) with h1 | h1
        · exact j3 t (Nat.zero_le _) h1
        · have : t = k + 1 := by omega
          subst this; omega
      · rw [lastAt_succ, if_neg (by rw [e]; omega), e]

theorem rd_map (l : List S24) (t : Int) : rd_T25 (l.map to25) t = to25 (rd_T24 l t) := by
  unfold rd_T25 rd_T24
  rw [List.getD_eq_getElem?_getD, List.getD_eq_getElem?_getD, List.getElem?_map]
  cases l[t.toNat]? <;> rfl

def out25 (x : S24) : Int × Int × Int × Int × Bool := (x.f0, x.f1, x.f2, x.f3, x.f4)

theorem refLast_loop (l : List S24) (hl : l.length ≤ 1000000) : ∀ (i : Nat) (z : S24), i ≤ l.length → (i < l.length → ∃ j, FirstMax l i l.length j ∧ z = rd_T24 l j) →
    ∃ z', chartroomref13_Last.l0 (i + 1) (l.map to25) ((i : Int) - 1) z.f0 z.f1 z.f2 z.f3 z.f4 = some (out25 z') ∧ (0 < l.length → ∃ j, FirstMax l 0 l.length j ∧ z' = rd_T24 l j) ∧ (l.length = 0 → z' = z)
  | 0, z, _, hz => by
    refine ⟨z, ?_, fun h => hz h, fun _ => rfl⟩
    unfold chartroomref13_Last.l0
    rw [if_neg (by omega)]
    rfl
  | i + 1, z, hi, hz => by
    have e1 : ((i + 1 : Nat) : Int) - 1 = (i : Int) := by omega
    have e2 : wrap64 ((i : Int) - 1) = (i : Int) - 1 := by unfold wrap64; omega
    have e3 : wrap64 (((l.map to25).length : Int) - 1) = (l.length : Int) - 1 := by rw [List.length_map]; unfold wrap64; omega
    have e4 : ((l.map to25).length : Int) = l.length := by rw [List.length_map]
    rw [e1]
    unfold chartroomref13_Last.l0
    rw [if_pos (by omega), e3, e2, e4, rd_map]
    have new : (i + 1 < l.length → z.f0 ≤ (rd_T24 l (i : Int)).f0) → FirstMax l i l.length i := fun h => by
      refine ⟨Nat.le_refl _, by omega, fun t ht1 ht2 => ?_, fun t h1 h2 => by omega⟩
      rcases Nat.lt_or_ge i t with h1 | h1
      · obtain ⟨j, ⟨_, _, j3, _⟩, ez⟩ := hz (by omega)
        have := j3 t h1 ht2
        have := h (by omega)
        rw [ez] at this; omega
      · have : t = i := by omega
        subst this; exact Int.le_refl _
    by_cases hq : (i : Int) = (l.length : Int) - 1
    · rw [if_pos hq, if_pos (by omega), if_pos (by omega)]
      obtain ⟨z', h1, h2, h3⟩ := refLast_loop l hl i (rd_T24 l i) (by omega) (fun _ => ⟨i, new (fun h => by omega), rfl⟩)
      exact ⟨z', h1, h2, fun h => by omega⟩
    · rw [if_neg hq, if_pos (by omega), if_pos (by omega)]
      by_cases hc : (rd_T24 l (i : Int)).f0 ≥ z.f0
      · rw [if_pos (show (to25 (rd_T24 l ↑i)).f0 ≥ z.f0 from hc)]
        obtain ⟨z', h1, h2, h3⟩ := refLast_loop l hl i (rd_T24 l i) (by omega) (fun _ => ⟨i, new (fun _ => hc), rfl⟩)
        exact ⟨z', h1, h2, fun h => by omega⟩
      · rw [if_neg (show ¬ (to25 (rd_T24 l ↑i)).f0 ≥ z.f0 from hc)]
        obtain ⟨z', h1, h2, h3⟩ := refLast_loop l hl i z (by omega) (fun _ => by
          obtain ⟨j, ⟨j1, j2, j3, j4⟩, ez⟩ := hz (by omega)
          refine ⟨j, ⟨by omega, j2, fun t h1 h2 => ?_, fun t h1 h2 => ?_⟩, ez⟩
          · rcases Nat.lt_or_ge i t with h | h
            · exact j3 t h h2
            · have : t = i := by omega
              subst this; rw [ez] at hc; omega
          · rcases Nat.lt_or_ge i t with h | h
            · exact j4 t h h2
            · have : t = i := by omega
              subst this; rw [ez] at hc; omega)
        exact ⟨z', h1, h2, fun h => by omega⟩

theorem refLast_is (l : List S24) (hl : l.length ≤ 1000000) : chartroomref13_Last.f (l.length + 1) (l.map to25) = some (out25 (lastAt l l.length)) := by
  unfold chartroomref13_Last.f
  have e3 : wrap64 (((l.map to25).length : Int) - 1) = (l.length : Int) - 1 := by rw [List.length_map]; unfold wrap64; omega
  rw [e3]
  obtain ⟨z', h1, h2, h3⟩ := refLast_loop l hl l.length z24 (Nat.le_refl _) (fun h => absurd h (Nat.lt_irrefl _))
  refine h1.trans ?_
  congr 2
  rcases Nat.eq_zero_or_pos l.length with h | h
  · rw [h3 h, h]; rfl
  · obtain ⟨j, f, e⟩ := h2 h
    obtain ⟨k, hk⟩ : ∃ k, l.length = k + 1 := ⟨l.length - 1, by omega⟩
    rw [hk] at f ⊢
    obtain ⟨j', f', e'⟩ := lastAt_first l k
    rw [e, e', f.uniq f']

theorem grant_both (x : S24) (p i u : Int) (h0 : 0 ≤ x.f0 ∧ x.f0 ≤ 18446744073709551615) : ∃ (m : S24) (e : Int), lease_Lease_Grant.f x.f0 x.f1 x.f2 x.f3 x.f4 p i u = some (m.f0, m.f1, m.f2, m.f3, m.f4, e) ∧ chartroomref13_Grant.f x.f0 x.f1 x.f2 x.f3 x.f4 p i u = some (m.f0, m.f1, m.f2, m.f3, m.f4, e) := by
  unfold lease_Lease_Grant.f chartroomref13_Grant.f lease_Lease_next.f
  simp only [chartroomref13_most.f, Option.bind_some]
  by_cases h : x.f0 = 18446744073709551615
  · rw [if_pos h, if_pos h]
    exact ⟨x, 131, rfl, rfl⟩
  · rw [if_neg h, if_neg h]
    exact ⟨⟨IntKind.u64.wrap (x.f0 + 1), p, i, u, true⟩, 0, rfl, rfl⟩

theorem renew_ref (x : S24) (u : Int) : chartroomref13_Renew.f x.f0 x.f1 x.f2 x.f3 x.f4 u = some (x.f0, x.f1, x.f2, mx x.f3 u, x.f4) := by
  unfold chartroomref13_Renew.f
  by_cases h : u < x.f3
  · rw [if_pos h, show mx x.f3 u = x.f3 by unfold mx; omega]
  · rw [if_neg h, show mx x.f3 u = u by unfold mx; omega]
end Go.Proofs.Ythjdldiekpidkaa
