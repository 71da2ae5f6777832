import Derived.Test.YthjdldiekpidkaaPlx1
namespace Go.Proofs.Ythjdldiekpidkaa
open Pl
set_option linter.unusedVariables false

theorem dcong {p q : Prop} [Decidable p] [Decidable q] (h : p ↔ q) : decide p = decide q := by
  by_cases hp : p
  · rw [decide_eq_true hp, decide_eq_true (h.1 hp)]
  · rw [decide_eq_false hp, decide_eq_false (fun hq => hp (h.2 hq))]
theorem w64 (x : Int) : IntKind.u64.wrap x = x % 18446744073709551616 := rfl

theorem over_both (a0 a1 a2 a3 : Int) (b : Bool) (c s : Int) (h3 : 0 ≤ a3 ∧ a3 ≤ 18446744073709551615) (hc : 0 ≤ c ∧ c ≤ 18446744073709551615) (hs : 0 ≤ s ∧ s ≤ 18446744073709551615) :
    ∃ v, lease_Lease_Over.f a0 a1 a2 a3 b c s = some v ∧ chartroomref13_Over.f a0 a1 a2 a3 b c s = some v ∧ (b = true → v = decide (c - a3 > s)) ∧ (b = false → v = true) := by
  unfold lease_Lease_Over.f chartroomref13_Over.f
  rw [if_pos ⟨h3.1, hs.1⟩]
  refine ⟨_, rfl, ?_, ?_, ?_⟩
  · cases b
    · rfl
    · rw [if_pos rfl]
      by_cases h : c > a3
      · rw [if_pos h]
        congr 1
        have e0 : IntKind.u64.wrap (c - a3) = c - a3 := (w64 _).trans (Int.emod_eq_of_lt (by omega) (by omega))
        rw [dcong (show IntKind.u64.wrap (c - a3) > s ↔ c - a3 > s by rw [e0])]
        by_cases h2 : c - a3 > s
        · have e1 : (a3 + s + 0) / 18446744073709551616 = 0 := by omega
          have e2 : (a3 + s + 0) % 18446744073709551616 = a3 + s := by omega
          rw [e1, e2, decide_eq_true h2]
          simp
          omega
        · rw [decide_eq_false h2]
          by_cases h4 : a3 + s + 0 < 18446744073709551616
          · have e2 : (a3 + s + 0) % 18446744073709551616 = a3 + s := by omega
            rw [e2]
            have : ¬ (a3 + s < c) := by omega
            simp [this]
          · have e1 : (a3 + s + 0) / 18446744073709551616 = 1 := by omega
            rw [e1]
            simp
      · rw [if_neg h]
        congr 1
        by_cases h4 : a3 + s + 0 < 18446744073709551616
        · have e2 : (a3 + s + 0) % 18446744073709551616 = a3 + s := by omega
          rw [e2]
          have : ¬ (a3 + s < c) := by omega
          simp [this]
        · have e1 : (a3 + s + 0) / 18446744073709551616 = 1 := by omega
          rw [e1]
          simp
  · rintro rfl
    by_cases h2 : c - a3 > s
    · have e1 : (a3 + s + 0) / 18446744073709551616 = 0 := by omega
      have e2 : (a3 + s + 0) % 18446744073709551616 = a3 + s := by omega
      rw [e1, e2, decide_eq_true h2]
      simp
      omega
    · rw [decide_eq_false h2]
      by_cases h4 : a3 + s + 0 < 18446744073709551616
      · have e2 : (a3 + s + 0) % 18446744073709551616 = a3 + s := by omega
        rw [e2]
        have : ¬ (a3 + s < c) := by omega
        simp [this]
      · have e1 : (a3 + s + 0) / 18446744073709551616 = 1 := by omega
        rw [e1]
        simp
  · rintro rfl
    simp

theorem try_both (a0 a1 a2 a3 : Int) (b : Bool) (c s : Int) (h0 : 0 ≤ a0 ∧ a0 ≤ 18446744073709551615) (h3 : 0 ≤ a3 ∧ a3 ≤ 18446744073709551615) (hc : 0 ≤ c ∧ c ≤ 18446744073709551615) (hs : 0 ≤ s ∧ s ≤ 18446744073709551615) :
    ∃ p e, lease_Lease_Try.f a0 a1 a2 a3 b c s = some (p, e) ∧ chartroomref13_Try.f a0 a1 a2 a3 b c s = some (p, e) := by
  obtain ⟨v, h1, h2, _⟩ := over_both a0 a1 a2 a3 b c s h3 hc hs
  unfold lease_Lease_Try.f chartroomref13_Try.f
  rw [h1, h2]
  simp only [Option.bind_some, lease_Lease_next.f, chartroomref13_most.f]
  cases v
  · exact ⟨_, _, rfl, rfl⟩
  · by_cases h : a0 = 18446744073709551615
    · rw [if_pos rfl, if_pos h, if_pos rfl]
      exact ⟨_, _, rfl, rfl⟩
    · rw [if_pos rfl, if_neg h, if_pos rfl]
      exact ⟨_, _, rfl, rfl⟩

theorem owns_both (a0 a1 a2 a3 : Int) (b : Bool) (p i e : Int) : ∃ v, lease_Lease_Owns.f a0 a1 a2 a3 b p i e = some v ∧ chartroomref13_Owns.f a0 a1 a2 a3 b p i e = some v ∧ (v = true ↔ b = true ∧ a1 = p ∧ a2 = i ∧ a0 = e) := by
  have h : lease_Lease_Owns.f a0 a1 a2 a3 b p i e = chartroomref13_Owns.f a0 a1 a2 a3 b p i e := rfl
  rw [h]
  unfold chartroomref13_Owns.f
  cases b
  · exact ⟨false, rfl, rfl, by simp⟩
  by_cases h1 : a1 = p
  · by_cases h2 : a2 = i
    · rw [if_pos rfl, if_pos h1, if_pos h2]
      exact ⟨_, rfl, rfl, by simp [h1, h2]⟩
    · rw [if_pos rfl, if_pos h1, if_neg h2]
      exact ⟨_, rfl, rfl, by simp [h2]⟩
  · rw [if_pos rfl, if_neg h1]
    exact ⟨_, rfl, rfl, by simp [h1]⟩

theorem fence_both (a0 a1 a2 a3 : Int) (b : Bool) (p i e : Int) : ∃ v, lease_Lease_Fence.f a0 a1 a2 a3 b p i e = some v ∧ chartroomref13_Fence.f a0 a1 a2 a3 b p i e = some v ∧ (b = true ∧ a1 = p ∧ a2 = i ∧ a0 = e → v = 0) ∧ (¬ (b = true ∧ a1 = p ∧ a2 = i ∧ a0 = e) → v = 200) := by
  obtain ⟨v, h1, h2, h3⟩ := owns_both a0 a1 a2 a3 b p i e
  unfold lease_Lease_Fence.f chartroomref13_Fence.f
  rw [h1, h2]
  simp only [Option.bind_some]
  cases v
  · exact ⟨200, rfl, rfl, fun h => absurd (h3.2 h) (by simp), fun _ => rfl⟩
  · exact ⟨0, rfl, rfl, fun _ => rfl, fun h => absurd (h3.1 rfl) h⟩

theorem until_both (c s : Int) (hc : 0 ≤ c ∧ c ≤ 18446744073709551615) (hs : 0 ≤ s ∧ s ≤ 18446744073709551615) : ∃ v, lease_Until.f c s = some v ∧ chartroomref13_Until.f c s = some v := by
  unfold lease_Until.f chartroomref13_Until.f
  rw [if_pos ⟨hc.1, hs.1⟩]
  simp only [chartroomref13_most.f, Option.bind_some]
  have e0 : IntKind.u64.wrap (18446744073709551615 - c) = 18446744073709551615 - c := (w64 _).trans (Int.emod_eq_of_lt (by omega) (by omega))
  by_cases h : s > 18446744073709551615 - c
  · rw [if_pos (show (c + s + 0) / 18446744073709551616 > 0 by omega), if_pos (show s > IntKind.u64.wrap (18446744073709551615 - c) by rw [e0]; exact h)]
    exact ⟨_, rfl, rfl⟩
  · rw [if_neg (show ¬ (c + s + 0) / 18446744073709551616 > 0 by omega), if_neg (show ¬ s > IntKind.u64.wrap (18446744073709551615 - c) by rw [e0]; exact h), Int.add_zero]
    exact ⟨_, rfl, rfl⟩
end Go.Proofs.Ythjdldiekpidkaa
