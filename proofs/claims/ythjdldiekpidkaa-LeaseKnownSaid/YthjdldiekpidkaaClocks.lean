/- LeaseClocks answers true: the printed walk with the plain law. -/
import Derived.Test.YthjdldiekpidkaaPlxC
import Derived.Test.YthjdldiekpidkaaPure
import Derived.Test.YthjdldiekpidkaaOpen
namespace Go.Proofs.Ythjdldiekpidkaa
open Pl Go.RowKit Go.Proofs.YthjdldiekpidkaaW.PrintWords

theorem try_out (a0 a1 a2 a3 : Int) (b : Bool) (c s : Int) (v : Bool) (h : lease_Lease_Over.f a0 a1 a2 a3 b c s = some v) : ∃ p e, lease_Lease_Try.f a0 a1 a2 a3 b c s = some (p, e) ∧ (e = 130 ↔ v = false) := by
  unfold lease_Lease_Try.f
  rw [h]
  simp only [Option.bind_some, lease_Lease_next.f]
  cases v
  · exact ⟨0, 130, rfl, by simp⟩
  · by_cases h0 : a0 = 18446744073709551615
    · rw [if_pos rfl, if_pos h0]
      exact ⟨0, 131, rfl, by simp⟩
    · rw [if_pos rfl, if_neg h0]
      exact ⟨_, 0, rfl, by simp⟩

theorem clocks_law (a0 a1 a2 a3 : Int) (h : Bool) (a b s : Int) (h3 : 0 ≤ a3 ∧ a3 ≤ 18446744073709551615) (ha : 0 ≤ a ∧ a ≤ 18446744073709551615) (hb : 0 ≤ b ∧ b ≤ 18446744073709551615) (hs : 0 ≤ s ∧ s ≤ 18446744073709551615) :
    chartroomlaw13_LeaseClocks.f 1 a0 a1 a2 a3 h a b s = some true := by
  unfold chartroomlaw13_LeaseClocks.f
  simp only [chartroomlaw13_LeaseClocks.j0]
  have e0 : IntKind.u64.wrap (mx a b - mn a b) = mx a b - mn a b := (w64 _).trans (Int.emod_eq_of_lt (by unfold mx mn; omega) (by unfold mx mn; omega))
  by_cases hd : IntKind.u64.wrap (mx a b - mn a b) > s
  · rw [if_pos hd, if_pos trivial]; rfl
  · rw [if_neg hd]
    rw [e0] at hd
    cases h
    · rfl
    · rw [if_neg (by simp)]
      obtain ⟨v, o1, _, o3, _⟩ := over_both a0 a1 a2 a3 true a s h3 ha hs
      obtain ⟨p, e, t1, t2⟩ := try_out a0 a1 a2 a3 true a s v o1
      have o4 := o3 rfl
      rw [t1, o1]
      simp only [Option.bind_some]
      cases v
      · rw [if_pos (t2.2 rfl)]; rfl
      · have h5 : a - a3 > s := of_decide_eq_true o4.symm
        have h6 : b > a3 ∧ a > a3 := by unfold mx mn at hd; omega
        rw [if_neg (fun h => absurd (t2.1 h) (by simp)), if_pos rfl, if_pos h6.1, if_pos h6.2]; rfl

theorem clocks_row (x : S24) (a1 a2 a3 : Int) (w : World) (hx : Fits x) (h1 : (Lit.int .u64 a1).wf = true) (h2 : (Lit.int .u64 a2).wf = true) (h3 : (Lit.int .u64 a3).wf = true) :
    Calls Try.prog 4 #[.agg #[.int .u64 x.f0, .int .u64 x.f1, .int .u64 x.f2, .int .u64 x.f3, .bool x.f4], .int .u64 a1, .int .u64 a2, .int .u64 a3] w fun e w' => e = .returned (.bool true) ∧ Below w.heap.size w w' :=
  chartroomlaw13_LeaseClocks.calls 1 _ _ _ _ _ a1 a2 a3 true w (clocks_law _ _ _ _ _ _ _ _ hx.2.2.2 (wf_u64 h1) (wf_u64 h2) (wf_u64 h3))
end Go.Proofs.Ythjdldiekpidkaa
