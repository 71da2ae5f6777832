/- LeaseTells answers true: the walk with the plain laws. -/
import Derived.Test.YthjdldiekpidkaaTells
import Derived.Test.YthjdldiekpidkaaPure
import Derived.Test.YthjdldiekpidkaaOpen
namespace Go.Proofs.Ythjdldiekpidkaa
open Pl Go.RowKit

theorem tells_row (x : S24) (a1 a2 a3 a4 a5 : Int) (w : World) (hx : Fits x) (h1 : (Lit.int .u64 a1).wf = true) (h2 : (Lit.int .u64 a2).wf = true) :
    Calls Try.prog 3 #[.agg #[.int .u64 x.f0, .int .u64 x.f1, .int .u64 x.f2, .int .u64 x.f3, .bool x.f4], .int .u64 a1, .int .u64 a2, .int .u64 a3, .int .u64 a4, .int .u64 a5] w fun e w' => e = .returned (.bool true) ∧ Below w.heap.size w w' := by
  obtain ⟨p, e, t1, t2⟩ := try_both x.f0 x.f1 x.f2 x.f3 x.f4 a1 a2 hx.1 hx.2.2.2 (wf_u64 h1) (wf_u64 h2)
  obtain ⟨ov, o1, o2, _⟩ := over_both x.f0 x.f1 x.f2 x.f3 x.f4 a1 a2 hx.2.2.2 (wf_u64 h1) (wf_u64 h2)
  obtain ⟨ow, v1, v2, _⟩ := owns_both x.f0 x.f1 x.f2 x.f3 x.f4 a3 a4 a5
  obtain ⟨fe, f1, f2, _⟩ := fence_both x.f0 x.f1 x.f2 x.f3 x.f4 a3 a4 a5
  obtain ⟨un, u1, u2⟩ := until_both a1 a2 (wf_u64 h1) (wf_u64 h2)
  exact tells_walk x.f0 x.f1 x.f2 x.f3 x.f4 a1 a2 a3 a4 a5 p e ov ow fe un w ⟨t1⟩ ⟨t2⟩ ⟨o1⟩ ⟨o2⟩ ⟨v1⟩ ⟨v2⟩ ⟨f1⟩ ⟨f2⟩ ⟨u1⟩ ⟨u2⟩
end Go.Proofs.Ythjdldiekpidkaa
