/- A cell is in the grid: the program and the reference ask the same four bounds. No condition. -/
import Derived.Test.YtdfalmgiicbnhaaPFnExactIsCellx1
namespace Go.Proofs.Ytdfalmgiicbnhaa.Pure
open Go.RowKit Go.Proofs.Ytdfalmgiicbnhaa.PFnExactIsCell

theorem FnExactIsCell : ∀ (a0_0 : Int) (a0_1 : Int), (Lit.int .i64 a0_0).wf = true → (Lit.int .i64 a0_1).wf = true → laws_FnExactIsCell.f a0_0 a0_1 = some true := by
  intro a b _ _
  unfold laws_FnExactIsCell.f laws_toCell.f spec_IsCell.f impl_IsCell.f spec_ncCell.f spec_l1In.f impl_in.f
  simp only [Option.bind_some, ge_iff_le]
  by_cases h1 : 0 ≤ a <;> by_cases h2 : a ≤ 12 <;> by_cases h3 : 0 ≤ b <;> by_cases h4 : b ≤ 12 <;> simp [h1, h2, h3, h4]

end Go.Proofs.Ytdfalmgiicbnhaa.Pure
