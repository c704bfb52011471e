import Derived.Test.YtimfjedhcokohaaPFnExactShaStartx1
namespace Go.Proofs.Ytimfjedhcokohaa.Pure
open Go.RowKit Go.Proofs.Ytimfjedhcokohaa.PFnExactShaStart Go.Proofs.YtimfjedhcokohaaW.PrintWords Go.Proofs.YtimfjedhcokohaaW.PrintLast

/-- YOURS: ∃ k, laws_FnExactShaStart.f k  = some true
What it reaches (each with k first where it has rounds; `.mono`: more rounds tell the same; `.l0`, ..: its loops, with `.mono_l`): spec_l03First.f, spec_ShaStart.f, impl_ShaStart.f, laws_eqIntS.f, laws_markIntS.f, laws_heldIntS.f, laws_FnExactShaStart.f -/
theorem FnExactShaStart : laws_FnExactShaStart.Pure := by
  exact ⟨60, by kernel_rfl⟩

end Go.Proofs.Ytimfjedhcokohaa.Pure
