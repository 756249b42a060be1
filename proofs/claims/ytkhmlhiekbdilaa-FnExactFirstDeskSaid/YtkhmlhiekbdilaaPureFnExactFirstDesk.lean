/- The law FnExactFirstDesk: the program's FirstDesk and the reference's give the same desk; no conditions. -/
import Derived.Test.YtkhmlhiekbdilaaPFnExactFirstDeskx1
namespace Go.Proofs.Ytkhmlhiekbdilaa.Pure
open Go.RowKit Go.Proofs.Ytkhmlhiekbdilaa.PFnExactFirstDesk Go.Proofs.YtkhmlhiekbdilaaW.PrintWords Go.Proofs.YtkhmlhiekbdilaaW.PrintLast

/-- YOURS: laws_FnExactFirstDesk.f  = some true
What it reaches (each with k first where it has rounds; `.mono`: more rounds tell the same; `.l0`, ..: its loops, with `.mono_l`): spec_diOf.f, spec_FirstDesk.f, impl_FirstDesk.f, laws_eqDie.f, laws_eqState.f, laws_eqDesk.f, laws_FnExactFirstDesk.f -/
theorem FnExactFirstDesk : laws_FnExactFirstDesk.Pure := by
  show laws_FnExactFirstDesk.f = some true
  decide +kernel

end Go.Proofs.Ytkhmlhiekbdilaa.Pure
