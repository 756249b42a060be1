import Derived.Test.YtaahpimicjecfaaRows
import Derived.WalkKit
import Derived.ProofKit
import Derived.OpenShut
import Derived.ShutString
import Derived.ChangeOld
import Derived.Below
import Derived.SizedLaws
import Derived.Carry
import Derived.Test.YtaahpimicjecfaaPlB
namespace Go.Proofs.Ytaahpimicjecfaa.fnExactCountWithCounts
open Go.ChangeShapes Go.WideShapes Go.ChangeAt Go.RowKit Go.Proofs.EV
set_option linter.unusedVariables false
theorem own : ownKnob Try.prog.godebug = none := by kernel_rfl
set_option maxRecDepth 100000 in
theorem lifted (os : Os) (started : os.Started) (H : Type) (enc : TypeId × Value → H) :
    ReturnsInHanded {} Try.checked os 3 .any (Rows.fnExactCountWithCountsSpec.pre6 enc Try.prog Try.f3 Rows.fnExactCountWithCountsRow.domain false) (Rows.fnExactCountWithCountsSpec.post enc Try.prog Try.f3 false true false false) := by
  refine returnsInHanded_of_change_sized (C := Try.checked) own started (by kernel_rfl) Try.func3
    (ChangeSpec.witness6 (enc := enc) (C := Try.checked) false ⟨#[], #[Value.slice none 0 0], []⟩ 8 (by kernel_rfl) (by kernel_rfl) (by kernel_rfl) (by kernel_rfl)) ?_
  intro W base args ds gs before hval0 hW hcnd hsz0 _
  have hval : ∀ (j : Nat) t v, Try.f3.params[j]? = some t → args[j]? = some v → Value.okWide Try.prog W .any base t v := hval0
  have hW' := hW
  obtain ⟨p, q, hA0, hV, rfl, hfz, hnd⟩ := hW
  have hA : DataW.TrodAll enc Try.prog W 0 (fun _ => true) true Try.f3.params.toList args.toList ds p := hA0
  rw [Try.params3] at hA hval
  obtain ⟨v, d, rfl, rfl, hd⟩ := trodAll_one hA
  obtain ⟨rfl, rfl⟩ := trodVars_none hV
  have hlt : ∀ x ∈ p, x.block < W.heap.size := hA.lt
  obtain ⟨l, hl, hr⟩ := open_cod Sp.intC (sz := 1) (t := 22) (e := 3) Try.underlying22 (by kernel_rfl) (by decide)
    (fun fuel cs x h => by
      obtain ⟨y, e1, _, _⟩ := DataW.trod_int Try.underlying3 h
      refine ⟨y, fun j hj => ?_⟩
      subst e1
      match j, hj with
      | 0, _ => exact .int _ _) (hval 0 22 v rfl rfl) hd
  refine (calls_of_snd (PL.laws_FnExactCountWithCounts.law l hl) Try.func3 (by kernel_rfl) (by kernel_rfl) (globOk_none fun _ => rfl) rfl (args_one hr)).mono fun e W' ⟨r, he, hres, bel⟩ => ?_
  subst he
  obtain rfl := rrel_bool hres
  exact ⟨_, rfl, _, _, _, [], _, [], hW', trodAll_mk1 (shut_bool Try.underlying4 _), trodAll_mk1 (bel.trod (by kernel_rfl) (by kernel_rfl) (of_decide_eq_true (by kernel_rfl)) hd hlt), rfl, bel.frame _, fun h => by cases h⟩
theorem over : Rows.fnExactCountWithCountsRow.holds Try.pinned (OpenSpec.ofChange Rows.fnExactCountWithCountsSpec) :=
  OpenClaim.holds_of_wide 3 Try.f3 rfl rfl rfl rfl rfl rfl rfl ⟨rfl, rfl, rfl, rfl, rfl⟩ rfl rfl rfl rfl rfl (by kernel_rfl) Try.func3 (by kernel_rfl)
    (of_decide_eq_true (by kernel_rfl)) (by unfold Func.isWrapper; first | (rw [if_pos (by decide +kernel)]; kernel_rfl) | (rw [if_neg (by decide +kernel)]; exact ⟨rfl, rfl⟩))
    (fun os started H enc _ => lifted os started H enc)
theorem proved : Rows.FnExactCountWithCountsSaid := over
end Go.Proofs.Ytaahpimicjecfaa.fnExactCountWithCounts
namespace Go.Proofs.Ytaahpimicjecfaa
/-- The row, under a short name, for the claim. -/
theorem fnExactCountWithCounts_holds : Rows.FnExactCountWithCountsSaid := fnExactCountWithCounts.proved
end Go.Proofs.Ytaahpimicjecfaa
