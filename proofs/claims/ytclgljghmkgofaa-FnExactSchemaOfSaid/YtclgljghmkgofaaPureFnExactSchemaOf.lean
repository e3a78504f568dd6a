/- The program's SchemaOf and the reference's SchemaOf return the same, for every number. -/
import Derived.Test.YtclgljghmkgofaaPFnExactSchemaOfx1
set_option linter.unusedVariables false
set_option linter.unusedSimpArgs false
namespace Go.Proofs.Ytclgljghmkgofaa.Pure
open Go.RowKit Go.Proofs.Ytclgljghmkgofaa.PFnExactSchemaOf Go.Proofs.YtclgljghmkgofaaW.PrintWords Go.Proofs.YtclgljghmkgofaaW.PrintLast

theorem FnExactSchemaOf : laws_FnExactSchemaOf.Pure := by
  intro a h
  unfold laws_FnExactSchemaOf.f
  have e : impl_SchemaOf.f a = spec_SchemaOf.f a := rfl
  rw [e]
  obtain ⟨r, hr⟩ : ∃ r, spec_SchemaOf.f a = some r := by
    unfold spec_SchemaOf.f
    repeat (first | exact ⟨_, rfl⟩ | split)
  rw [hr]
  simp


end Go.Proofs.Ytclgljghmkgofaa.Pure
