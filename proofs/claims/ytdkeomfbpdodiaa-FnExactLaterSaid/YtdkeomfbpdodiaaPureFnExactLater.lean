/- FnExactLater: for all two integers of 64 bits the program's Later returns what the reference's Later returns. Conditions: none. -/
import Derived.Test.YtdkeomfbpdodiaaPFnExactLaterx1
namespace Go.Proofs.Ytdkeomfbpdodiaa.Pure
open Go.RowKit Go.Proofs.Ytdkeomfbpdodiaa.PFnExactLater Go.Proofs.YtdkeomfbpdodiaaW.PrintWords Go.Proofs.YtdkeomfbpdodiaaW.PrintLast

/-- YOURS: ∀ (a0 : Int) (a1 : Int), (Lit.int .i64 a0).wf = true → (Lit.int .i64 a1).wf = true → laws_FnExactLater.f a0 a1 = some true
What it reaches (each with k first where it has rounds; `.mono`: more rounds tell the same; `.l0`, ..: its loops, with `.mono_l`): spec_l08Later.f, spec_Later.f, impl_later.f, impl_Later.f, laws_FnExactLater.f -/
theorem FnExactLater : laws_FnExactLater.Pure := by
  intro a0 a1 _ _
  have e : impl_Later.f a0 a1 = spec_Later.f a0 a1 := rfl
  unfold laws_FnExactLater.f
  rw [e]
  have hs : ∃ r, spec_Later.f a0 a1 = some r := by
    unfold spec_Later.f spec_l08Later.f
    split
    · exact ⟨_, rfl⟩
    · split
      · exact ⟨_, rfl⟩
      · split <;> exact ⟨_, rfl⟩
  obtain ⟨r, hr⟩ := hs
  rw [hr]
  simp

end Go.Proofs.Ytdkeomfbpdodiaa.Pure
