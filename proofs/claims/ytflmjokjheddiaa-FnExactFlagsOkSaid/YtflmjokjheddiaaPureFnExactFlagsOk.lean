/- FlagsOk returns what the reference returns, for every int. No condition. -/
import Derived.Test.YtflmjokjheddiaaPFnExactFlagsOkx1
namespace Go.Proofs.Ytflmjokjheddiaa.Pure
open Go.RowKit Go.Proofs.Ytflmjokjheddiaa.PFnExactFlagsOk Go.Proofs.YtflmjokjheddiaaW.PrintWords Go.Proofs.YtflmjokjheddiaaW.PrintLast

theorem FnExactFlagsOk : laws_FnExactFlagsOk.Pure := by
  intro a h
  unfold laws_FnExactFlagsOk.f spec_FlagsOk.f impl_FlagsOk.f spec_l01In.f impl_within.f
  split <;> simp

end Go.Proofs.Ytflmjokjheddiaa.Pure
