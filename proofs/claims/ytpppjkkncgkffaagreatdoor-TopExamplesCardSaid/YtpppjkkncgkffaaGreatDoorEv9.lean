/-
  Example 9 of the whole, from where it is chosen: the kernel runs it, with three registers left open.
-/
import Derived.Test.YtpppjkkncgkffaaGreatDoorExg
namespace Go.Ax
open Go.Proofs
theorem ck9 : Checked3 9 := by
  intro a b c
  kernel_rfl
end Go.Ax
