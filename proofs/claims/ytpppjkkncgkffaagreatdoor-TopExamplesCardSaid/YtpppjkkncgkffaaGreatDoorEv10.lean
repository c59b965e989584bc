/-
  Example 10 of the whole, from where it is chosen: the kernel runs it, with three registers left open.
-/
import Derived.Test.YtpppjkkncgkffaaGreatDoorExg
namespace Go.Ax
open Go.Proofs
theorem ck10 : Checked3 10 := by
  intro a b c
  kernel_rfl
end Go.Ax
