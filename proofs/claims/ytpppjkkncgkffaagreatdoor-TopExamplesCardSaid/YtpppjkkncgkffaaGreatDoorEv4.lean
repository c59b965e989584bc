/-
  Example 4 of the whole, from where it is chosen: the kernel runs it, with three registers left open.
-/
import Derived.Test.YtpppjkkncgkffaaGreatDoorExg
namespace Go.Ax
open Go.Proofs
theorem ck4 : Checked3 4 := by
  intro a b c
  kernel_rfl
end Go.Ax
