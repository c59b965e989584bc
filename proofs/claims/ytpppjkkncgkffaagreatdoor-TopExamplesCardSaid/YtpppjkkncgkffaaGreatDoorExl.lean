/-
  The tie of the row to the text of this program.
-/
import Derived.Test.YtpppjkkncgkffaaGreatDoorExj
import Derived.Test.YtpppjkkncgkffaaGreatDoorExk
namespace Go.Proofs.YtpppjkkncgkffaaGreatDoor
open Go Go.Ax
set_option maxRecDepth 100000

/-- the variables that the program's text lays: the seventh is pinned -/
def laid6 : List (String × DataW Unit) := Rows.topExamplesRow.laid.take 6
theorem vars_named : Tryz.prog.funcNamed "gosem.cut.vars" = some 928 := by
  rw [funcNamed_eq funcs_size]
  kernel_rfl
theorem t_w1 : Tryz.prog.worded (varsWordLater true) = true := by
  rw [worded_eq]
  kernel_rfl
theorem t_w2 : Tryz.prog.worded (varsWordLater !true) = false := by
  rw [worded_eq]
  kernel_rfl
theorem t_w3 : Tryz.prog.worded rootWordLater = true := by
  rw [worded_eq]
  kernel_rfl
theorem t_kinds : laid6.map (fun x => Tryz.prog.kindOfLater x.1) = [LaidKind.data, .data, .data, .data, .listed, .data].map some := by kernel_rfl
theorem t_named : varsNamedLaterB Tryz.prog 928 laid6 = true := by
  unfold varsNamedLaterB
  rw [Tryz.func928]
  kernel_rfl

/-! ### what the door's run leaves -/
def ints (k : IntKind) (l : List Int) : Array Value := (l.map fun z => Value.int k z).toArray
def blk0 : Obj := .cells (ints .u64 [1, 10, 100, 1000, 10000, 100000, 1000000, 10000000, 100000000, 1000000000, 10000000000, 100000000000, 1000000000000, 10000000000000, 100000000000000, 1000000000000000, 10000000000000000, 100000000000000000, 1000000000000000000, 10000000000000000000]) 422 (0, 0)
def blk1 : Obj := .cells (ints .u8 [0, 0, 0, 0, 0, 0, 0, 0, 0, 1, 1, 1, 1, 1, 0, 0, 0, 0, 0, 0, 0, 0, 0, 0, 0, 0, 0, 0, 0, 0, 0, 0, 1, 0, 0, 0, 0, 0, 0, 0, 0, 0, 0, 0, 0, 0, 0, 0, 0, 0, 0, 0, 0, 0, 0, 0, 0, 0, 0, 0, 0, 0, 0, 0, 0, 0, 0, 0, 0, 0, 0, 0, 0, 0, 0, 0, 0, 0, 0, 0, 0, 0, 0, 0, 0, 0, 0, 0, 0, 0, 0, 0, 0, 0, 0, 0, 0, 0, 0, 0, 0, 0, 0, 0, 0, 0, 0, 0, 0, 0, 0, 0, 0, 0, 0, 0, 0, 0, 0, 0, 0, 0, 0, 0, 0, 0, 0, 0, 0, 0, 0, 0, 0, 0, 0, 0, 0, 0, 0, 0, 0, 0, 0, 0, 0, 0, 0, 0, 0, 0, 0, 0, 0, 0, 0, 0, 0, 0, 0, 0, 0, 0, 0, 0, 0, 0, 0, 0, 0, 0, 0, 0, 0, 0, 0, 0, 0, 0, 0, 0, 0, 0, 0, 0, 0, 0, 0, 0, 0, 0, 0, 0, 0, 0, 0, 0, 0, 0, 0, 0, 0, 0, 0, 0, 0, 0, 0, 0, 0, 0, 0, 0, 0, 0, 0, 0, 0, 0, 0, 0, 0, 0, 0, 0, 0, 0, 0, 0, 0, 0, 0, 0, 0, 0, 0, 0, 0, 0, 0, 0, 0, 0, 0, 0, 0, 0, 0, 0, 0, 0, 0, 0, 0, 0, 0, 0]) 564 (0, 0)
def blk2 : Obj := .cells (ints .u8 [0, 1, 28, 2, 29, 14, 24, 3, 30, 22, 20, 15, 25, 17, 4, 8, 31, 27, 13, 23, 21, 19, 16, 7, 26, 12, 18, 6, 11, 5, 10, 9]) 685 (0, 0)
def blk3 : Obj := .cells (ints .u8 [0, 1, 56, 2, 57, 49, 28, 3, 61, 58, 42, 50, 38, 29, 17, 4, 62, 47, 59, 36, 45, 43, 51, 22, 53, 39, 33, 30, 24, 18, 12, 5, 63, 55, 48, 27, 60, 41, 37, 16, 46, 35, 44, 21, 52, 32, 23, 11, 54, 26, 40, 15, 34, 20, 31, 10, 25, 14, 19, 9, 13, 8, 7, 6]) 686 (0, 0)
def blk7 : Obj := .cells (ints .u8 [128, 191, 160, 191, 128, 159, 144, 191, 128, 143, 0, 0, 0, 0, 0, 0, 0, 0, 0, 0, 0, 0, 0, 0, 0, 0, 0, 0, 0, 0, 0, 0]) 934 (0, 0)
def blkP : Obj := .cells #[.pointer (some ⟨15, 0, none⟩)] 691 (0, 0)
def blk5 : Obj := .cells (ints .i64 [0]) 3 (0, 0)
def blk6 : Obj := .cells (ints .u8 (List.replicate 256 0)) 564 (0, 0)
def blk14 : Obj := .cells (ints .u16 [9, 13, 1, 32, 133, 101, 160, 5760, 5600, 8192, 8202, 1, 8232, 8233, 1, 8239, 8287, 48, 12288, 12288, 1]) 811 (0, 0)
def blk15 : Obj := .cells #[.slice (some ⟨14, 0, none⟩) 7 7, .slice none 0 0, .int .i64 2] 808 (0, 0)
/-- the heap that the door's run leaves -/
noncomputable def doorHeap (os : Os) : Array Obj :=
  ([blk0, blk1, blk2, blk3, blkP, blk5, blk6, blk7, blkP] ++ (World.unlaid Tryz.prog os).heap.toList.drop 9 ++ [blk14, blk15]).toArray
theorem door_done (os : Os) (tape : Tape) : varsDone Tryz.prog 58 928 os tape = true := by kernel_rfl
theorem door_heap (os : Os) (tape : Tape) : (varsWorld Tryz.prog 58 928 os tape).heap = doorHeap os := by kernel_rfl
noncomputable def doorMem (os : Os) : World := { heap := doorHeap os, tape := fun _ _ => 0, drawn := 0, os := default, output := #[] }
theorem door_reads (os : Os) : (DataW.laidRun Tryz.prog (doorMem os) 8 (laid6.map (·.1))).map (·.1) = some laid6 := by kernel_rfl
theorem door_rows (os : Os) : (DataW.laidRun Tryz.prog (doorMem os) 8 (laid6.map (·.1))).map (fun x => nodupBits 257 x.2 0 && laidRowsB Tryz.prog (doorMem os) x.2) = some true := by kernel_rfl
theorem no_handles6 : (laid6.all fun x => x.2.handleName?.isNone) = true := by kernel_rfl
theorem door_met (os : Os) (tape : Tape) : laidMetH Tryz.prog laid6 (varsWorld Tryz.prog 58 928 os tape).memory := by
  have e : (varsWorld Tryz.prog 58 928 os tape).memory = doorMem os := by
    unfold World.memory doorMem
    rw [door_heap]
  rw [e]
  exact met_of_reads no_handles6 (door_reads os) (door_rows os)
theorem tie6 : Tryz.prog.laidByTextLater laid6 [.data, .data, .data, .data, .listed, .data] true :=
  tie_of_parts 58 928 t_w1 t_w2 t_w3 t_kinds vars_named t_named door_done door_met

/-! ### the pinned table, and the row's tie -/
theorem pinned_last : Rows.topExamplesRow.laid.drop 6 = [(((Rows.topExamplesRow.laid.drop 6).map (·.1)).headD Rows.topExamplesRow.func, Go.Pinned.utf8First)] := by kernel_rfl
theorem pin_fits : Tryz.prog.pinnedFits (((Rows.topExamplesRow.laid.drop 6).map (·.1)).headD Rows.topExamplesRow.func) = true := by
  unfold Program.pinnedFits
  rw [vars_named]
  kernel_rfl
theorem pin_datum : Pinned.datum (((Rows.topExamplesRow.laid.drop 6).map (·.1)).headD Rows.topExamplesRow.func) = some Go.Pinned.utf8First := by kernel_rfl
theorem no_unsafe : Tryz.prog.headLifts.contains "ownunsafe" = false := by kernel_rfl
theorem funcs_fit : Tryz.prog.funcsFit Rows.topExamplesRow.laid = true := by kernel_rfl
theorem listed_fits : Tryz.prog.listedFits Rows.topExamplesRow.laid = true := by
  unfold Program.listedFits
  rw [no_unsafe, funcs_fit]
  rfl
theorem laid_parts : Rows.topExamplesRow.laid = laid6 ++ [(((Rows.topExamplesRow.laid.drop 6).map (·.1)).headD Rows.topExamplesRow.func, Go.Pinned.utf8First)] := by
  rw [← pinned_last]
  exact (List.take_append_drop 6 _).symm
def kinds7 : List LaidKind := [.data, .data, .data, .data, .listed, .data, .pinned]
theorem zip_parts : Rows.topExamplesRow.laid.zip kinds7 = laid6.zip [.data, .data, .data, .data, .listed, .data] ++ [((((Rows.topExamplesRow.laid.drop 6).map (·.1)).headD Rows.topExamplesRow.func, Go.Pinned.utf8First), .pinned)] := by kernel_rfl
theorem zip_left : ((Rows.topExamplesRow.laid.zip kinds7).filter (·.2 != .pinned)).map (·.1) = laid6 := by kernel_rfl
theorem row_tie : Rows.topExamplesRow.laidByTextAt .later Tryz.pinned kinds7 true :=
  OpenClaim.laidByTextAt_pinned (p := Tryz.pinned) (c := Rows.topExamplesRow) (kinds := kinds7) (l := laid6) (k := [.data, .data, .data, .data, .listed, .data]) rfl rfl tie6 rfl rfl zip_left rfl (fun y hy e => by
    rw [zip_parts, List.mem_append] at hy
    rcases hy with hy | hy
    · have := (List.of_mem_zip hy).2
      rw [e] at this
      exact absurd this (by decide)
    · obtain rfl := List.mem_singleton.1 hy
      exact ⟨pin_fits, pin_datum⟩) listed_fits
end Go.Proofs.YtpppjkkncgkffaaGreatDoor
