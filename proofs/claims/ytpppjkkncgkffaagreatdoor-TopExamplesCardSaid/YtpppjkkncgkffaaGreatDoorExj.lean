/-
  The closed facts of the row at this program.
-/
import Derived.Test.YtpppjkkncgkffaaGreatDoorRows
import Derived.Test.YtpppjkkncgkffaaGreatDoorExi
set_option maxRecDepth 100000
namespace Go.Proofs.YtpppjkkncgkffaaGreatDoor
open Go.Ax

theorem types_size : Tryz.prog.types.size = 995 := by kernel_rfl
theorem funcs_size : Tryz.prog.funcs.size = 929 := by kernel_rfl
/-- the functions that the function leads to -/
def reached : List FuncId := [
  3, 5, 4, 9, 17, 10, 18, 35, 86, 158, 159, 264, 383, 556, 682, 265, 384, 385, 266, 160, 386, 8, 16, 36, 37, 87, 19, 38, 41, 39, 88, 40, 89, 161, 268, 388, 389, 557, 683, 684,
  267, 387, 90, 162, 91, 42, 92, 163, 269, 270, 280, 282, 400, 401, 402, 403, 404, 405, 406, 407, 408, 409, 410, 411, 412, 413, 414, 415, 416, 281, 271, 164, 390, 558, 278, 397, 561, 685, 686, 687,
  770, 559, 165, 43, 93, 44, 94, 166, 272, 273, 274, 391, 392, 393, 394, 395, 396, 560, 11, 20, 46, 95, 167, 275, 96, 168, 276, 45, 21, 47, 48, 97, 49, 98, 169, 170, 103, 171, 277, 99,
  172, 279, 398, 562, 399, 564, 563, 565, 567, 688, 566, 569, 691, 773, 689, 771, 690, 772, 829, 568, 100, 173, 174, 105, 177, 178, 104, 175, 102, 101, 176, 106, 179, 107, 180, 181, 283, 284, 417, 570,
  12, 22, 23, 50, 51, 108, 182, 285, 183, 418, 571, 572, 184, 185, 186, 286, 419, 573, 692, 291, 421, 420, 289, 187, 287, 288, 290, 109, 110, 188, 292, 422, 423, 427, 575, 429, 693, 774, 775, 830,
  831, 574, 293, 424, 294, 425, 426, 428, 189, 190, 191, 194, 310, 295, 430, 432, 434, 576, 433, 431, 296, 436, 435, 312, 297, 298, 437, 577, 192, 193, 299, 438, 439, 196, 301, 441, 444, 447, 589, 582,
  477, 621, 622, 613, 724, 795, 197, 311, 725, 201, 199, 623, 624, 728, 729, 616, 479, 625, 580, 694, 731, 732, 798, 733, 785, 842, 313, 797, 696, 776, 607, 605, 723, 581, 695, 730, 726, 619, 727, 796,
  617, 583, 697, 584, 698, 585, 699, 777, 832, 784, 841, 462, 606, 586, 700, 701, 778, 833, 780, 781, 835, 836, 779, 834, 702, 782, 837, 838, 870, 871, 887, 711, 710, 788, 789, 839, 703, 704, 783, 840,
  705, 706, 707, 786, 843, 844, 872, 873, 845, 846, 874, 876, 875, 888, 890, 708, 709, 787, 443, 442, 473, 618, 478, 440, 578, 579, 300, 303, 446, 448, 591, 590, 713, 302, 445, 588, 474, 587, 712, 475,
  620, 304, 449, 592, 309, 457, 476, 472, 467, 612, 470, 468, 602, 722, 458, 603, 593, 715, 714, 790, 456, 594, 716, 791, 450, 595, 717, 793, 792, 451, 596, 597, 719, 720, 718, 794, 598, 599, 452, 600,
  721, 453, 601, 454, 455, 305, 459, 461, 604, 469, 460, 306, 463, 464, 608, 610, 609, 307, 466, 471, 615, 614, 465, 611, 308, 111, 195, 198, 200, 52, 112, 202, 314, 480, 626, 734, 735, 799, 367, 627,
  376, 628, 481, 629, 630, 736, 631, 203, 24, 55, 56, 57, 118, 117, 120, 58, 119, 81, 315, 316, 151, 317, 482, 632, 737, 800, 232, 206, 318, 483, 633, 484, 485, 634, 738, 801, 249, 635, 739, 802,
  636, 740, 741, 803, 742, 804, 848, 877, 849, 847, 806, 852, 881, 217, 337, 339, 522, 338, 520, 661, 521, 378, 554, 260, 662, 525, 754, 817, 755, 678, 679, 756, 818, 819, 866, 757, 758, 759, 760, 340,
  523, 221, 342, 524, 663, 126, 135, 850, 878, 879, 851, 880, 744, 813, 862, 864, 885, 863, 884, 889, 354, 532, 667, 343, 668, 766, 669, 670, 767, 768, 828, 671, 672, 673, 674, 812, 861, 743, 805, 807,
  809, 858, 859, 853, 854, 808, 855, 882, 369, 539, 857, 856, 883, 223, 344, 810, 216, 229, 811, 860, 486, 204, 319, 487, 637, 489, 638, 639, 488, 320, 490, 640, 745, 814, 746, 815, 865, 641, 491, 492,
  642, 113, 205, 114, 207, 208, 321, 322, 493, 323, 494, 495, 643, 747, 748, 816, 496, 209, 324, 497, 325, 498, 499, 500, 644, 645, 501, 646, 749, 502, 647, 503, 504, 505, 326, 115, 210, 327, 328, 330,
  508, 329, 506, 648, 507, 649, 750, 650, 751, 211, 332, 511, 653, 331, 509, 652, 651, 752, 510, 333, 334, 512, 654, 655, 656, 753, 53, 116, 212, 213, 335, 513, 514, 515, 516, 517, 657, 518, 658, 54,
  6, 13, 25, 59, 26, 60, 61, 62, 121, 63, 64, 65, 66, 67, 27, 68, 122, 214, 336, 519, 659, 660, 215, 123, 124, 136, 125, 127, 218, 129, 29, 80, 82, 220, 222, 247, 374, 219, 341, 526,
  664, 761, 128, 224, 345, 346, 527, 130, 131, 225, 137, 69, 132, 226, 79, 143, 243, 361, 364, 362, 363, 365, 536, 72, 366, 355, 537, 248, 375, 244, 368, 538, 245, 370, 373, 543, 545, 544, 540, 246,
  371, 541, 542, 372, 144, 250, 251, 152, 145, 252, 257, 254, 255, 253, 377, 546, 547, 677, 548, 549, 680, 681, 769, 550, 551, 552, 553, 256, 379, 555, 380, 146, 147, 148, 258, 138, 231, 348, 349, 350,
  528, 233, 234, 351, 149, 28, 70, 133, 134, 227, 228, 230, 347, 71, 73, 74, 75, 76, 77, 139, 236, 235, 352, 529, 530, 665, 762, 820, 821, 867, 822, 823, 868, 869, 886, 824, 825, 826, 827, 666,
  763, 764, 765, 353, 531, 237, 356, 533, 238, 357, 534, 675, 140, 239, 358, 359, 535, 676, 240, 78, 141, 241, 242, 360, 142, 30, 83, 150, 7, 14, 31, 84, 153, 15, 34, 85, 154, 155, 259, 261,
  156, 157, 262, 263, 381, 382, 32, 33]
theorem closure3 : Tryz.prog.closure 3 = reached := by
  rw [closure_eq]
  kernel_rfl

theorem j_laidTypes : ((List.range 995).all fun t => rowFineG Tryz.prog 995 t) = true := by kernel_rfl
theorem j_laidGlobals : (Tryz.prog.globals.toList.all fun g => Nat.blt g.type 995) = true := by kernel_rfl
theorem j_laidFuncs : (Tryz.prog.funcs.toList.all fun f => f.params.toList.all fun t => Nat.blt t 995) = true := by kernel_rfl
theorem j_laidOut : laidOutB Tryz.prog = true := laidOut_of types_size j_laidTypes j_laidGlobals j_laidFuncs
theorem j_maps : ((List.range 995).all fun t => match underG Tryz.prog 995 t with | some (.map _ e) => Nat.blt e 995 | _ => true) = true := by kernel_rfl
theorem j_mapsRowed : mapsRowed Tryz.prog = true := mapsRowed_of types_size j_maps
theorem j_plain : (Rows.topExamplesRow.plainKeys == Tryz.prog.plainKeys) = true := by
  rw [plainKeys_eq types_size]
  kernel_rfl
theorem j_inPlace : (Rows.topExamplesRow.inPlace == Tryz.prog.inPlace 3) = true := by
  unfold Program.inPlace
  rw [closure3]
  simp only [func_eq]
  kernel_rfl
theorem j_unfollowed : (Rows.topExamplesRow.unfollowed == Tryz.prog.unfollowed 3) = true := by
  unfold Program.unfollowed
  rw [closure3]
  simp only [func_eq]
  kernel_rfl
theorem unfollowed3 : Tryz.prog.unfollowed 3 = true := (beq_iff_eq.1 j_unfollowed).symm
theorem j_recurses : (Rows.topExamplesRow.recurses == Tryz.prog.recurses 3) = true := by
  unfold Program.recurses
  rw [unfollowed3]
  rfl
theorem j_named : (Rows.topExamplesRow.named == Tryz.prog.varsNamed 3) = true := by
  unfold Program.varsNamed
  rw [closure3]
  simp only [func_eq]
  kernel_rfl
theorem j_rows : (Tryz.prog.funcs.toList.all fun fn => (Stop.rowOf fn).isNone || !fn.norace) = true := by kernel_rfl
theorem j_heard : Tryz.prog.stopsHeard = true := stopsHeard_of j_rows
theorem j_goes : (Tryz.prog.funcs.toList.all fun fn => !fn.goes) = true := by kernel_rfl
theorem funcNamed3 : Tryz.prog.funcNamed Rows.topExamplesRow.func = some 3 := by
  rw [funcNamed_eq funcs_size]
  kernel_rfl
theorem goesBy3 : false = Rows.topExamplesRow.goesBy Tryz.prog := by
  unfold OpenClaim.goesBy Program.goesAt Program.goesFrom
  rw [funcNamed3, Option.any_some, goes_false j_goes]
  rfl
theorem j_later : Tryz.prog.laysLater = false := by
  rw [laysLater_eq]
  kernel_rfl
theorem j_enter : Tryz.prog.mayEnter = true := by
  unfold Program.mayEnter
  rw [j_later]
  kernel_rfl
theorem j_k1 : Rows.topExamplesRow.wf (OpenSpec.ofChange Rows.topExamplesSpec) = true := by kernel_rfl
theorem j_k28 : Rows.topExamplesRow.veiledFits Tryz.prog Tryz.f3.params.toList (Tryz.f3.params.toList ++ Rows.topExamplesSpec.plain.varTypes Tryz.prog ++ Tryz.f3.resultTypes.toList) = true := by kernel_rfl
end Go.Proofs.YtpppjkkncgkffaaGreatDoor
