/- The row's closed facts that stand upon the closure. (Printed by gen_reach.py.) -/
import Derived.Test.YtogmajeaaabjlaaGreatDoorReach
import Derived.KernelRfl
import Derived.JoinedOf
namespace Go.Proofs.YtogmajeaaabjlaaGreatDoor
open Go

def cl0 : List FuncId := [3, 4, 8, 24, 25, 49, 76, 111, 179, 180, 250, 112, 181, 113, 182, 251, 297, 252, 253, 254, 298, 50, 77, 18, 26, 51, 78, 114, 115, 79, 116, 183, 117, 118, 185, 255, 74, 106, 107, 73, 175, 176, 108, 109, 177, 178, 248, 249, 184, 119, 22, 47, 75, 110, 21, 27, 52, 80, 23, 48, 9, 28, 20, 46, 29, 53, 54, 30, 16, 45, 10, 31, 32, 55, 56, 81, 120, 186, 67, 19, 33, 34, 57, 82, 121, 123, 122, 190, 188, 187, 189, 256, 288, 319, 299, 328, 329, 381, 330, 382]
def cl1 : List FuncId := [383, 331, 384, 385, 441, 332, 333, 334, 335, 257, 258, 218, 276, 301, 336, 386, 300, 83, 84, 6, 13, 14, 44, 15, 35, 59, 58, 36, 37, 61, 63, 60, 85, 38, 39, 62, 87, 86, 88, 124, 125, 64, 65, 90, 91, 129, 193, 194, 195, 196, 260, 302, 337, 338, 303, 305, 341, 342, 343, 344, 388, 443, 442, 506, 345, 346, 347, 348, 389, 444, 507, 445, 508, 446, 509, 618, 447, 304, 340, 339, 387, 197, 209, 210, 270, 261, 128, 192, 259, 130, 133, 172, 242, 243, 244, 245, 208, 131, 174, 132]
def cl2 : List FuncId := [141, 198, 104, 262, 134, 199, 263, 264, 265, 266, 171, 267, 170, 89, 127, 126, 191, 66, 92, 40, 68, 41, 69, 94, 95, 137, 140, 138, 206, 207, 233, 139, 142, 143, 211, 144, 212, 93, 135, 201, 200, 268, 136, 202, 203, 204, 269, 306, 307, 349, 205, 42, 70, 96, 146, 147, 159, 232, 290, 289, 320, 160, 234, 274, 308, 350, 215, 214, 148, 100, 103, 167, 168, 227, 166, 240, 169, 241, 216, 71, 105, 173, 246, 247, 294, 295, 296, 322, 323, 378, 424, 425, 379, 427, 428, 429, 430, 489, 490, 609]
def cl3 : List FuncId := [488, 608, 431, 432, 433, 434, 492, 491, 610, 435, 436, 325, 380, 437, 438, 494, 612, 676, 613, 498, 615, 614, 684, 677, 678, 706, 679, 680, 681, 708, 707, 716, 682, 683, 505, 617, 493, 611, 439, 495, 496, 497, 499, 500, 501, 616, 440, 502, 503, 504, 426, 423, 487, 324, 326, 327, 217, 271, 272, 273, 275, 149, 220, 219, 221, 150, 222, 223, 277, 145, 213, 97, 98, 151, 152, 154, 224, 278, 279, 309, 352, 391, 353, 354, 355, 356, 392, 357, 393, 448, 394, 358, 395, 449, 359, 396, 450, 510, 451, 511]
def cl4 : List FuncId := [452, 398, 453, 512, 403, 455, 456, 516, 628, 629, 690, 630, 631, 691, 692, 712, 632, 633, 634, 635, 457, 458, 397, 360, 399, 400, 401, 402, 454, 513, 514, 619, 515, 621, 686, 709, 413, 620, 627, 685, 622, 624, 623, 687, 625, 688, 710, 689, 711, 626, 404, 459, 361, 405, 362, 406, 407, 363, 364, 365, 408, 460, 409, 411, 410, 462, 463, 466, 518, 464, 519, 636, 693, 694, 713, 695, 696, 714, 715, 717, 697, 698, 699, 700, 520, 461, 517, 412, 465, 467, 366, 414, 468, 469, 351, 390, 310, 367, 415, 416]
def cl5 : List FuncId := [417, 418, 470, 521, 638, 637, 522, 639, 539, 471, 472, 524, 526, 527, 525, 528, 529, 641, 642, 531, 530, 532, 643, 535, 534, 644, 536, 537, 533, 538, 523, 640, 419, 473, 474, 475, 476, 540, 541, 542, 543, 645, 544, 572, 545, 546, 547, 548, 549, 646, 550, 551, 647, 552, 553, 554, 648, 555, 649, 650, 556, 651, 557, 652, 558, 653, 559, 654, 560, 561, 655, 656, 701, 562, 563, 657, 564, 658, 565, 566, 567, 568, 569, 570, 571, 659, 660, 477, 573, 661, 574, 575, 576, 662, 577, 578, 579, 580, 581, 663]
def cl6 : List FuncId := [582, 583, 664, 584, 585, 586, 587, 588, 589, 590, 591, 592, 593, 666, 667, 703, 665, 702, 594, 595, 596, 597, 598, 599, 600, 668, 704, 601, 602, 478, 603, 604, 669, 670, 705, 671, 672, 673, 674, 368, 420, 369, 158, 311, 370, 371, 293, 321, 377, 312, 313, 156, 231, 225, 280, 281, 282, 283, 314, 284, 315, 373, 372, 285, 286, 317, 376, 316, 374, 421, 375, 422, 479, 480, 605, 481, 482, 606, 607, 675, 483, 484, 485, 486, 318, 235, 291, 99, 153, 226, 228, 287, 229, 101, 155, 230, 102, 157, 161, 162]
def cl7 : List FuncId := [165, 239, 164, 238, 163, 236, 237, 292, 5, 11, 43, 72, 12, 7, 17]
theorem CL_parts : CL = cl0 ++ cl1 ++ cl2 ++ cl3 ++ cl4 ++ cl5 ++ cl6 ++ cl7 := by kernel_rfl
theorem ip0 : cl0.filterMap (fun g => (Tryz.prog.funcs[g]?).bind fun fn => if fn.ours || fn.body.isNone || fn.name == "runtime.NumGoroutine" then some fn.name else none) = ["internal/bytealg.CountString", "internal/bytealg.IndexByteString", "internal/bytealg.IndexString", "internal/abi.NoEscape", "math/bits.Add64"] := by kernel_rfl
theorem ip1 : cl1.filterMap (fun g => (Tryz.prog.funcs[g]?).bind fun fn => if fn.ours || fn.body.isNone || fn.name == "runtime.NumGoroutine" then some fn.name else none) = ["internal/bytealg.Compare", "internal/bytealg.abigen_runtime_cmpstring", "math/bits.Sub64", "math.Float64frombits", "math.Float64bits"] := by kernel_rfl
theorem ip2 : cl2.filterMap (fun g => (Tryz.prog.funcs[g]?).bind fun fn => if fn.ours || fn.body.isNone || fn.name == "runtime.NumGoroutine" then some fn.name else none) = [] := by kernel_rfl
theorem ip3 : cl3.filterMap (fun g => (Tryz.prog.funcs[g]?).bind fun fn => if fn.ours || fn.body.isNone || fn.name == "runtime.NumGoroutine" then some fn.name else none) = [] := by kernel_rfl
theorem ip4 : cl4.filterMap (fun g => (Tryz.prog.funcs[g]?).bind fun fn => if fn.ours || fn.body.isNone || fn.name == "runtime.NumGoroutine" then some fn.name else none) = [] := by kernel_rfl
theorem ip5 : cl5.filterMap (fun g => (Tryz.prog.funcs[g]?).bind fun fn => if fn.ours || fn.body.isNone || fn.name == "runtime.NumGoroutine" then some fn.name else none) = ["math.sqrt"] := by kernel_rfl
theorem ip6 : cl6.filterMap (fun g => (Tryz.prog.funcs[g]?).bind fun fn => if fn.ours || fn.body.isNone || fn.name == "runtime.NumGoroutine" then some fn.name else none) = [] := by kernel_rfl
theorem ip7 : cl7.filterMap (fun g => (Tryz.prog.funcs[g]?).bind fun fn => if fn.ours || fn.body.isNone || fn.name == "runtime.NumGoroutine" then some fn.name else none) = [] := by kernel_rfl
theorem inPlace_is : Tryz.prog.inPlace 3 = ["internal/bytealg.CountString", "internal/bytealg.IndexByteString", "internal/bytealg.IndexString", "internal/abi.NoEscape", "math/bits.Add64", "internal/bytealg.Compare", "internal/bytealg.abigen_runtime_cmpstring", "math/bits.Sub64", "math.Float64frombits", "math.Float64bits", "math.sqrt"] := by
  unfold Program.inPlace
  rw [closure_is, CL_parts]
  simp only [List.filterMap_append]
  rw [ip0, ip1, ip2, ip3, ip4, ip5, ip6, ip7]
  rfl
theorem unf_at : ((Tryz.prog.funcs[23]?).any fun fn => match fn.body with | some c => c.unfollowed | none => entryCalls fn) = true := by kernel_rfl
theorem unf_in : CL.contains 23 = true := by kernel_rfl
theorem unfollowed_is : Tryz.prog.unfollowed 3 = true := by
  unfold Program.unfollowed
  rw [closure_is]
  exact List.any_eq_true.2 ⟨23, by simpa using unf_in, unf_at⟩
theorem recurses_is : Tryz.prog.recurses 3 = true := by
  unfold Program.recurses
  rw [unfollowed_is]
  rfl
theorem gv0 : cl0.flatMap (fun g => ((Tryz.prog.funcs[g]?).bind (·.body)).elim [] Code.globalsNamed) = [8, 9, 5, 5, 5, 3, 4, 2, 6, 7] := by kernel_rfl
theorem gv1 : cl1.flatMap (fun g => ((Tryz.prog.funcs[g]?).bind (·.body)).elim [] Code.globalsNamed) = [0, 1] := by kernel_rfl
theorem gv2 : cl2.flatMap (fun g => ((Tryz.prog.funcs[g]?).bind (·.body)).elim [] Code.globalsNamed) = [] := by kernel_rfl
theorem gv3 : cl3.flatMap (fun g => ((Tryz.prog.funcs[g]?).bind (·.body)).elim [] Code.globalsNamed) = [] := by kernel_rfl
theorem gv4 : cl4.flatMap (fun g => ((Tryz.prog.funcs[g]?).bind (·.body)).elim [] Code.globalsNamed) = [] := by kernel_rfl
theorem gv5 : cl5.flatMap (fun g => ((Tryz.prog.funcs[g]?).bind (·.body)).elim [] Code.globalsNamed) = [] := by kernel_rfl
theorem gv6 : cl6.flatMap (fun g => ((Tryz.prog.funcs[g]?).bind (·.body)).elim [] Code.globalsNamed) = [] := by kernel_rfl
theorem gv7 : cl7.flatMap (fun g => ((Tryz.prog.funcs[g]?).bind (·.body)).elim [] Code.globalsNamed) = [] := by kernel_rfl
theorem er0 : cl0.filterMap (fun g => (Tryz.prog.funcs[g]?).bind fun fn => if fn.body.isNone then entryReads.lookup fn.name else none) = ["internal/bytealg.MaxLen"] := by kernel_rfl
theorem er1 : cl1.filterMap (fun g => (Tryz.prog.funcs[g]?).bind fun fn => if fn.body.isNone then entryReads.lookup fn.name else none) = [] := by kernel_rfl
theorem er2 : cl2.filterMap (fun g => (Tryz.prog.funcs[g]?).bind fun fn => if fn.body.isNone then entryReads.lookup fn.name else none) = [] := by kernel_rfl
theorem er3 : cl3.filterMap (fun g => (Tryz.prog.funcs[g]?).bind fun fn => if fn.body.isNone then entryReads.lookup fn.name else none) = [] := by kernel_rfl
theorem er4 : cl4.filterMap (fun g => (Tryz.prog.funcs[g]?).bind fun fn => if fn.body.isNone then entryReads.lookup fn.name else none) = [] := by kernel_rfl
theorem er5 : cl5.filterMap (fun g => (Tryz.prog.funcs[g]?).bind fun fn => if fn.body.isNone then entryReads.lookup fn.name else none) = [] := by kernel_rfl
theorem er6 : cl6.filterMap (fun g => (Tryz.prog.funcs[g]?).bind fun fn => if fn.body.isNone then entryReads.lookup fn.name else none) = [] := by kernel_rfl
theorem er7 : cl7.filterMap (fun g => (Tryz.prog.funcs[g]?).bind fun fn => if fn.body.isNone then entryReads.lookup fn.name else none) = [] := by kernel_rfl
theorem named_is : Tryz.prog.varsNamed 3 = ["unicode/utf8.first", "unicode/utf8.acceptRanges", "internal/bytealg.MaxLen", "strconv.ErrSyntax", "strconv.ErrRange", "internal/strconv.uint64pow10", "math/bits.deBruijn32tab", "math/bits.deBruijn64tab", "math/bits.divideError", "math/bits.overflowError"] := by
  unfold Program.varsNamed
  rw [closure_is, CL_parts]
  simp only [List.flatMap_append, List.filterMap_append]
  rw [gv0, gv1, gv2, gv3, gv4, gv5, gv6, gv7, er0, er1, er2, er3, er4, er5, er6, er7]
  kernel_rfl
end Go.Proofs.YtogmajeaaabjlaaGreatDoor
