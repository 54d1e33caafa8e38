/-
  The closed facts of the row of AuditTexts, one by one, by the program's tables.
-/
import Derived.Test.YtpfgpjopjadmiaaGreatDoorHd2
import Derived.Test.YtpfgpjopjadmiaaGreatDoorHd3
import Derived.Test.YtpfgpjopjadmiaaGreatDoorB0
import Derived.Test.YtpfgpjopjadmiaaGreatDoorRows
import Derived.JoinedOf
namespace Go.Proofs.YtpfgpjopjadmiaaGreatDoor
open Go Go.AM
set_option maxRecDepth 1000000
theorem auditTexts_closure : Tryz.pinned.checked.prog.closure 3 = [3, 4, 7, 12, 27, 75, 76, 162, 161, 163, 77, 78, 164, 165, 279, 280, 5, 6, 8, 13, 28, 79, 29, 80, 166, 244, 281, 282, 283, 284, 82, 34, 90, 167, 168, 285, 395, 123, 396, 169, 286, 374, 287, 170, 171, 172, 84, 175, 176, 295, 411, 288, 289, 397, 489, 398, 290, 399, 490, 493, 491, 492, 622, 400, 494, 623, 401, 402, 495, 403, 496, 624, 625, 783, 629, 787, 897, 819, 880, 626, 784, 896, 939, 969, 628, 627, 785, 786, 630, 631, 291, 405, 501, 638, 639, 792, 903, 904, 502, 640, 793, 503, 641, 404, 497, 632, 633, 788, 789, 498, 499, 634, 790, 898, 899, 940, 900, 662, 812, 813, 814, 915, 635, 791, 901, 941, 902, 942, 636, 500, 637, 406, 292, 407, 408, 504, 409, 293, 410, 294, 174, 173, 81, 30, 31, 83, 32, 86, 85, 177, 87, 179, 178, 33, 88, 89, 35, 91, 180, 296, 181, 14, 37, 95, 185, 300, 182, 297, 94, 184, 299, 100, 96, 97, 92, 186, 98, 189, 190, 99, 191, 192, 187, 188, 36, 93, 183, 298, 15, 38, 101, 193, 39, 40, 102, 106, 196, 194, 104, 103, 41, 105, 195, 107, 197, 301, 108, 201, 200, 109, 203, 202, 198, 199, 42, 16, 43, 44, 45, 110, 111, 26, 204, 205, 206, 46, 47, 48, 9, 17, 49, 50, 113, 216, 112, 207, 213, 307, 208, 302, 209, 303, 304, 210, 305, 306, 412, 211, 212, 214, 215, 18, 51, 52, 114, 115, 217, 219, 312, 311, 218, 308, 232, 159, 370, 371, 372, 309, 310, 19, 53, 116, 54, 117, 220, 313, 314, 118, 221, 315, 119, 222, 316, 413, 414, 317, 415, 416, 505, 506, 223, 318, 320, 417, 134, 246, 247, 248, 249, 251, 351, 250, 349, 350, 444, 537, 252, 507, 642, 794, 795, 643, 647, 508, 644, 796, 469, 369, 509, 510, 645, 273, 157, 277, 154, 388, 158, 274, 392, 486, 615, 768, 882, 769, 770, 610, 716, 765, 878, 879, 883, 934, 884, 935, 881, 933, 616, 617, 613, 618, 771, 886, 887, 936, 885, 888, 772, 485, 619, 620, 773, 889, 890, 891, 937, 892, 394, 477, 596, 276, 275, 389, 390, 476, 391, 478, 597, 576, 599, 739, 860, 740, 598, 155, 70, 479, 600, 741, 742, 861, 931, 862, 863, 743, 744, 745, 746, 747, 864, 748, 749, 750, 751, 865, 866, 932, 867, 678, 821, 826, 827, 868, 869, 870, 871, 872, 752, 601, 480, 602, 603, 604, 753, 605, 754, 761, 873, 755, 756, 874, 875, 757, 876, 877, 758, 760, 759, 762, 763, 481, 606, 607, 608, 609, 764, 611, 766, 612, 767, 482, 484, 483, 614, 393, 487, 621, 774, 777, 776, 778, 775, 893, 779, 780, 781, 782, 894, 895, 938, 536, 488, 646, 245, 511, 648, 797, 798, 799, 512, 649, 800, 801, 650, 802, 905, 513, 353, 445, 446, 651, 355, 447, 538, 673, 674, 675, 822, 823, 825, 824, 918, 539, 676, 540, 541, 543, 677, 542, 448, 803, 514, 652, 804, 515, 653, 654, 516, 655, 656, 517, 657, 806, 805, 906, 943, 970, 987, 988, 989, 971, 978, 972, 990, 991, 1012, 994, 1018, 1013, 992, 973, 974, 993, 975, 995, 944, 976, 996, 977, 997, 998, 945, 907, 946, 951, 947, 948, 949, 950, 908, 952, 954, 979, 953, 955, 443, 319, 418, 224, 225, 226, 227, 228, 321, 419, 322, 120, 229, 230, 122, 121, 20, 55, 11, 23, 58, 59, 125, 231, 233, 323, 324, 325, 326, 126, 234, 327, 24, 60, 61, 127, 235, 328, 128, 236, 329, 62, 130, 129, 63, 131, 237, 239, 240, 238, 330, 132, 241, 331, 420, 431, 530, 518, 658, 659, 433, 531, 519, 520, 435, 532, 663, 664, 815, 665, 666, 816, 817, 916, 667, 668, 669, 670, 521, 437, 533, 421, 522, 523, 332, 242, 333, 422, 423, 334, 335, 424, 525, 524, 336, 425, 426, 337, 338, 427, 526, 660, 807, 808, 809, 909, 956, 810, 910, 911, 957, 958, 811, 912, 913, 914, 451, 428, 527, 529, 528, 661, 429, 442, 430, 339, 432, 434, 436, 243, 340, 345, 438, 439, 341, 342, 440, 343, 344, 346, 441, 534, 535, 671, 818, 672, 820, 917, 347, 348, 133, 64, 135, 21, 56, 124, 57, 253, 254, 352, 65, 136, 66, 137, 255, 354, 72, 156, 256, 356, 449, 257, 357, 359, 453, 454, 455, 358, 450, 452, 544, 679, 828, 680, 681, 829, 682, 830, 683, 831, 832, 684, 545, 360, 258, 361, 362, 456, 364, 457, 546, 363, 67, 138, 259, 365, 458, 459, 547, 548, 685, 686, 687, 688, 833, 689, 690, 834, 460, 461, 549, 551, 691, 835, 550, 552, 553, 692, 559, 555, 693, 836, 919, 959, 980, 999, 1014, 1019, 1020, 981, 1000, 1015, 1001, 1002, 1016, 1003, 960, 837, 554, 556, 557, 558, 560, 366, 462, 463, 561, 695, 694, 838, 562, 696, 698, 839, 697, 699, 464, 563, 700, 702, 841, 840, 920, 701, 705, 703, 704, 368, 367, 465, 564, 565, 706, 566, 707, 569, 708, 709, 710, 570, 711, 712, 842, 843, 844, 845, 921, 961, 922, 962, 982, 1004, 963, 983, 923, 924, 964, 984, 985, 1005, 986, 1007, 1017, 1006, 1008, 1009, 1010, 1011, 713, 714, 846, 847, 925, 965, 848, 926, 567, 568, 139, 141, 263, 267, 264, 376, 466, 571, 573, 572, 715, 849, 574, 577, 579, 723, 717, 850, 927, 966, 852, 967, 928, 929, 968, 851, 930, 580, 724, 725, 726, 467, 575, 718, 719, 578, 720, 854, 853, 721, 722, 377, 468, 582, 583, 728, 855, 581, 727, 378, 380, 71, 73, 379, 471, 470, 584, 381, 472, 475, 68, 140, 260, 261, 373, 262, 375, 69, 142, 149, 265, 144, 143, 266, 145, 146, 147, 148, 150, 151, 268, 382, 269, 383, 384, 473, 585, 586, 729, 856, 587, 270, 25, 74, 160, 278, 385, 387, 271, 386, 474, 588, 589, 730, 590, 731, 732, 733, 857, 592, 736, 591, 735, 734, 593, 737, 858, 859, 594, 738, 595, 152, 153, 272, 22, 10] := closure_table (P := Tryz.pinned.checked.prog) ldAll 3 (fuel := 3828) (by as_aux_lemma => kernel_rfl) (by as_aux_lemma => kernel_rfl)
theorem inPlace_eq (f : FuncId) : Tryz.pinned.checked.prog.inPlace f = (Tryz.pinned.checked.prog.closure f).filterMap fun g => (Tryz.pinned.checked.prog.funcs[g]?).bind fun fn => if fn.ours || fn.body.isNone then some fn.name else none := by
  unfold Program.inPlace
  congr 1
  funext g
  cases h : Tryz.pinned.checked.prog.funcs[g]? with
  | none => rfl
  | some fn =>
    have hn : (fn.name == "runtime.NumGoroutine") = false := names g fn h
    simp only [Option.bind_some, hn, Bool.or_false]
theorem auditTexts_inPlace : (Rows.auditTextsRow.inPlace == Tryz.pinned.checked.prog.inPlace 3) = true := by
  rw [inPlace_eq, auditTexts_closure, over_table (P := Tryz.pinned.checked.prog) ipAll]
  as_aux_lemma => kernel_rfl
theorem auditTexts_unf : Tryz.pinned.checked.prog.unfollowed 3 = true := by
  rw [Program.unfollowed, auditTexts_closure]
  as_aux_lemma => kernel_rfl
theorem auditTexts_unfollowed : (Rows.auditTextsRow.unfollowed == Tryz.pinned.checked.prog.unfollowed 3) = true := by
  rw [auditTexts_unf]; rfl
theorem auditTexts_recurses : (Rows.auditTextsRow.recurses == Tryz.pinned.checked.prog.recurses 3) = true := by
  rw [Program.recurses, auditTexts_unf, Bool.true_or]; rfl
theorem auditTexts_named : (Rows.auditTextsRow.named == Tryz.pinned.checked.prog.varsNamed 3) = true := by
  rw [Program.varsNamed, auditTexts_closure, flat_body (P := Tryz.pinned.checked.prog) glAll, over_table (P := Tryz.pinned.checked.prog) rdAll]
  as_aux_lemma => kernel_rfl
set_option maxHeartbeats 40000000 in
theorem auditTexts_facts : joinedFacts Tryz.pinned.checked.prog 3 Tryz.f3 Rows.auditTextsSpec Rows.auditTextsRow = true := by
  unfold joinedFacts
  simp only [Bool.and_eq_true]
  repeat' apply And.intro
  all_goals (first | with_reducible exact auditTexts_inPlace | with_reducible exact auditTexts_unfollowed | with_reducible exact auditTexts_recurses | with_reducible exact auditTexts_named | (as_aux_lemma => kernel_rfl))
end Go.Proofs.YtpfgpjopjadmiaaGreatDoor
