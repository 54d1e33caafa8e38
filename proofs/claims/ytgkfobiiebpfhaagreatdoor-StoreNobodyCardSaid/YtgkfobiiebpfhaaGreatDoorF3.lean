/-
  The closed facts of the row of StoreNobody, one by one, by the program's tables.
-/
import Derived.Test.YtgkfobiiebpfhaaGreatDoorHd2
import Derived.Test.YtgkfobiiebpfhaaGreatDoorHd3
import Derived.Test.YtgkfobiiebpfhaaGreatDoorB0
import Derived.Test.YtgkfobiiebpfhaaGreatDoorRows
import Derived.JoinedOf
namespace Go.Proofs.YtgkfobiiebpfhaaGreatDoor
open Go Go.AM
set_option maxRecDepth 1000000
theorem storeNobody_closure : Tryz.pinned.checked.prog.closure 3 = [3, 4, 17, 18, 44, 45, 19, 27, 53, 85, 84, 59, 88, 89, 92, 136, 137, 138, 90, 91, 46, 62, 94, 139, 95, 140, 191, 240, 241, 242, 243, 244, 142, 72, 122, 192, 193, 245, 272, 32, 286, 194, 246, 285, 247, 195, 196, 197, 71, 120, 121, 186, 238, 248, 249, 287, 333, 288, 250, 289, 334, 337, 335, 336, 271, 290, 338, 381, 291, 292, 339, 293, 340, 382, 383, 439, 387, 369, 419, 420, 429, 384, 440, 475, 524, 551, 386, 385, 441, 442, 388, 389, 251, 295, 345, 396, 397, 447, 490, 491, 346, 398, 448, 347, 399, 294, 341, 390, 391, 443, 444, 342, 343, 392, 445, 485, 486, 528, 487, 529, 553, 554, 555, 560, 393, 446, 488, 530, 489, 531, 394, 344, 395, 296, 252, 297, 298, 348, 299, 253, 300, 254, 199, 198, 141, 96, 97, 143, 98, 145, 144, 181, 146, 201, 200, 99, 147, 148, 100, 149, 202, 255, 203, 48, 69, 108, 157, 158, 159, 160, 162, 167, 161, 214, 215, 264, 302, 163, 109, 164, 216, 217, 165, 171, 110, 166, 218, 265, 219, 111, 112, 168, 220, 173, 226, 266, 268, 267, 221, 222, 270, 304, 349, 400, 350, 351, 401, 449, 450, 492, 493, 402, 451, 403, 452, 422, 472, 522, 305, 306, 352, 307, 353, 405, 406, 453, 404, 407, 354, 283, 308, 309, 355, 408, 409, 410, 454, 411, 284, 320, 375, 311, 310, 303, 356, 412, 357, 413, 455, 458, 457, 494, 532, 495, 456, 433, 372, 414, 459, 496, 497, 533, 556, 534, 535, 498, 499, 500, 501, 502, 536, 503, 504, 505, 506, 537, 538, 557, 539, 317, 358, 363, 364, 540, 541, 542, 543, 544, 507, 460, 415, 461, 462, 463, 508, 464, 509, 516, 545, 510, 511, 546, 547, 512, 548, 559, 570, 558, 561, 567, 576, 562, 571, 563, 572, 573, 564, 574, 575, 577, 565, 566, 568, 569, 549, 550, 513, 515, 514, 517, 518, 416, 465, 466, 467, 468, 519, 469, 520, 470, 521, 269, 418, 417, 471, 327, 377, 437, 476, 479, 478, 480, 477, 525, 481, 482, 483, 484, 526, 527, 552, 438, 378, 169, 170, 113, 172, 223, 224, 225, 114, 174, 227, 228, 175, 229, 273, 115, 176, 230, 231, 177, 178, 233, 274, 312, 313, 314, 359, 360, 362, 361, 421, 275, 315, 276, 277, 279, 316, 278, 234, 232, 116, 179, 235, 117, 180, 182, 118, 183, 184, 119, 185, 237, 236, 280, 318, 365, 423, 424, 425, 366, 376, 367, 426, 427, 473, 431, 523, 474, 428, 368, 370, 430, 371, 432, 319, 373, 434, 374, 435, 436, 321, 281, 322, 328, 323, 324, 325, 326, 282, 329, 331, 379, 330, 332, 380, 47, 70, 63, 54, 20, 49, 51, 76, 25, 56, 55, 86, 75, 124, 188, 81, 73, 77, 125, 126, 129, 78, 130, 131, 79, 132, 133, 127, 128, 80, 50, 74, 123, 187, 21, 31, 52, 82, 134, 150, 204, 256, 151, 152, 190, 208, 189, 239, 206, 205, 154, 135, 83, 30, 5, 22, 6, 23, 7, 24, 8, 26, 57, 87, 58, 9, 28, 60, 93, 61, 29, 10, 11, 12, 13, 15, 14, 33, 34, 35, 64, 65, 104, 101, 102, 103, 36, 37, 38, 16, 40, 39, 41, 66, 105, 153, 207, 156, 209, 257, 301, 210, 261, 260, 211, 263, 262, 258, 259, 67, 106, 155, 212, 213, 107, 68, 42, 43] := closure_table (P := Tryz.pinned.checked.prog) ldAll 3 (fuel := 2216) (by as_aux_lemma => kernel_rfl) (by as_aux_lemma => kernel_rfl)
theorem inPlace_eq (f : FuncId) : Tryz.pinned.checked.prog.inPlace f = (Tryz.pinned.checked.prog.closure f).filterMap fun g => (Tryz.pinned.checked.prog.funcs[g]?).bind fun fn => if fn.ours || fn.body.isNone then some fn.name else none := by
  unfold Program.inPlace
  congr 1
  funext g
  cases h : Tryz.pinned.checked.prog.funcs[g]? with
  | none => rfl
  | some fn =>
    have hn : (fn.name == "runtime.NumGoroutine") = false := names g fn h
    simp only [Option.bind_some, hn, Bool.or_false]
theorem storeNobody_inPlace : (Rows.storeNobodyRow.inPlace == Tryz.pinned.checked.prog.inPlace 3) = true := by
  rw [inPlace_eq, storeNobody_closure, over_table (P := Tryz.pinned.checked.prog) ipAll]
  as_aux_lemma => kernel_rfl
theorem storeNobody_unf : Tryz.pinned.checked.prog.unfollowed 3 = true := by
  rw [Program.unfollowed, storeNobody_closure]
  as_aux_lemma => kernel_rfl
theorem storeNobody_unfollowed : (Rows.storeNobodyRow.unfollowed == Tryz.pinned.checked.prog.unfollowed 3) = true := by
  rw [storeNobody_unf]; rfl
theorem storeNobody_recurses : (Rows.storeNobodyRow.recurses == Tryz.pinned.checked.prog.recurses 3) = true := by
  rw [Program.recurses, storeNobody_unf, Bool.true_or]; rfl
theorem storeNobody_named : (Rows.storeNobodyRow.named == Tryz.pinned.checked.prog.varsNamed 3) = true := by
  rw [Program.varsNamed, storeNobody_closure, flat_body (P := Tryz.pinned.checked.prog) glAll, over_table (P := Tryz.pinned.checked.prog) rdAll]
  as_aux_lemma => kernel_rfl
set_option maxHeartbeats 40000000 in
theorem storeNobody_facts : joinedFacts Tryz.pinned.checked.prog 3 Tryz.f3 Rows.storeNobodySpec Rows.storeNobodyRow = true := by
  unfold joinedFacts
  simp only [Bool.and_eq_true]
  repeat' apply And.intro
  all_goals (first | with_reducible exact storeNobody_inPlace | with_reducible exact storeNobody_unfollowed | with_reducible exact storeNobody_recurses | with_reducible exact storeNobody_named | (as_aux_lemma => kernel_rfl))
end Go.Proofs.YtgkfobiiebpfhaaGreatDoor
