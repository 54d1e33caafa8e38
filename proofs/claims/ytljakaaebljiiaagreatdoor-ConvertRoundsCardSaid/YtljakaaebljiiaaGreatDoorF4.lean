/-
  The closed facts of the row of ConvertRounds, one by one.
-/
import Derived.Test.YtljakaaebljiiaaGreatDoorB0
import Derived.JoinedOf
namespace Go.Proofs.YtljakaaebljiiaaGreatDoor
open Go
set_option maxRecDepth 1000000
theorem convertRounds_closure : Tryz.pinned.checked.prog.closure 4 = [4, 9, 20, 40, 41, 90, 44, 42, 21, 22, 24, 43, 91, 23, 10, 25, 45, 92, 95, 93, 26, 47, 94, 168, 169, 46, 6, 7, 15, 17, 18, 39, 16, 38, 12, 27, 48, 96, 170, 180, 252, 303, 363, 416, 364, 365, 366, 417, 243, 51, 114, 300, 301, 182, 253, 244, 245, 184, 255, 312, 313, 254, 304, 305, 367, 306, 368, 369, 307, 370, 371, 418, 308, 309, 310, 311, 246, 186, 256, 171, 247, 248, 97, 49, 98, 172, 164, 165, 241, 99, 100, 173, 250, 249, 101, 174, 175, 150, 226, 287, 156, 102, 103, 176, 251, 302, 358, 359, 360, 410, 468, 361, 411, 412, 469, 470, 362, 413, 414, 415, 159, 177, 238, 240, 239, 299, 178, 179, 104, 181, 183, 185, 50, 105, 110, 187, 188, 106, 107, 189, 108, 109, 111, 190, 257, 258, 314, 372, 373, 315, 374, 419, 112, 191, 259, 316, 113, 148, 223, 285, 224, 28, 52, 53, 115, 120, 194, 192, 117, 116, 118, 54, 119, 193, 121, 195, 260, 122, 199, 198, 123, 201, 200, 196, 197, 55, 33, 59, 130, 71, 139, 215, 60, 272, 273, 274, 275, 141, 76, 147, 61, 216, 276, 333, 334, 217, 277, 63, 218, 219, 278, 279, 335, 392, 336, 280, 337, 393, 396, 394, 395, 449, 338, 397, 450, 339, 340, 398, 341, 399, 451, 452, 516, 456, 520, 389, 547, 453, 517, 562, 578, 591, 455, 454, 518, 519, 457, 458, 281, 343, 404, 465, 466, 525, 568, 569, 405, 406, 467, 342, 400, 459, 460, 521, 522, 401, 402, 461, 523, 563, 564, 579, 565, 462, 524, 566, 580, 567, 581, 463, 403, 464, 344, 282, 345, 346, 407, 347, 283, 348, 284, 221, 220, 140, 72, 73, 142, 74, 144, 143, 222, 131, 210, 209, 75, 145, 146, 77, 29, 56, 124, 125, 57, 127, 126, 202, 261, 317, 375, 318, 319, 262, 264, 263, 320, 321, 376, 377, 323, 386, 441, 501, 548, 502, 503, 435, 473, 498, 545, 546, 549, 573, 550, 574, 391, 448, 442, 443, 438, 444, 504, 552, 553, 575, 551, 554, 505, 385, 445, 446, 506, 555, 556, 557, 576, 558, 325, 382, 322, 378, 420, 424, 423, 471, 526, 472, 422, 440, 421, 379, 425, 474, 475, 527, 570, 528, 529, 476, 477, 478, 479, 480, 530, 481, 482, 483, 484, 531, 532, 571, 533, 270, 326, 331, 332, 534, 535, 536, 537, 538, 485, 426, 380, 427, 428, 429, 486, 430, 487, 494, 539, 488, 489, 540, 541, 490, 542, 572, 582, 588, 595, 583, 592, 584, 585, 593, 594, 596, 586, 587, 589, 590, 543, 544, 491, 493, 492, 495, 496, 381, 431, 432, 433, 434, 497, 436, 499, 437, 500, 384, 383, 439, 324, 387, 447, 507, 510, 509, 511, 508, 559, 512, 513, 514, 515, 560, 561, 577, 388, 58, 128, 203, 265, 266, 267, 327, 328, 330, 329, 390, 204, 268, 205, 206, 208, 269, 207, 129, 11, 13, 30, 31, 62, 32, 64, 65, 66, 67, 135, 132, 211, 212, 213, 133, 134, 69, 138, 68, 136, 137, 214, 271, 70, 14, 34, 79, 151, 227, 288, 225, 286, 152, 153, 149, 228, 154, 231, 232, 155, 233, 234, 229, 230, 78, 35, 80, 157, 235, 289, 290, 349, 350, 291, 292, 351, 352, 408, 409, 81, 36, 82, 84, 161, 162, 163, 83, 158, 160, 236, 293, 353, 294, 295, 354, 296, 355, 297, 356, 357, 298, 237, 85, 37, 86, 87, 166, 89, 167, 242, 88] := by kernel_rfl
theorem inPlace_eq (f : FuncId) : Tryz.pinned.checked.prog.inPlace f = (Tryz.pinned.checked.prog.closure f).filterMap fun g => (Tryz.pinned.checked.prog.funcs[g]?).bind fun fn => if fn.ours || fn.body.isNone then some fn.name else none := by
  unfold Program.inPlace
  congr 1
  funext g
  cases h : Tryz.pinned.checked.prog.funcs[g]? with
  | none => rfl
  | some fn =>
    have hn : (fn.name == "runtime.NumGoroutine") = false := names g fn h
    simp only [Option.bind_some, hn, Bool.or_false]
theorem convertRounds_inPlace : (Rows.convertRoundsRow.inPlace == Tryz.pinned.checked.prog.inPlace 4) = true := by
  rw [inPlace_eq, convertRounds_closure]
  as_aux_lemma => kernel_rfl
theorem convertRounds_unfollowed : (Rows.convertRoundsRow.unfollowed == Tryz.pinned.checked.prog.unfollowed 4) = true := by
  rw [Program.unfollowed, convertRounds_closure]
  as_aux_lemma => kernel_rfl
theorem convertRounds_recurses : (Rows.convertRoundsRow.recurses == Tryz.pinned.checked.prog.recurses 4) = true := by
  rw [Program.recurses, Program.unfollowed, convertRounds_closure]
  as_aux_lemma => kernel_rfl
theorem convertRounds_named : (Rows.convertRoundsRow.named == Tryz.pinned.checked.prog.varsNamed 4) = true := by
  rw [Program.varsNamed, convertRounds_closure]
  as_aux_lemma => kernel_rfl
set_option maxHeartbeats 40000000 in
theorem convertRounds_facts : joinedFacts Tryz.pinned.checked.prog 4 Tryz.f4 Rows.convertRoundsSpec Rows.convertRoundsRow = true := by
  unfold joinedFacts
  simp only [Bool.and_eq_true]
  repeat' apply And.intro
  all_goals (first | with_reducible exact convertRounds_inPlace | with_reducible exact convertRounds_unfollowed | with_reducible exact convertRounds_recurses | with_reducible exact convertRounds_named | (as_aux_lemma => kernel_rfl))
end Go.Proofs.YtljakaaebljiiaaGreatDoor
