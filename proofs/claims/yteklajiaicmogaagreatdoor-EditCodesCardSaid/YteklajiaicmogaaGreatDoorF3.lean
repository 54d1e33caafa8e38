/-
  The closed facts of the row of EditCodes, one by one, by the program's tables.
-/
import Derived.Test.YteklajiaicmogaaGreatDoorHd2
import Derived.Test.YteklajiaicmogaaGreatDoorHd3
import Derived.Test.YteklajiaicmogaaGreatDoorK1
import Derived.Test.YteklajiaicmogaaGreatDoorLo
import Derived.Test.YteklajiaicmogaaGreatDoorRows
import Derived.JoinedOf
namespace Go.Proofs.YteklajiaicmogaaGreatDoor
open Go Go.AM
set_option maxRecDepth 1000000
theorem lD : Tryz.pinned.checked.prog.closure 3 = [3, 4, 9, 32, 69, 70, 133, 201, 251, 33, 71, 11, 37, 74, 136, 42, 84, 36, 73, 135, 43, 34, 38, 75, 76, 79, 39, 80, 81, 40, 82, 83, 77, 78, 41, 10, 35, 72, 134, 5, 12, 44, 85, 137, 202, 252, 45, 13, 46, 18, 14, 15, 47, 50, 16, 17, 48, 49, 19, 51, 53, 52, 6, 20, 21, 54, 62, 96, 86, 56, 55, 22, 57, 87, 58, 88, 89, 138, 59, 93, 92, 60, 95, 94, 90, 91, 61, 23, 7, 24, 63, 64, 97, 139, 98, 99, 100, 25, 26, 8, 27, 28, 65, 101, 140, 102, 141, 203, 253, 254, 255, 256, 257, 143, 204, 205, 258, 273, 287, 184, 242, 286, 243, 206, 183, 207, 259, 260, 301, 357, 302, 261, 297, 352, 350, 353, 351, 244, 298, 354, 401, 299, 300, 355, 293, 356, 402, 403, 454, 407, 379, 429, 430, 439, 404, 455, 480, 527, 553, 406, 405, 456, 457, 408, 409, 262, 295, 347, 397, 398, 452, 495, 496, 348, 399, 453, 349, 400, 294, 343, 391, 392, 448, 449, 344, 345, 393, 450, 490, 491, 531, 492, 532, 555, 556, 557, 562, 394, 451, 493, 533, 494, 534, 395, 346, 396, 296, 263, 303, 304, 358, 305, 264, 306, 265, 209, 208, 142, 103, 104, 144, 105, 146, 145, 175, 120, 182, 181, 106, 147, 148, 107, 149, 210, 266, 211, 31, 66, 108, 150, 151, 152, 153, 180, 212, 174, 239, 240, 241, 213, 214, 155, 160, 154, 215, 216, 267, 307, 156, 109, 157, 217, 218, 158, 164, 110, 159, 219, 268, 220, 111, 112, 161, 221, 166, 227, 123, 270, 269, 222, 223, 272, 309, 359, 410, 360, 361, 411, 187, 458, 497, 498, 412, 459, 413, 460, 432, 477, 525, 310, 311, 362, 312, 363, 415, 416, 461, 414, 417, 364, 284, 313, 314, 365, 418, 419, 420, 462, 421, 285, 325, 384, 316, 315, 308, 366, 422, 367, 423, 463, 128, 289, 340, 390, 341, 186, 188, 124, 424, 464, 499, 500, 535, 558, 536, 537, 501, 502, 503, 504, 505, 538, 506, 507, 508, 509, 539, 540, 559, 541, 322, 368, 373, 374, 542, 543, 544, 545, 546, 510, 465, 425, 466, 467, 468, 511, 469, 512, 519, 547, 513, 514, 548, 549, 515, 550, 561, 572, 560, 563, 569, 578, 564, 573, 565, 574, 575, 566, 576, 577, 579, 567, 568, 570, 571, 551, 552, 516, 518, 517, 520, 521, 426, 470, 471, 472, 473, 522, 474, 523, 475, 524, 271, 428, 427, 476, 332, 386, 446, 481, 484, 483, 485, 482, 528, 486, 487, 488, 489, 529, 530, 554, 447, 387, 162, 163, 113, 165, 224, 225, 226, 114, 167, 228, 229, 168, 230, 274, 115, 169, 231, 232, 170, 171, 234, 275, 317, 318, 319, 369, 370, 372, 371, 431, 276, 320, 277, 278, 280, 321, 279, 235, 233, 116, 172, 236, 117, 173, 176, 118, 177, 178, 119, 179, 238, 237, 281, 323, 375, 433, 434, 435, 376, 385, 377, 436, 437, 478, 441, 526, 479, 438, 378, 380, 440, 381, 442, 324, 382, 443, 383, 444, 445, 326, 282, 327, 333, 328, 329, 330, 331, 283, 334, 336, 388, 335, 337, 389, 29, 67, 121, 125, 122, 185, 245, 126, 129, 131, 197, 189, 246, 288, 338, 248, 339, 290, 291, 342, 247, 292, 132, 198, 199, 200, 68, 127, 190, 191, 192, 193, 130, 194, 250, 249, 195, 196, 30] := aBw (P := Tryz.pinned.checked.prog) ldAll 3 (fuel := 2221) (by as_aux_lemma => kernel_rfl) (by as_aux_lemma => kernel_rfl)
theorem aIs (f : FuncId) : Tryz.pinned.checked.prog.inPlace f = (Tryz.pinned.checked.prog.closure f).filterMap fun g => (Tryz.pinned.checked.prog.funcs[g]?).bind fun fn => if fn.ours || fn.body.isNone then some fn.name else none := by
 unfold Program.inPlace
 congr 1
 funext g
 cases h : Tryz.pinned.checked.prog.funcs[g]? with
 | none => rfl
 | some fn =>
  have hn : (fn.name == "runtime.NumGoroutine") = false := xJ g fn h
  simp only [Option.bind_some, hn, Bool.or_false]
theorem wA : (Rows.editCodesRow.inPlace == Tryz.pinned.checked.prog.inPlace 3) = true := by
 rw [aIs, lD, aAk (P := Tryz.pinned.checked.prog) ipAll]
 as_aux_lemma => kernel_rfl
theorem tJ : Tryz.pinned.checked.prog.unfollowed 3 = true := by
 rw [Program.unfollowed, lD]
 as_aux_lemma => kernel_rfl
theorem rX : (Rows.editCodesRow.unfollowed == Tryz.pinned.checked.prog.unfollowed 3) = true := by
 rw [tJ]; rfl
theorem tQ : (Rows.editCodesRow.recurses == Tryz.pinned.checked.prog.recurses 3) = true := by
 rw [Program.recurses, tJ, Bool.true_or]; rfl
theorem yA : (Rows.editCodesRow.named == Tryz.pinned.checked.prog.varsNamed 3) = true := by
 rw [Program.varsNamed, lD, aLt (P := Tryz.pinned.checked.prog) glAll, aAk (P := Tryz.pinned.checked.prog) rdAll]
 as_aux_lemma => kernel_rfl
set_option maxHeartbeats 40000000 in
theorem yC : joinedFacts Tryz.pinned.checked.prog 3 Tryz.f3 Rows.editCodesSpec Rows.editCodesRow = true := by
 unfold joinedFacts
 simp only [Bool.and_eq_true]
 repeat' apply And.intro
 all_goals (first | with_reducible exact wA | with_reducible exact rX | with_reducible exact tQ | with_reducible exact yA | with_reducible exact yQ | with_reducible exact aTg | (as_aux_lemma => kernel_rfl))
end Go.Proofs.YteklajiaicmogaaGreatDoor
