/-
  The closed facts of the row of InterpLoops, one by one, by the program's tables.
-/
import Derived.Test.YthgfcpgjabodoaaGreatDoorHd3
import Derived.Test.YthgfcpgjabodoaaGreatDoorLo
import Derived.Test.YthgfcpgjabodoaaGreatDoorB0
import Derived.Test.YthgfcpgjabodoaaGreatDoorRows
import Derived.JoinedOf
namespace Go.Proofs.YthgfcpgjabodoaaGreatDoor
open Go Go.AM
set_option maxRecDepth 1000000
theorem gO : Tryz.pinned.checked.prog.closure 3 = [3, 5, 6, 13, 21, 37, 67, 38, 68, 110, 158, 159, 160, 161, 162, 70, 43, 78, 111, 112, 163, 191, 219, 192, 113, 164, 193, 165, 114, 115, 116, 72, 119, 120, 173, 208, 166, 167, 194, 220, 195, 168, 196, 221, 224, 222, 223, 245, 197, 225, 246, 198, 199, 226, 200, 227, 247, 248, 275, 252, 279, 317, 215, 318, 249, 276, 316, 358, 385, 251, 250, 277, 278, 253, 254, 169, 202, 232, 261, 262, 284, 323, 324, 233, 263, 285, 234, 264, 201, 228, 255, 256, 280, 281, 229, 230, 257, 282, 319, 320, 359, 209, 236, 265, 266, 267, 286, 258, 283, 321, 360, 322, 361, 259, 231, 260, 203, 170, 204, 205, 235, 206, 171, 207, 172, 118, 117, 69, 39, 40, 71, 41, 74, 73, 121, 75, 123, 122, 42, 76, 77, 44, 79, 124, 174, 125, 22, 45, 46, 80, 81, 126, 127, 128, 129, 175, 130, 131, 176, 47, 48, 82, 84, 132, 177, 83, 85, 86, 133, 92, 88, 134, 178, 210, 237, 268, 287, 325, 362, 363, 269, 288, 326, 289, 290, 7, 15, 32, 56, 57, 105, 104, 106, 58, 59, 107, 108, 156, 157, 327, 291, 238, 179, 87, 89, 90, 91, 93, 23, 49, 50, 94, 136, 135, 180, 95, 137, 139, 181, 138, 140, 51, 96, 141, 143, 183, 182, 211, 142, 146, 144, 145, 25, 24, 52, 97, 98, 147, 99, 148, 102, 149, 150, 151, 103, 152, 153, 184, 185, 186, 187, 212, 239, 20, 35, 65, 109, 36, 66, 213, 214, 240, 270, 292, 328, 293, 271, 294, 295, 329, 296, 297, 330, 331, 272, 299, 27, 28, 31, 53, 54, 55, 298, 300, 301, 302, 303, 241, 273, 274, 304, 332, 333, 334, 357, 29, 30, 336, 341, 335, 364, 365, 386, 404, 337, 305, 338, 366, 367, 339, 344, 306, 340, 368, 387, 26, 307, 308, 342, 369, 389, 388, 370, 371, 391, 406, 435, 465, 436, 437, 466, 500, 501, 535, 536, 467, 502, 468, 503, 485, 523, 407, 408, 438, 409, 439, 470, 471, 504, 469, 472, 440, 402, 410, 411, 441, 473, 474, 475, 505, 476, 403, 422, 459, 413, 412, 405, 442, 477, 443, 478, 506, 509, 508, 537, 569, 538, 507, 479, 510, 539, 540, 570, 589, 571, 572, 541, 542, 543, 544, 545, 573, 546, 547, 548, 549, 574, 575, 590, 576, 419, 444, 449, 450, 577, 578, 579, 580, 581, 550, 511, 480, 512, 513, 514, 551, 515, 552, 559, 582, 553, 554, 583, 584, 555, 585, 592, 602, 591, 593, 599, 243, 594, 603, 595, 604, 605, 596, 606, 607, 608, 597, 598, 600, 601, 586, 587, 556, 558, 557, 560, 561, 481, 516, 517, 518, 519, 562, 520, 563, 521, 564, 390, 483, 482, 522, 429, 461, 498, 526, 529, 528, 530, 527, 566, 531, 532, 533, 534, 567, 568, 588, 499, 462, 343, 309, 345, 372, 373, 310, 346, 374, 375, 347, 376, 392, 311, 348, 377, 378, 349, 350, 380, 393, 414, 415, 416, 445, 446, 448, 447, 484, 394, 417, 395, 396, 398, 418, 397, 381, 379, 312, 351, 382, 313, 352, 353, 314, 354, 355, 315, 356, 384, 383, 399, 420, 451, 486, 487, 488, 452, 460, 453, 489, 490, 524, 493, 565, 525, 491, 454, 455, 492, 456, 494, 421, 457, 495, 458, 496, 497, 423, 400, 424, 430, 425, 426, 427, 428, 401, 431, 433, 463, 432, 434, 464, 154, 155, 188, 189, 216, 242, 190, 217, 218, 244, 100, 101, 14, 9, 10, 11, 17, 18, 33, 60, 34, 61, 62, 63, 64, 19, 12] := xI (P := Tryz.pinned.checked.prog) ldAll 3 (fuel := 2222) (by as_aux_lemma => kernel_rfl) (by as_aux_lemma => kernel_rfl)
theorem aEs (f : FuncId) : Tryz.pinned.checked.prog.inPlace f = (Tryz.pinned.checked.prog.closure f).filterMap fun g => (Tryz.pinned.checked.prog.funcs[g]?).bind fun fn => if fn.ours || fn.body.isNone then some fn.name else none := by
 unfold Program.inPlace
 congr 1
 funext g
 cases h : Tryz.pinned.checked.prog.funcs[g]? with
 | none => rfl
 | some fn =>
  have hn : (fn.name == "runtime.NumGoroutine") = false := names g fn h
  simp only [Option.bind_some, hn, Bool.or_false]
theorem oF : (Rows.interpLoopsRow.inPlace == Tryz.pinned.checked.prog.inPlace 3) = true := by
 rw [aEs, gO, wJ (P := Tryz.pinned.checked.prog) ipAll]
 as_aux_lemma => kernel_rfl
theorem mE : Tryz.pinned.checked.prog.unfollowed 3 = true := by
 rw [Program.unfollowed, gO]
 as_aux_lemma => kernel_rfl
theorem lZ : (Rows.interpLoopsRow.unfollowed == Tryz.pinned.checked.prog.unfollowed 3) = true := by
 rw [mE]; rfl
theorem nQ : (Rows.interpLoopsRow.recurses == Tryz.pinned.checked.prog.recurses 3) = true := by
 rw [Program.recurses, mE, Bool.true_or]; rfl
theorem rD : (Rows.interpLoopsRow.named == Tryz.pinned.checked.prog.varsNamed 3) = true := by
 rw [Program.varsNamed, gO, aHi (P := Tryz.pinned.checked.prog) glAll, wJ (P := Tryz.pinned.checked.prog) rdAll]
 as_aux_lemma => kernel_rfl
set_option maxHeartbeats 40000000 in
theorem rH : joinedFacts Tryz.pinned.checked.prog 3 Tryz.f3 Rows.interpLoopsSpec Rows.interpLoopsRow = true := by
 unfold joinedFacts
 simp only [Bool.and_eq_true]
 repeat' apply And.intro
 all_goals (first | with_reducible exact oF | with_reducible exact lZ | with_reducible exact nQ | with_reducible exact rD | with_reducible exact uH | with_reducible exact aOw | (as_aux_lemma => kernel_rfl))
end Go.Proofs.YthgfcpgjabodoaaGreatDoor
