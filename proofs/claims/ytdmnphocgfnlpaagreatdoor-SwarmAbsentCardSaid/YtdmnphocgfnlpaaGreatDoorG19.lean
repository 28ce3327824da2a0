/-
  SwarmAbsent: the closed facts of the given row, one by one.
  Conditions: none.
-/
import Derived.Test.YtdmnphocgfnlpaaGreatDoorG18
import Derived.Test.YtdmnphocgfnlpaaGreatDoorRows
import Derived.ProofKit
import Derived.KernelRfl
namespace Go.Proofs.YtdmnphocgfnlpaaGreatDoor
open Go
set_option maxRecDepth 100000
theorem swarmAbsent_cl : Tryz.prog.closure 7 = [7, 8, 9, 12, 36, 37, 90, 91, 38, 39, 40, 41, 42, 43, 81, 17, 53, 35, 14, 45, 46, 92, 93, 47, 48, 49, 50, 51, 30, 87, 19, 55, 94, 78, 130, 184, 112, 132, 172, 233, 318, 319, 136, 187, 269, 307, 341, 342, 62, 111, 414, 413, 457, 343, 344, 308, 166, 270, 173, 234, 320, 167, 229, 316, 230, 163, 227, 228, 317, 395, 396, 451, 397, 312, 313, 398, 452, 453, 474, 399, 400, 401, 402, 235, 108, 164, 345, 117, 200, 294, 381, 369, 368, 435, 126, 180, 370, 336, 378, 412, 128, 436, 295, 334, 382, 380, 403, 404, 454, 475, 405, 292, 335, 302, 321, 272, 347, 271, 346, 207, 300, 66, 114, 211, 304, 305, 303, 388, 392, 449, 437, 439, 438, 366, 151, 389, 390, 375, 450, 286, 371, 287, 373, 440, 374, 372, 215, 186, 110, 165, 216, 310, 309, 393, 301, 385, 386, 448, 387, 194, 193, 58, 101, 157, 102, 103, 158, 104, 105, 160, 217, 161, 218, 159, 106, 162, 219, 220, 311, 221, 222, 314, 315, 394, 223, 224, 225, 226, 107, 109, 196, 288, 118, 289, 376, 441, 377, 133, 290, 273, 59, 348, 415, 349, 120, 174, 135, 416, 121, 175, 236, 176, 237, 177, 238, 322, 323, 406, 324, 325, 407, 408, 455, 326, 327, 328, 329, 178, 123, 179, 417, 122, 202, 458, 433, 199, 203, 279, 274, 206, 79, 275, 350, 418, 459, 477, 476, 419, 460, 338, 461, 462, 478, 208, 147, 209, 210, 129, 127, 181, 239, 182, 330, 409, 456, 410, 411, 240, 241, 331, 242, 332, 243, 244, 245, 246, 247, 248, 249, 333, 250, 251, 252, 253, 254, 255, 337, 256, 257, 258, 259, 260, 261, 339, 262, 263, 264, 265, 183, 266, 267, 64, 268, 340, 137, 138, 77, 125, 188, 276, 351, 420, 352, 353, 355, 354, 421, 277, 356, 422, 357, 358, 423, 424, 463, 479, 359, 426, 427, 464, 425, 428, 465, 278, 280, 360, 201, 296, 297, 361, 383, 429, 446, 466, 442, 471, 472, 443, 467, 481, 482, 488, 487, 493, 495, 494, 496, 499, 503, 504, 505, 506, 507, 511, 512, 513, 514, 515, 509, 497, 500, 508, 510, 516, 517, 498, 502, 501, 468, 483, 484, 486, 485, 444, 445, 470, 491, 492, 469, 489, 480, 362, 363, 430, 431, 432, 204, 298, 384, 447, 473, 490, 281, 293, 282, 283, 364, 365, 434, 95, 99, 139, 96, 140, 141, 189, 284, 367, 285, 190, 191, 57, 192, 195, 97, 142, 98, 143, 144, 197, 291, 379, 134, 185, 198, 73, 119, 145, 146, 205, 299, 148, 149, 150, 152, 153, 154, 212, 306, 391, 213, 155, 156, 214, 56, 100, 23, 31, 60, 88, 29, 65, 22, 20, 63, 113, 61, 67, 115, 168, 231, 169, 68, 116, 170, 232, 171, 69, 71, 72, 70, 74, 33, 75, 28, 86, 21, 76, 124, 24, 25, 80, 26, 27, 83, 85, 84, 131, 82, 32, 34, 89] := by kernel_rfl
theorem swarmAbsent_uf : Tryz.prog.unfollowed 7 = true := by
  unfold Program.unfollowed
  rw [swarmAbsent_cl]
  kernel_rfl
theorem swarmAbsent_j0 : (fun (_P : Program) (_f : FuncId) (_fn : Func) (s : ChangeSpec) (c : OpenClaim) => (c.wf (OpenSpec.ofChange s) : Bool)) Tryz.prog 7 Tryz.f7 Rows.swarmAbsentSpec Rows.swarmAbsentRow = true := by kernel_rfl
theorem swarmAbsent_j1 : (fun (P : Program) (_f : FuncId) (_fn : Func) (_s : ChangeSpec) (_c : OpenClaim) => (laidOutB P : Bool)) Tryz.prog 7 Tryz.f7 Rows.swarmAbsentSpec Rows.swarmAbsentRow = true := by kernel_rfl
theorem swarmAbsent_j2 : (fun (P : Program) (_f : FuncId) (_fn : Func) (_s : ChangeSpec) (_c : OpenClaim) => (mapsRowed P : Bool)) Tryz.prog 7 Tryz.f7 Rows.swarmAbsentSpec Rows.swarmAbsentRow = true := by kernel_rfl
theorem swarmAbsent_j3 : (fun (P : Program) (_f : FuncId) (fn : Func) (_s : ChangeSpec) (_c : OpenClaim) => (fn.params.all (P.readableRec ·) : Bool)) Tryz.prog 7 Tryz.f7 Rows.swarmAbsentSpec Rows.swarmAbsentRow = true := by kernel_rfl
theorem swarmAbsent_j4 : (fun (P : Program) (_f : FuncId) (_fn : Func) (s : ChangeSpec) (c : OpenClaim) => (namedTie P c.named s.vars : Bool)) Tryz.prog 7 Tryz.f7 Rows.swarmAbsentSpec Rows.swarmAbsentRow = true := by kernel_rfl
theorem swarmAbsent_j5 : (fun (_P : Program) (_f : FuncId) (_fn : Func) (_s : ChangeSpec) (c : OpenClaim) => ((c.stops == []) : Bool)) Tryz.prog 7 Tryz.f7 Rows.swarmAbsentSpec Rows.swarmAbsentRow = true := by kernel_rfl
theorem swarmAbsent_j6 : (fun (P : Program) (_f : FuncId) (_fn : Func) (_s : ChangeSpec) (_c : OpenClaim) => ((P.stops == []) : Bool)) Tryz.prog 7 Tryz.f7 Rows.swarmAbsentSpec Rows.swarmAbsentRow = true := by kernel_rfl
theorem swarmAbsent_j7 : (fun (_P : Program) (_f : FuncId) (_fn : Func) (_s : ChangeSpec) (c : OpenClaim) => ((c.knobs == []) : Bool)) Tryz.prog 7 Tryz.f7 Rows.swarmAbsentSpec Rows.swarmAbsentRow = true := by kernel_rfl
theorem swarmAbsent_j8 : (fun (P : Program) (_f : FuncId) (_fn : Func) (_s : ChangeSpec) (_c : OpenClaim) => ((P.stopKnobs == []) : Bool)) Tryz.prog 7 Tryz.f7 Rows.swarmAbsentSpec Rows.swarmAbsentRow = true := by kernel_rfl
theorem swarmAbsent_j9 : (fun (P : Program) (f : FuncId) (_fn : Func) (_s : ChangeSpec) (c : OpenClaim) => ((c.inPlace == P.inPlace f) : Bool)) Tryz.prog 7 Tryz.f7 Rows.swarmAbsentSpec Rows.swarmAbsentRow = true := by
  show (Rows.swarmAbsentRow.inPlace == Tryz.prog.inPlace 7) = true
  unfold Program.inPlace
  rw [swarmAbsent_cl]
  kernel_rfl
theorem swarmAbsent_j10 : (fun (P : Program) (f : FuncId) (_fn : Func) (_s : ChangeSpec) (c : OpenClaim) => ((c.unfollowed == P.unfollowed f) : Bool)) Tryz.prog 7 Tryz.f7 Rows.swarmAbsentSpec Rows.swarmAbsentRow = true := by
  show (Rows.swarmAbsentRow.unfollowed == Tryz.prog.unfollowed 7) = true
  rw [swarmAbsent_uf]
  kernel_rfl
theorem swarmAbsent_j11 : (fun (P : Program) (f : FuncId) (_fn : Func) (_s : ChangeSpec) (c : OpenClaim) => ((c.recurses == P.recurses f) : Bool)) Tryz.prog 7 Tryz.f7 Rows.swarmAbsentSpec Rows.swarmAbsentRow = true := by
  show (Rows.swarmAbsentRow.recurses == Tryz.prog.recurses 7) = true
  unfold Program.recurses
  rw [swarmAbsent_uf, Bool.true_or]
  kernel_rfl
theorem swarmAbsent_j12 : (fun (P : Program) (f : FuncId) (_fn : Func) (_s : ChangeSpec) (c : OpenClaim) => ((c.named == P.varsNamed f) : Bool)) Tryz.prog 7 Tryz.f7 Rows.swarmAbsentSpec Rows.swarmAbsentRow = true := by
  show (Rows.swarmAbsentRow.named == Tryz.prog.varsNamed 7) = true
  unfold Program.varsNamed
  rw [swarmAbsent_cl]
  kernel_rfl
theorem swarmAbsent_j13 : (fun (P : Program) (_f : FuncId) (fn : Func) (s : ChangeSpec) (c : OpenClaim) => ((c.maps == (fn.params.toList ++ s.plain.varTypes P).any (P.mapsRec ·)) : Bool)) Tryz.prog 7 Tryz.f7 Rows.swarmAbsentSpec Rows.swarmAbsentRow = true := by kernel_rfl
theorem swarmAbsent_j14 : (fun (P : Program) (_f : FuncId) (fn : Func) (s : ChangeSpec) (c : OpenClaim) => ((c.ifaces == (fn.params.toList ++ s.plain.varTypes P).any (P.ifacesRec ·)) : Bool)) Tryz.prog 7 Tryz.f7 Rows.swarmAbsentSpec Rows.swarmAbsentRow = true := by kernel_rfl
theorem swarmAbsent_j15 : (fun (P : Program) (_f : FuncId) (fn : Func) (_s : ChangeSpec) (c : OpenClaim) => ((c.mapsOut == P.mapsAmong fn.resultTypes.toList) : Bool)) Tryz.prog 7 Tryz.f7 Rows.swarmAbsentSpec Rows.swarmAbsentRow = true := by kernel_rfl
theorem swarmAbsent_j16 : (fun (P : Program) (_f : FuncId) (fn : Func) (s : ChangeSpec) (c : OpenClaim) => ((c.loops == (fn.params.toList ++ s.plain.varTypes P).any (P.loopsFrom ·)) : Bool)) Tryz.prog 7 Tryz.f7 Rows.swarmAbsentSpec Rows.swarmAbsentRow = true := by kernel_rfl
theorem swarmAbsent_j17 : (fun (P : Program) (_f : FuncId) (fn : Func) (s : ChangeSpec) (c : OpenClaim) => ((c.wideKeys == (fn.params.toList ++ s.plain.varTypes P ++ fn.resultTypes.toList).any (P.wideKeysFrom ·)) : Bool)) Tryz.prog 7 Tryz.f7 Rows.swarmAbsentSpec Rows.swarmAbsentRow = true := by kernel_rfl
theorem swarmAbsent_j18 : (fun (P : Program) (_f : FuncId) (_fn : Func) (s : ChangeSpec) (_c : OpenClaim) => (s.vars.all (P.varReadable ·) : Bool)) Tryz.prog 7 Tryz.f7 Rows.swarmAbsentSpec Rows.swarmAbsentRow = true := by kernel_rfl
theorem swarmAbsent_j19 : (fun (P : Program) (_f : FuncId) (fn : Func) (_s : ChangeSpec) (_c : OpenClaim) => (fn.resultTypes.all (fun t => P.readableRec t && decide (t < P.types.size)) : Bool)) Tryz.prog 7 Tryz.f7 Rows.swarmAbsentSpec Rows.swarmAbsentRow = true := by kernel_rfl
theorem swarmAbsent_j20 : (fun (P : Program) (_f : FuncId) (fn : Func) (_s : ChangeSpec) (c : OpenClaim) => ((c.ifacesOut == fn.resultTypes.toList.any (P.ifacesRec ·)) : Bool)) Tryz.prog 7 Tryz.f7 Rows.swarmAbsentSpec Rows.swarmAbsentRow = true := by kernel_rfl
theorem swarmAbsent_j21 : (fun (P : Program) (_f : FuncId) (fn : Func) (_s : ChangeSpec) (c : OpenClaim) => ((c.loopsOut == fn.resultTypes.toList.any (P.loopsFrom ·)) : Bool)) Tryz.prog 7 Tryz.f7 Rows.swarmAbsentSpec Rows.swarmAbsentRow = true := by kernel_rfl
theorem swarmAbsent_j22 : (fun (P : Program) (_f : FuncId) (_fn : Func) (_s : ChangeSpec) (c : OpenClaim) => ((c.plainKeys == P.plainKeys) : Bool)) Tryz.prog 7 Tryz.f7 Rows.swarmAbsentSpec Rows.swarmAbsentRow = true := by kernel_rfl
theorem swarmAbsent_j23 : (fun (_P : Program) (_f : FuncId) (_fn : Func) (_s : ChangeSpec) (c : OpenClaim) => (c.shortTexts.isNone : Bool)) Tryz.prog 7 Tryz.f7 Rows.swarmAbsentSpec Rows.swarmAbsentRow = true := by kernel_rfl
theorem swarmAbsent_j24 : (fun (P : Program) (_f : FuncId) (_fn : Func) (_s : ChangeSpec) (_c : OpenClaim) => (P.stopsHeard : Bool)) Tryz.prog 7 Tryz.f7 Rows.swarmAbsentSpec Rows.swarmAbsentRow = true := by kernel_rfl
theorem swarmAbsent_j25 : (fun (P : Program) (_f : FuncId) (_fn : Func) (_s : ChangeSpec) (_c : OpenClaim) => (P.mayEnter : Bool)) Tryz.prog 7 Tryz.f7 Rows.swarmAbsentSpec Rows.swarmAbsentRow = true := by kernel_rfl
theorem swarmAbsent_j26 : (fun (P : Program) (_f : FuncId) (_fn : Func) (_s : ChangeSpec) (c : OpenClaim) => ((c.lifted == P.liftsFinal) : Bool)) Tryz.prog 7 Tryz.f7 Rows.swarmAbsentSpec Rows.swarmAbsentRow = true := by kernel_rfl
theorem swarmAbsent_j27 : (fun (P : Program) (_f : FuncId) (_fn : Func) (_s : ChangeSpec) (c : OpenClaim) => ((P.make == some c.make) : Bool)) Tryz.prog 7 Tryz.f7 Rows.swarmAbsentSpec Rows.swarmAbsentRow = true := by kernel_rfl
theorem swarmAbsent_j28 : (fun (P : Program) (_f : FuncId) (fn : Func) (_s : ChangeSpec) (c : OpenClaim) => ((c.kinds == (if c.domain.isEmpty then [] else fn.params.toList.map fun t => match P.underlying t with | some (.int k) => some k | _ => none)) : Bool)) Tryz.prog 7 Tryz.f7 Rows.swarmAbsentSpec Rows.swarmAbsentRow = true := by kernel_rfl
theorem swarmAbsent_j29 : (fun (_P : Program) (_f : FuncId) (_fn : Func) (_s : ChangeSpec) (c : OpenClaim) => ((c.pinned == c.pinnedBy) : Bool)) Tryz.prog 7 Tryz.f7 Rows.swarmAbsentSpec Rows.swarmAbsentRow = true := by kernel_rfl
theorem swarmAbsent_j30 : (fun (P : Program) (_f : FuncId) (fn : Func) (s : ChangeSpec) (c : OpenClaim) => ((c.veiled == (fn.params.toList ++ s.plain.varTypes P ++ fn.resultTypes.toList).any (P.veiledRec ·)) : Bool)) Tryz.prog 7 Tryz.f7 Rows.swarmAbsentSpec Rows.swarmAbsentRow = true := by kernel_rfl
theorem swarmAbsent_j31 : (fun (P : Program) (_f : FuncId) (fn : Func) (s : ChangeSpec) (c : OpenClaim) => (c.veiledFits P fn.params.toList (fn.params.toList ++ s.plain.varTypes P ++ fn.resultTypes.toList) : Bool)) Tryz.prog 7 Tryz.f7 Rows.swarmAbsentSpec Rows.swarmAbsentRow = true := by kernel_rfl
theorem swarmAbsent_facts : joinedFacts Tryz.prog 7 Tryz.f7 Rows.swarmAbsentSpec Rows.swarmAbsentRow = true := by
  unfold joinedFacts
  simp only [Bool.and_eq_true]
  exact ⟨⟨⟨⟨⟨⟨⟨⟨⟨⟨⟨⟨⟨⟨⟨⟨⟨⟨⟨⟨⟨⟨⟨⟨⟨⟨⟨⟨⟨⟨⟨swarmAbsent_j0, swarmAbsent_j1⟩, swarmAbsent_j2⟩, swarmAbsent_j3⟩, swarmAbsent_j4⟩, swarmAbsent_j5⟩, swarmAbsent_j6⟩, swarmAbsent_j7⟩, swarmAbsent_j8⟩, swarmAbsent_j9⟩, swarmAbsent_j10⟩, swarmAbsent_j11⟩, swarmAbsent_j12⟩, swarmAbsent_j13⟩, swarmAbsent_j14⟩, swarmAbsent_j15⟩, swarmAbsent_j16⟩, swarmAbsent_j17⟩, swarmAbsent_j18⟩, swarmAbsent_j19⟩, swarmAbsent_j20⟩, swarmAbsent_j21⟩, swarmAbsent_j22⟩, swarmAbsent_j23⟩, swarmAbsent_j24⟩, swarmAbsent_j25⟩, swarmAbsent_j26⟩, swarmAbsent_j27⟩, swarmAbsent_j28⟩, swarmAbsent_j29⟩, swarmAbsent_j30⟩, swarmAbsent_j31⟩
end Go.Proofs.YtdmnphocgfnlpaaGreatDoor

