-- Written by a program of this session's (the kit's printer, some functions taken by contracts that this session proved).
import Derived.Test.YtjcmjfabadlbjaaPS3x0
import Derived.Test.YtjcmjfabadlbjaaPS3x1
namespace Go.Proofs.Ytjcmjfabadlbjaa.PS3
open Go.RowKit Go.Proofs.YtjcmjfabadlbjaaW.PrintWords Go.Proofs.YtjcmjfabadlbjaaW.PrintLast Go.Proofs.YtjcmjfabadlbjaaW.PrintMore
attribute [local go_sem] max2_int min2_int max_two min_two max_three min_three max_four min_four   -- for this text's walks alone
set_option linter.unusedVariables false
set_option linter.unusedSimpArgs false

/-! ### watchwordlaw3_awake: function 20 -/
def watchwordlaw3_awake.f (k : Nat)  : Option (Bool) := (slot_Put.f 258).bind fun bt110 => ((slot_Get.f k bt110.1).bind fun bt112 => ((slot_Put.f (-1)).bind fun bt114 => (if 16 ≤ 281474976710656 then ((slot_Get.f k (strOfNums (List.replicate 16 0))).bind fun bt119 => ((slot_Torn.f (strOfNums (List.replicate 16 0)) bt110.1 8).bind fun bt124 => ((slot_Torn.f bt110.1 bt110.1 17).bind fun bt126 => (if bt110.1.toList = ([0, 0, 0, 0, 0, 0, 1, 2, 255, 255, 255, 255, 255, 255, 254, 253] : List UInt8) then ((watchwordlaw0_Num.f bt110.2).bind fun t128 => (if t128 = 0 then (if bt112.1 = 258 then ((watchwordlaw0_Num.f bt112.2).bind fun t129 => (if t129 = 0 then ((watchwordlaw0_Num.f bt114.2).bind fun t130 => (if t130 = 300 then ((watchwordlaw0_Num.f bt119.2).bind fun t131 => (if t131 = 300 then (if 0 ≤ 8 then (if 8 ≤ (bt110.1.size : Int) then (if 8 ≤ 281474976710656 then ((some (List.replicate 8 0 : List Int)).bind fun y132 => (if (bt110.1.extract 0 8).size + (strOfNums y132).size ≤ 9223372036854775807 then (if bt124.1.toList = ((bt110.1.extract 0 8) ++ (strOfNums y132)).toList then ((watchwordlaw0_Num.f bt124.2).bind fun t135 => (if t135 = 0 then ((watchwordlaw0_Num.f bt126.2).bind fun t136 => (some (t136 == 300))) else (some false))) else (some false)) else (none))) else (none)) else (none)) else (none)) else (some false))) else (some false))) else (some false))) else (some false)) else (some false))) else (some false))))) else (none))))
theorem watchwordlaw3_awake.mono : ∀ k, LeO (watchwordlaw3_awake.f k ) (watchwordlaw3_awake.f (k + 1) ) := by
  intro  k
  unfold watchwordlaw3_awake.f
  repeat' first
      | (with_reducible exact slot_Get.mono _ _)
      | (with_reducible exact LeO.refl _)
      | (with_reducible exact LeO.none _)
      | (with_reducible refine LeO.ite ?_ ?_)
      | (with_reducible refine LeO.bind ?_ (fun _ => ?_))
      | exact slot_Get.mono _ _
      | exact LeO.none _
      | refine LeO.ite ?_ ?_
      | refine LeO.bind ?_ (fun _ => ?_)
def watchwordlaw3_awake.T7 : Bool × List (List Nat × List Nat) := (true, [([], []), ([0], [0]), ([1], [1]), ([2], [2]), ([3, 2, 2], [2, 3]), ([4, 2], [2, 4]), ([2, 5], [2, 5]), ([6, 4], [6]), ([7], [7]), ([8, 7], [7, 8]), ([7, 9], [7, 9]), ([10, 7], [10]), ([11], [11]), ([12, 11, 11], [11, 12]), ([13, 11], [11, 13]), ([11, 14], [11, 14]), ([15, 13], [15]), ([16], [16]), ([17, 16, 16], [16, 17]), ([18, 16], [16, 18]), ([16, 19], [16, 19]), ([20, 18], [20]), ([21], [21]), ([22, 21, 21], [21, 22]), ([23, 21], [21, 23]), ([21, 24], [21, 24]), ([25, 23], [25]), ([26], [26]), ([26], [26]), ([28, 26], [26, 28]), ([26], [26]), ([30, 26], [26, 30]), ([29, 31, 26], [26, 29, 31]), ([27, 32, 26], [26, 27, 32]), ([26, 33], [26, 33]), ([34, 26], [34]), ([35], [35]), ([36, 35, 35], [35, 36]), ([37, 35], [35, 37]), ([35, 38], [35, 38]), ([39, 37], [39]), ([40], [40]), ([41, 40, 40], [40, 41]), ([42, 40], [40, 42]), ([40, 43], [40, 43]), ([44, 42, 0, 1, 2, 3, 4, 5, 6, 7, 8, 9, 10, 11, 12, 13, 14, 15, 16, 17, 18, 19, 20, 21, 22, 23, 24, 25, 26, 27, 28, 29, 30, 31, 32, 33, 34, 35, 36, 37, 38, 39, 40, 41, 42, 43, 44], [44])])
def watchwordlaw3_awake.B7 : List Nat := [0, 1, 3, 7, 15, 31, 63, 127, 255, 511, 1023, 2047, 4095, 8191, 16383, 32767, 65535, 131071, 262143, 524287, 1048575, 2097151, 4194303, 8388607, 16777215, 33554431, 67108863, 134217727, 134217727, 402653183, 134217727, 1207959551, 4160749567, 8589934591, 17179869183, 34359738367, 68719476735, 137438953471, 274877906943, 549755813887, 1099511627775, 2199023255551, 4398046511103, 8796093022207, 17592186044415, 35184372088831]
theorem watchwordlaw3_awake.tab7 : rtab .any (opsOf Try.f20 7) = watchwordlaw3_awake.T7 := by kernel_rfl
theorem watchwordlaw3_awake.bits7 : waitsOk watchwordlaw3_awake.T7.2 watchwordlaw3_awake.B7 = true := by kernel_rfl
set_option maxHeartbeats 8000000 in
set_option maxRecDepth 100000 in
theorem watchwordlaw3_awake.calls (k : Nat)  (r : Bool) (hr : r = true) (w : World) (h : watchwordlaw3_awake.f k  = some r) :
    Calls Try.prog 20 #[] w fun e w' => e = .returned (.bool r) ∧ Below w.heap.size w w' := by
  have HB := Aside0.mk (Below.refl w.heap.size w)
  have H : ((slot_Put.f 258).bind fun bt110 => ((slot_Get.f k bt110.1).bind fun bt112 => ((slot_Put.f (-1)).bind fun bt114 => (if 16 ≤ 281474976710656 then ((slot_Get.f k (strOfNums (List.replicate 16 0))).bind fun bt119 => ((slot_Torn.f (strOfNums (List.replicate 16 0)) bt110.1 8).bind fun bt124 => ((slot_Torn.f bt110.1 bt110.1 17).bind fun bt126 => (if bt110.1.toList = ([0, 0, 0, 0, 0, 0, 1, 2, 255, 255, 255, 255, 255, 255, 254, 253] : List UInt8) then ((watchwordlaw0_Num.f bt110.2).bind fun t128 => (if t128 = 0 then (if bt112.1 = 258 then ((watchwordlaw0_Num.f bt112.2).bind fun t129 => (if t129 = 0 then ((watchwordlaw0_Num.f bt114.2).bind fun t130 => (if t130 = 300 then ((watchwordlaw0_Num.f bt119.2).bind fun t131 => (if t131 = 300 then (if 0 ≤ 8 then (if 8 ≤ (bt110.1.size : Int) then (if 8 ≤ 281474976710656 then ((some (List.replicate 8 0 : List Int)).bind fun y132 => (if (bt110.1.extract 0 8).size + (strOfNums y132).size ≤ 9223372036854775807 then (if bt124.1.toList = ((bt110.1.extract 0 8) ++ (strOfNums y132)).toList then ((watchwordlaw0_Num.f bt124.2).bind fun t135 => (if t135 = 0 then ((watchwordlaw0_Num.f bt126.2).bind fun t136 => (some (t136 == 300))) else (some false))) else (some false)) else (none))) else (none)) else (none)) else (none)) else (some false))) else (some false))) else (some false))) else (some false)) else (some false))) else (some false))))) else (none))))) = some r := h
  clear h
  replace H := Option.bind_eq_some_iff.mp H
  obtain ⟨⟨t110, t111⟩, A10, H⟩ := H
  replace H : ((slot_Get.f k t110).bind fun bt112 => ((slot_Put.f (-1)).bind fun bt114 => (if 16 ≤ 281474976710656 then ((slot_Get.f k (strOfNums (List.replicate 16 0))).bind fun bt119 => ((slot_Torn.f (strOfNums (List.replicate 16 0)) t110 8).bind fun bt124 => ((slot_Torn.f t110 t110 17).bind fun bt126 => (if t110.toList = ([0, 0, 0, 0, 0, 0, 1, 2, 255, 255, 255, 255, 255, 255, 254, 253] : List UInt8) then ((watchwordlaw0_Num.f t111).bind fun t128 => (if t128 = 0 then (if bt112.1 = 258 then ((watchwordlaw0_Num.f bt112.2).bind fun t129 => (if t129 = 0 then ((watchwordlaw0_Num.f bt114.2).bind fun t130 => (if t130 = 300 then ((watchwordlaw0_Num.f bt119.2).bind fun t131 => (if t131 = 300 then (if 0 ≤ 8 then (if 8 ≤ (t110.size : Int) then (if 8 ≤ 281474976710656 then ((some (List.replicate 8 0 : List Int)).bind fun y132 => (if (t110.extract 0 8).size + (strOfNums y132).size ≤ 9223372036854775807 then (if bt124.1.toList = ((t110.extract 0 8) ++ (strOfNums y132)).toList then ((watchwordlaw0_Num.f bt124.2).bind fun t135 => (if t135 = 0 then ((watchwordlaw0_Num.f bt126.2).bind fun t136 => (some (t136 == 300))) else (some false))) else (some false)) else (none))) else (none)) else (none)) else (none)) else (some false))) else (some false))) else (some false))) else (some false)) else (some false))) else (some false))))) else (none)))) = some r := H
  have A1 := Aside0.mk A10
  clear A10
  replace H := Option.bind_eq_some_iff.mp H
  obtain ⟨⟨t112, t113⟩, A20, H⟩ := H
  replace H : ((slot_Put.f (-1)).bind fun bt114 => (if 16 ≤ 281474976710656 then ((slot_Get.f k (strOfNums (List.replicate 16 0))).bind fun bt119 => ((slot_Torn.f (strOfNums (List.replicate 16 0)) t110 8).bind fun bt124 => ((slot_Torn.f t110 t110 17).bind fun bt126 => (if t110.toList = ([0, 0, 0, 0, 0, 0, 1, 2, 255, 255, 255, 255, 255, 255, 254, 253] : List UInt8) then ((watchwordlaw0_Num.f t111).bind fun t128 => (if t128 = 0 then (if t112 = 258 then ((watchwordlaw0_Num.f t113).bind fun t129 => (if t129 = 0 then ((watchwordlaw0_Num.f bt114.2).bind fun t130 => (if t130 = 300 then ((watchwordlaw0_Num.f bt119.2).bind fun t131 => (if t131 = 300 then (if 0 ≤ 8 then (if 8 ≤ (t110.size : Int) then (if 8 ≤ 281474976710656 then ((some (List.replicate 8 0 : List Int)).bind fun y132 => (if (t110.extract 0 8).size + (strOfNums y132).size ≤ 9223372036854775807 then (if bt124.1.toList = ((t110.extract 0 8) ++ (strOfNums y132)).toList then ((watchwordlaw0_Num.f bt124.2).bind fun t135 => (if t135 = 0 then ((watchwordlaw0_Num.f bt126.2).bind fun t136 => (some (t136 == 300))) else (some false))) else (some false)) else (none))) else (none)) else (none)) else (none)) else (some false))) else (some false))) else (some false))) else (some false)) else (some false))) else (some false))))) else (none))) = some r := H
  have A2 := Aside0.mk A20
  clear A20
  replace H := Option.bind_eq_some_iff.mp H
  obtain ⟨⟨t114, t115⟩, A30, H⟩ := H
  replace H : (if 16 ≤ 281474976710656 then ((slot_Get.f k (strOfNums (List.replicate 16 0))).bind fun bt119 => ((slot_Torn.f (strOfNums (List.replicate 16 0)) t110 8).bind fun bt124 => ((slot_Torn.f t110 t110 17).bind fun bt126 => (if t110.toList = ([0, 0, 0, 0, 0, 0, 1, 2, 255, 255, 255, 255, 255, 255, 254, 253] : List UInt8) then ((watchwordlaw0_Num.f t111).bind fun t128 => (if t128 = 0 then (if t112 = 258 then ((watchwordlaw0_Num.f t113).bind fun t129 => (if t129 = 0 then ((watchwordlaw0_Num.f t115).bind fun t130 => (if t130 = 300 then ((watchwordlaw0_Num.f bt119.2).bind fun t131 => (if t131 = 300 then (if 0 ≤ 8 then (if 8 ≤ (t110.size : Int) then (if 8 ≤ 281474976710656 then ((some (List.replicate 8 0 : List Int)).bind fun y132 => (if (t110.extract 0 8).size + (strOfNums y132).size ≤ 9223372036854775807 then (if bt124.1.toList = ((t110.extract 0 8) ++ (strOfNums y132)).toList then ((watchwordlaw0_Num.f bt124.2).bind fun t135 => (if t135 = 0 then ((watchwordlaw0_Num.f bt126.2).bind fun t136 => (some (t136 == 300))) else (some false))) else (some false)) else (none))) else (none)) else (none)) else (none)) else (some false))) else (some false))) else (some false))) else (some false)) else (some false))) else (some false))))) else (none)) = some r := H
  have A3 := Aside0.mk A30
  clear A30
  by_cases c4 : 16 ≤ 281474976710656
  · rw [if_pos c4] at H
    have c4b0 := eq_true c4
    have c4b1 : decide (16 ≤ 281474976710656) = true := decide_eq_true c4
    clear c4
    obtain ⟨y116, hy116⟩ : ∃ y_ : List Int, y_ = (List.replicate 16 0) := ⟨_, rfl⟩
    replace H : ((slot_Get.f k (strOfNums y116)).bind fun bt119 => ((slot_Torn.f (strOfNums (List.replicate 16 0)) t110 8).bind fun bt124 => ((slot_Torn.f t110 t110 17).bind fun bt126 => (if t110.toList = ([0, 0, 0, 0, 0, 0, 1, 2, 255, 255, 255, 255, 255, 255, 254, 253] : List UInt8) then ((watchwordlaw0_Num.f t111).bind fun t128 => (if t128 = 0 then (if t112 = 258 then ((watchwordlaw0_Num.f t113).bind fun t129 => (if t129 = 0 then ((watchwordlaw0_Num.f t115).bind fun t130 => (if t130 = 300 then ((watchwordlaw0_Num.f bt119.2).bind fun t131 => (if t131 = 300 then (if 0 ≤ 8 then (if 8 ≤ (t110.size : Int) then (if 8 ≤ 281474976710656 then ((some (List.replicate 8 0 : List Int)).bind fun y132 => (if (t110.extract 0 8).size + (strOfNums y132).size ≤ 9223372036854775807 then (if bt124.1.toList = ((t110.extract 0 8) ++ (strOfNums y132)).toList then ((watchwordlaw0_Num.f bt124.2).bind fun t135 => (if t135 = 0 then ((watchwordlaw0_Num.f bt126.2).bind fun t136 => (some (t136 == 300))) else (some false))) else (some false)) else (none))) else (none)) else (none)) else (none)) else (some false))) else (some false))) else (some false))) else (some false)) else (some false))) else (some false))))) = some r := by first | (rw [hy116]; with_reducible exact H) | (have H2_ := (Option.bind_some _ _).symm.trans H; rw [hy116]; with_reducible exact H2_) | (have H2_ := (Option.bind_some _ _).symm.trans H; with_reducible exact H2_) | with_reducible exact H | (rw [hy116]; exact H) | exact H
    have Ny116 := Aside0.mk hy116
    clear hy116
    replace H := Option.bind_eq_some_iff.mp H
    obtain ⟨⟨t119, t120⟩, A50, H⟩ := H
    replace H : ((slot_Torn.f (strOfNums (List.replicate 16 0)) t110 8).bind fun bt124 => ((slot_Torn.f t110 t110 17).bind fun bt126 => (if t110.toList = ([0, 0, 0, 0, 0, 0, 1, 2, 255, 255, 255, 255, 255, 255, 254, 253] : List UInt8) then ((watchwordlaw0_Num.f t111).bind fun t128 => (if t128 = 0 then (if t112 = 258 then ((watchwordlaw0_Num.f t113).bind fun t129 => (if t129 = 0 then ((watchwordlaw0_Num.f t115).bind fun t130 => (if t130 = 300 then ((watchwordlaw0_Num.f t120).bind fun t131 => (if t131 = 300 then (if 0 ≤ 8 then (if 8 ≤ (t110.size : Int) then (if 8 ≤ 281474976710656 then ((some (List.replicate 8 0 : List Int)).bind fun y132 => (if (t110.extract 0 8).size + (strOfNums y132).size ≤ 9223372036854775807 then (if bt124.1.toList = ((t110.extract 0 8) ++ (strOfNums y132)).toList then ((watchwordlaw0_Num.f bt124.2).bind fun t135 => (if t135 = 0 then ((watchwordlaw0_Num.f bt126.2).bind fun t136 => (some (t136 == 300))) else (some false))) else (some false)) else (none))) else (none)) else (none)) else (none)) else (some false))) else (some false))) else (some false))) else (some false)) else (some false))) else (some false)))) = some r := H
    have A5 := Aside0.mk A50
    clear A50
    obtain ⟨y121, hy121⟩ : ∃ y_ : List Int, y_ = (List.replicate 16 0) := ⟨_, rfl⟩
    replace H : ((slot_Torn.f (strOfNums y121) t110 8).bind fun bt124 => ((slot_Torn.f t110 t110 17).bind fun bt126 => (if t110.toList = ([0, 0, 0, 0, 0, 0, 1, 2, 255, 255, 255, 255, 255, 255, 254, 253] : List UInt8) then ((watchwordlaw0_Num.f t111).bind fun t128 => (if t128 = 0 then (if t112 = 258 then ((watchwordlaw0_Num.f t113).bind fun t129 => (if t129 = 0 then ((watchwordlaw0_Num.f t115).bind fun t130 => (if t130 = 300 then ((watchwordlaw0_Num.f t120).bind fun t131 => (if t131 = 300 then (if 0 ≤ 8 then (if 8 ≤ (t110.size : Int) then (if 8 ≤ 281474976710656 then ((some (List.replicate 8 0 : List Int)).bind fun y132 => (if (t110.extract 0 8).size + (strOfNums y132).size ≤ 9223372036854775807 then (if bt124.1.toList = ((t110.extract 0 8) ++ (strOfNums y132)).toList then ((watchwordlaw0_Num.f bt124.2).bind fun t135 => (if t135 = 0 then ((watchwordlaw0_Num.f bt126.2).bind fun t136 => (some (t136 == 300))) else (some false))) else (some false)) else (none))) else (none)) else (none)) else (none)) else (some false))) else (some false))) else (some false))) else (some false)) else (some false))) else (some false)))) = some r := by first | (rw [hy121]; with_reducible exact H) | (have H2_ := (Option.bind_some _ _).symm.trans H; rw [hy121]; with_reducible exact H2_) | (have H2_ := (Option.bind_some _ _).symm.trans H; with_reducible exact H2_) | with_reducible exact H | (rw [hy121]; exact H) | exact H
    have Ny121 := Aside0.mk hy121
    clear hy121
    replace H := Option.bind_eq_some_iff.mp H
    obtain ⟨⟨t124, t125⟩, A60, H⟩ := H
    replace H : ((slot_Torn.f t110 t110 17).bind fun bt126 => (if t110.toList = ([0, 0, 0, 0, 0, 0, 1, 2, 255, 255, 255, 255, 255, 255, 254, 253] : List UInt8) then ((watchwordlaw0_Num.f t111).bind fun t128 => (if t128 = 0 then (if t112 = 258 then ((watchwordlaw0_Num.f t113).bind fun t129 => (if t129 = 0 then ((watchwordlaw0_Num.f t115).bind fun t130 => (if t130 = 300 then ((watchwordlaw0_Num.f t120).bind fun t131 => (if t131 = 300 then (if 0 ≤ 8 then (if 8 ≤ (t110.size : Int) then (if 8 ≤ 281474976710656 then ((some (List.replicate 8 0 : List Int)).bind fun y132 => (if (t110.extract 0 8).size + (strOfNums y132).size ≤ 9223372036854775807 then (if t124.toList = ((t110.extract 0 8) ++ (strOfNums y132)).toList then ((watchwordlaw0_Num.f t125).bind fun t135 => (if t135 = 0 then ((watchwordlaw0_Num.f bt126.2).bind fun t136 => (some (t136 == 300))) else (some false))) else (some false)) else (none))) else (none)) else (none)) else (none)) else (some false))) else (some false))) else (some false))) else (some false)) else (some false))) else (some false))) = some r := H
    have A6 := Aside0.mk A60
    clear A60
    replace H := Option.bind_eq_some_iff.mp H
    obtain ⟨⟨t126, t127⟩, A70, H⟩ := H
    replace H : (if t110.toList = ([0, 0, 0, 0, 0, 0, 1, 2, 255, 255, 255, 255, 255, 255, 254, 253] : List UInt8) then ((watchwordlaw0_Num.f t111).bind fun t128 => (if t128 = 0 then (if t112 = 258 then ((watchwordlaw0_Num.f t113).bind fun t129 => (if t129 = 0 then ((watchwordlaw0_Num.f t115).bind fun t130 => (if t130 = 300 then ((watchwordlaw0_Num.f t120).bind fun t131 => (if t131 = 300 then (if 0 ≤ 8 then (if 8 ≤ (t110.size : Int) then (if 8 ≤ 281474976710656 then ((some (List.replicate 8 0 : List Int)).bind fun y132 => (if (t110.extract 0 8).size + (strOfNums y132).size ≤ 9223372036854775807 then (if t124.toList = ((t110.extract 0 8) ++ (strOfNums y132)).toList then ((watchwordlaw0_Num.f t125).bind fun t135 => (if t135 = 0 then ((watchwordlaw0_Num.f t127).bind fun t136 => (some (t136 == 300))) else (some false))) else (some false)) else (none))) else (none)) else (none)) else (none)) else (some false))) else (some false))) else (some false))) else (some false)) else (some false))) else (some false)) = some r := H
    have A7 := Aside0.mk A70
    clear A70
    by_cases c8 : t110.toList = ([0, 0, 0, 0, 0, 0, 1, 2, 255, 255, 255, 255, 255, 255, 254, 253] : List UInt8)
    · rw [if_pos c8] at H
      have c8b0 : (t110.toList == ([0, 0, 0, 0, 0, 0, 1, 2, 255, 255, 255, 255, 255, 255, 254, 253] : List UInt8)) = true := beq_iff_eq.mpr c8
      have c8b1 : (t110.toList != ([0, 0, 0, 0, 0, 0, 1, 2, 255, 255, 255, 255, 255, 255, 254, 253] : List UInt8)) = false := bne_eq_false_iff_eq.mpr c8
      clear c8
      replace H := Option.bind_eq_some_iff.mp H
      obtain ⟨t128, A90, H⟩ := H
      replace H : (if t128 = 0 then (if t112 = 258 then ((watchwordlaw0_Num.f t113).bind fun t129 => (if t129 = 0 then ((watchwordlaw0_Num.f t115).bind fun t130 => (if t130 = 300 then ((watchwordlaw0_Num.f t120).bind fun t131 => (if t131 = 300 then (if 0 ≤ 8 then (if 8 ≤ (t110.size : Int) then (if 8 ≤ 281474976710656 then ((some (List.replicate 8 0 : List Int)).bind fun y132 => (if (t110.extract 0 8).size + (strOfNums y132).size ≤ 9223372036854775807 then (if t124.toList = ((t110.extract 0 8) ++ (strOfNums y132)).toList then ((watchwordlaw0_Num.f t125).bind fun t135 => (if t135 = 0 then ((watchwordlaw0_Num.f t127).bind fun t136 => (some (t136 == 300))) else (some false))) else (some false)) else (none))) else (none)) else (none)) else (none)) else (some false))) else (some false))) else (some false))) else (some false)) else (some false)) = some r := H
      have A9 := Aside0.mk A90
      clear A90
      by_cases c10 : t128 = 0
      · rw [if_pos c10] at H
        have c10b0 : (t128 == 0) = true := beq_iff_eq.mpr c10
        have c10b1 : (t128 != 0) = false := bne_eq_false_iff_eq.mpr c10
        clear c10
        by_cases c11 : t112 = 258
        · rw [if_pos c11] at H
          have c11b0 : (t112 == 258) = true := beq_iff_eq.mpr c11
          have c11b1 : (t112 != 258) = false := bne_eq_false_iff_eq.mpr c11
          clear c11
          replace H := Option.bind_eq_some_iff.mp H
          obtain ⟨t129, A120, H⟩ := H
          replace H : (if t129 = 0 then ((watchwordlaw0_Num.f t115).bind fun t130 => (if t130 = 300 then ((watchwordlaw0_Num.f t120).bind fun t131 => (if t131 = 300 then (if 0 ≤ 8 then (if 8 ≤ (t110.size : Int) then (if 8 ≤ 281474976710656 then ((some (List.replicate 8 0 : List Int)).bind fun y132 => (if (t110.extract 0 8).size + (strOfNums y132).size ≤ 9223372036854775807 then (if t124.toList = ((t110.extract 0 8) ++ (strOfNums y132)).toList then ((watchwordlaw0_Num.f t125).bind fun t135 => (if t135 = 0 then ((watchwordlaw0_Num.f t127).bind fun t136 => (some (t136 == 300))) else (some false))) else (some false)) else (none))) else (none)) else (none)) else (none)) else (some false))) else (some false))) else (some false)) = some r := H
          have A12 := Aside0.mk A120
          clear A120
          by_cases c13 : t129 = 0
          · rw [if_pos c13] at H
            have c13b0 : (t129 == 0) = true := beq_iff_eq.mpr c13
            have c13b1 : (t129 != 0) = false := bne_eq_false_iff_eq.mpr c13
            clear c13
            replace H := Option.bind_eq_some_iff.mp H
            obtain ⟨t130, A140, H⟩ := H
            replace H : (if t130 = 300 then ((watchwordlaw0_Num.f t120).bind fun t131 => (if t131 = 300 then (if 0 ≤ 8 then (if 8 ≤ (t110.size : Int) then (if 8 ≤ 281474976710656 then ((some (List.replicate 8 0 : List Int)).bind fun y132 => (if (t110.extract 0 8).size + (strOfNums y132).size ≤ 9223372036854775807 then (if t124.toList = ((t110.extract 0 8) ++ (strOfNums y132)).toList then ((watchwordlaw0_Num.f t125).bind fun t135 => (if t135 = 0 then ((watchwordlaw0_Num.f t127).bind fun t136 => (some (t136 == 300))) else (some false))) else (some false)) else (none))) else (none)) else (none)) else (none)) else (some false))) else (some false)) = some r := H
            have A14 := Aside0.mk A140
            clear A140
            by_cases c15 : t130 = 300
            · rw [if_pos c15] at H
              have c15b0 : (t130 == 300) = true := beq_iff_eq.mpr c15
              have c15b1 : (t130 != 300) = false := bne_eq_false_iff_eq.mpr c15
              clear c15
              replace H := Option.bind_eq_some_iff.mp H
              obtain ⟨t131, A160, H⟩ := H
              replace H : (if t131 = 300 then (if 0 ≤ 8 then (if 8 ≤ (t110.size : Int) then (if 8 ≤ 281474976710656 then ((some (List.replicate 8 0 : List Int)).bind fun y132 => (if (t110.extract 0 8).size + (strOfNums y132).size ≤ 9223372036854775807 then (if t124.toList = ((t110.extract 0 8) ++ (strOfNums y132)).toList then ((watchwordlaw0_Num.f t125).bind fun t135 => (if t135 = 0 then ((watchwordlaw0_Num.f t127).bind fun t136 => (some (t136 == 300))) else (some false))) else (some false)) else (none))) else (none)) else (none)) else (none)) else (some false)) = some r := H
              have A16 := Aside0.mk A160
              clear A160
              by_cases c17 : t131 = 300
              · rw [if_pos c17] at H
                have c17b0 : (t131 == 300) = true := beq_iff_eq.mpr c17
                have c17b1 : (t131 != 300) = false := bne_eq_false_iff_eq.mpr c17
                clear c17
                by_cases c18 : 0 ≤ 8
                · rw [if_pos c18] at H
                  have c18b0 := eq_true c18
                  have c18b1 : decide (0 ≤ 8) = true := decide_eq_true c18
                  clear c18
                  by_cases c19 : 8 ≤ (t110.size : Int)
                  · rw [if_pos c19] at H
                    have c19b0 := eq_true c19
                    have c19b1 : decide (8 ≤ (t110.size : Int)) = true := decide_eq_true c19
                    clear c19
                    by_cases c20 : 8 ≤ 281474976710656
                    · rw [if_pos c20] at H
                      have c20b0 := eq_true c20
                      have c20b1 : decide (8 ≤ 281474976710656) = true := decide_eq_true c20
                      clear c20
                      obtain ⟨y132, hy132⟩ : ∃ y_ : List Int, y_ = (List.replicate 8 0) := ⟨_, rfl⟩
                      replace H : (if (t110.extract 0 8).size + (strOfNums y132).size ≤ 9223372036854775807 then (if t124.toList = ((t110.extract 0 8) ++ (strOfNums y132)).toList then ((watchwordlaw0_Num.f t125).bind fun t135 => (if t135 = 0 then ((watchwordlaw0_Num.f t127).bind fun t136 => (some (t136 == 300))) else (some false))) else (some false)) else (none)) = some r := by first | (rw [hy132]; with_reducible exact H) | (have H2_ := (Option.bind_some _ _).symm.trans H; rw [hy132]; with_reducible exact H2_) | (have H2_ := (Option.bind_some _ _).symm.trans H; with_reducible exact H2_) | with_reducible exact H | (rw [hy132]; exact H) | exact H
                      have Ny132 := Aside0.mk hy132
                      clear hy132
                      by_cases c21 : (t110.extract 0 8).size + (strOfNums y132).size ≤ 9223372036854775807
                      · rw [if_pos c21] at H
                        have c21b0 := eq_true c21
                        have c21b1 : decide ((t110.extract 0 8).size + (strOfNums y132).size ≤ 9223372036854775807) = true := decide_eq_true c21
                        try have c21b2 : (9223372036854775807 < (t110.extract 0 8).size + (strOfNums y132).size) = False := eq_false (Nat.not_lt.2 c21)
                        try (have c21b3 := c21b2; simp only [ByteArray.size_extract, Nat.sub_zero] at c21b3)
                        by_cases c22 : t124.toList = ((t110.extract 0 8) ++ (strOfNums y132)).toList
                        · rw [if_pos c22] at H
                          have c22b0 : (t124.toList == ((t110.extract 0 8) ++ (strOfNums y132)).toList) = true := beq_iff_eq.mpr c22
                          have c22b1 : (t124.toList != ((t110.extract 0 8) ++ (strOfNums y132)).toList) = false := bne_eq_false_iff_eq.mpr c22
                          clear c22
                          replace H := Option.bind_eq_some_iff.mp H
                          obtain ⟨t135, A230, H⟩ := H
                          replace H : (if t135 = 0 then ((watchwordlaw0_Num.f t127).bind fun t136 => (some (t136 == 300))) else (some false)) = some r := H
                          have A23 := Aside0.mk A230
                          clear A230
                          by_cases c24 : t135 = 0
                          · rw [if_pos c24] at H
                            have c24b0 : (t135 == 0) = true := beq_iff_eq.mpr c24
                            have c24b1 : (t135 != 0) = false := bne_eq_false_iff_eq.mpr c24
                            clear c24
                            replace H := Option.bind_eq_some_iff.mp H
                            obtain ⟨t136, A250, H⟩ := H
                            replace H : (some (t136 == 300)) = some r := H
                            have A25 := Aside0.mk A250
                            clear A250
                            obtain rfl := Option.some.inj H
                            go_enter Try.func20, Try.ntmps20
                            try go_wp2_with (first | ((with_reducible refine gate_callee (f := 13) rfl ?_); refine goesL_ (some 14) rfl rfl Try.func13 (by kernel_rfl) rfl #[.int .i64 258] rfl (by (try simp only [List.map_toArray, List.map_cons, List.map_nil]); first | done | rfl | (simp only [List.length_drop, List.length_take]; rfl)) ?_; (with_reducible refine (slot_Put.calls 258 t110 t111 _ A1.out).mono ?_); rintro e w26 ⟨rfl, hb⟩; refine ⟨_, rfl, ?_⟩; have n0_ := Aside0.mk (below_step (by repeat (first | (with_reducible first | exact HB.out | apply below_alloc | apply pw_below_drewN | apply below_drew1) | exact HB.out)) hb); clear HB; have HB := n0_; clear n0_; (try clear hb); (try clear hb2); (try clear hk); (try clear hi)) | ((with_reducible refine gate_callee (f := 15) rfl ?_); refine goesL_ (some 19) rfl rfl Try.func15 (by kernel_rfl) rfl #[.string t110] rfl (by (try simp only [List.map_toArray, List.map_cons, List.map_nil]); first | done | rfl | (simp only [List.length_drop, List.length_take]; rfl)) ?_; (with_reducible refine (slot_Get.calls k t110 t112 t113 _ A2.out).mono ?_); rintro e w27 ⟨rfl, hb⟩; refine ⟨_, rfl, ?_⟩; have n0_ := Aside0.mk (below_step (by repeat (first | (with_reducible first | exact HB.out | apply below_alloc | apply pw_below_drewN | apply below_drew1) | exact HB.out)) hb); clear HB; have HB := n0_; clear n0_; (try clear hb); (try clear hb2); (try clear hk); (try clear hi)) | ((with_reducible refine gate_callee (f := 13) rfl ?_); refine goesL_ (some 23) rfl rfl Try.func13 (by kernel_rfl) rfl #[.int .i64 (-1)] rfl (by (try simp only [List.map_toArray, List.map_cons, List.map_nil]); first | done | rfl | (simp only [List.length_drop, List.length_take]; rfl)) ?_; (with_reducible refine (slot_Put.calls (-1) t114 t115 _ A3.out).mono ?_); rintro e w28 ⟨rfl, hb⟩; refine ⟨_, rfl, ?_⟩; have n0_ := Aside0.mk (below_step (by repeat (first | (with_reducible first | exact HB.out | apply below_alloc | apply pw_below_drewN | apply below_drew1) | exact HB.out)) hb); clear HB; have HB := n0_; clear n0_; (try clear hb); (try clear hb2); (try clear hk); (try clear hi)) | ((with_reducible refine gate_dst (N := 27) rfl ?_); (try (refine gate_guard (by rfl) ?_; dsimp only)); refine Kd.R_make (Kd.int .u8) _ 5 rfl (N := 27) rfl 41 _ _ rfl 16 rfl rfl Try.underlying41 (.int .u8 0) 1 info5 rfl (by decide) (by omega) 0 (ok := fun _ => True) (okp := fun _ => True) rfl (fun _ hk => hk) trivial (by omega) (by omega) (Below.refl _ _) (Nat.le_refl _) ?_; intro v117 w29 ho30 hb hg_ hnew_; clear hg_ hnew_; (first | rw [← Ny116.out] at ho30 | (simp only [Int.reduceToNat] at ho30; rw [← Ny116.out] at ho30)); have n0_ := Aside0.mk (Kd.R_lower ho30 (below_size (by repeat (first | (with_reducible first | exact HB.out | apply below_alloc | apply pw_below_drewN | apply below_drew1) | exact HB.out)))); have n1_ := Aside0.mk (below_step (by repeat (first | (with_reducible first | exact HB.out | apply below_alloc | apply pw_below_drewN | apply below_drew1) | exact HB.out)) hb); clear HB; have HO118 := n0_; have HB := n1_; clear n0_ n1_; clear hb ho30; have hcv31 := own_string (P := Try.prog) Try.underlying41 Try.underlying5 Try.underlying9 (Kd.own_of_R HO118.out)) | ((with_reducible refine gate_callee (f := 15) rfl ?_); refine goesL_ (some 29) rfl rfl Try.func15 (by kernel_rfl) rfl #[.string (strOfNums y116)] rfl (by (try simp only [List.map_toArray, List.map_cons, List.map_nil]); first | done | rfl | (simp only [List.length_drop, List.length_take]; rfl)) ?_; (with_reducible refine (slot_Get.calls k (strOfNums y116) t119 t120 _ A5.out).mono ?_); rintro e w32 ⟨rfl, hb⟩; refine ⟨_, rfl, ?_⟩; have n0_ := Aside0.mk (Kd.R_below (by (with_reducible repeat (first | apply Kd.R_alloc | apply Kd.R_drewN | apply Kd.R_drew)); exact HO118.out) hb); have n1_ := Aside0.mk (below_step (by repeat (first | (with_reducible first | exact HB.out | apply below_alloc | apply pw_below_drewN | apply below_drew1) | exact HB.out)) hb); clear HO118; clear HB; have HO118 := n0_; have HB := n1_; clear n0_ n1_; (try clear hb); (try clear hb2); (try clear hk); (try clear hi)) | ((with_reducible refine gate_dst (N := 33) rfl ?_); (try (refine gate_guard (by rfl) ?_; dsimp only)); refine Kd.R_make (Kd.int .u8) _ 5 rfl (N := 33) rfl 41 _ _ rfl 16 rfl rfl Try.underlying41 (.int .u8 0) 1 info5 rfl (by decide) (by omega) 0 (ok := fun _ => True) (okp := fun _ => True) rfl (fun _ hk => hk) trivial (by omega) (by omega) (Below.refl _ _) (Nat.le_refl _) ?_; intro v122 w33 ho34 hb hg_ hnew_; clear hg_ hnew_; (first | rw [← Ny121.out] at ho34 | (simp only [Int.reduceToNat] at ho34; rw [← Ny121.out] at ho34)); have n0_ := Aside0.mk (Kd.R_elder' (by (with_reducible repeat (first | apply Kd.R_alloc | apply Kd.R_drewN | apply Kd.R_drew)); exact HO118.out) (Kd.R_base ho34) hb); have n1_ := Aside0.mk (Kd.R_lower (Kd.R_new' ho34 (Kd.R_lt (by (with_reducible repeat (first | apply Kd.R_alloc | apply Kd.R_drewN | apply Kd.R_drew)); exact HO118.out))) (below_size (by repeat (first | (with_reducible first | exact HB.out | apply below_alloc | apply pw_below_drewN | apply below_drew1) | exact HB.out)))); have n2_ := Aside0.mk (below_step (by repeat (first | (with_reducible first | exact HB.out | apply below_alloc | apply pw_below_drewN | apply below_drew1) | exact HB.out)) hb); clear HO118; clear HB; have HO118 := n0_; have HO123 := n1_; have HB := n2_; clear n0_ n1_ n2_; clear hb ho34; have hcv35 := own_string (P := Try.prog) Try.underlying41 Try.underlying5 Try.underlying9 (Kd.own_of_R HO123.out)) | ((with_reducible refine gate_callee (f := 17) rfl ?_); refine goesL_ (some 36) rfl rfl Try.func17 (by kernel_rfl) rfl #[.string (strOfNums y121), .string t110, .int .i64 8] rfl (by (try simp only [List.map_toArray, List.map_cons, List.map_nil]); first | done | rfl | (simp only [List.length_drop, List.length_take]; rfl)) ?_; (with_reducible refine (slot_Torn.calls (strOfNums y121) t110 8 t124 t125 _ A6.out).mono ?_); rintro e w' ⟨rfl, ⟨nd, rfl⟩⟩; refine ⟨_, rfl, ?_⟩) | ((with_reducible refine gate_callee (f := 17) rfl ?_); refine goesL_ (some 42) rfl rfl Try.func17 (by kernel_rfl) rfl #[.string t110, .string t110, .int .i64 17] rfl (by (try simp only [List.map_toArray, List.map_cons, List.map_nil]); first | done | rfl | (simp only [List.length_drop, List.length_take]; rfl)) ?_; (with_reducible refine (slot_Torn.calls t110 t110 17 t126 t127 _ A7.out).mono ?_); rintro e w' ⟨rfl, ⟨nd, rfl⟩⟩; refine ⟨_, rfl, ?_⟩))
                            (try (rw [drewN_self w33]; generalize hq_ : World.drewN w33 _ = w33; have n0_ : Aside0 (Kd.R (Kd.int .u8) 5 w33 w.heap.size (fun k_ => some k_ ≠ (v122 : Value).ownBlock) v117 y116) := ⟨by rw [← hq_]; exact (by (with_reducible repeat (first | apply Kd.R_alloc | apply Kd.R_drewN | apply Kd.R_drew)); exact Kd.R_mono HO118.out (fun _ hk => hk.2))⟩; have n1_ : Aside0 (Kd.R (Kd.int .u8) 5 w33 w.heap.size (fun k_ => some k_ ≠ (v117 : Value).ownBlock) v122 y121) := ⟨by rw [← hq_]; exact (by (with_reducible repeat (first | apply Kd.R_alloc | apply Kd.R_drewN | apply Kd.R_drew)); exact Kd.R_mono HO123.out (fun _ hk => hk.2))⟩; have n2_ : Aside0 (Below w.heap.size w w33) := ⟨by rw [← hq_]; exact (by repeat (first | (with_reducible first | exact HB.out | apply below_alloc | apply pw_below_drewN | apply below_drew1) | exact HB.out))⟩; clear HO118 HO123 HB hq_; have HO118 := n0_; have HO123 := n1_; have HB := n2_; clear n0_ n1_ n2_))
                            have n0_ := Aside0.mk (Kd.R_drew HO118.out)
                            have n1_ := Aside0.mk (Kd.R_drew HO123.out)
                            have n2_ := Aside0.mk (below_drew1 HB.out)
                            clear HO118
                            clear HO123
                            clear HB
                            have HO118 := n0_
                            have HO123 := n1_
                            have HB := n2_
                            clear n0_ n1_ n2_
                            refine start_ (n := 46) (S := fun w' => True) (ds := []) #[false, false, false, false, false, false, false, false, false, false, false, false, false, false, false, false, false, false, false, false, false, false, false, false, false, false, false, false, false, false, false, false, false, false, false, false, false, false, false, false, false, false, false, false, false, false] (by kernel_rfl) rfl rfl trivial (fun hHeld => ?_); refine with_tabW watchwordlaw3_awake.tab7 watchwordlaw3_awake.bits7 (fun HT_ HW_ => ?_)
                            generalize w33.drew = w36 at HO118 HO123 HB hHeld ⊢
                            refine pure_ (i := 0) (N := some 45) (v := ?_) (a' := ?_) #[true, false, false, false, false, false, false, false, false, false, false, false, false, false, false, false, false, false, false, false, false, false, false, false, false, false, false, false, false, false, false, false, false, false, false, false, false, false, false, false, false, false, false, false, false, false] rfl rfl (any_of HT_.out (by kernel_rfl)) (fun _ _ _ h => h) (Or.inl ⟨by rfl, ?_⟩) ?_ ?_
                            rotate_left
                            · intro w'
                              go_simp
                              with_reducible rfl
                            rotate_left
                            · simp only [Act.put, List.setIfInBounds_toArray, List.set_cons_zero, List.set_cons_succ, i64_w, i32_w]
                              rfl
                            refine pure_ (i := 1) (N := some 46) (v := ?_) (a' := ?_) #[true, true, false, false, false, false, false, false, false, false, false, false, false, false, false, false, false, false, false, false, false, false, false, false, false, false, false, false, false, false, false, false, false, false, false, false, false, false, false, false, false, false, false, false, false, false] rfl rfl (any_of HT_.out (by kernel_rfl)) (fun _ _ _ h => h) (Or.inl ⟨by rfl, ?_⟩) ?_ ?_
                            rotate_left
                            · intro w'
                              go_simp
                              with_reducible rfl
                            rotate_left
                            · simp only [Act.put, List.setIfInBounds_toArray, List.set_cons_zero, List.set_cons_succ, i64_w, i32_w]
                              rfl
                            refine pure_ (i := 2) (N := some 47) (v := ?_) (a' := ?_) #[true, true, true, false, false, false, false, false, false, false, false, false, false, false, false, false, false, false, false, false, false, false, false, false, false, false, false, false, false, false, false, false, false, false, false, false, false, false, false, false, false, false, false, false, false, false] rfl rfl (any_of HT_.out (by kernel_rfl)) (fun _ _ _ h => h) (Or.inl ⟨by rfl, ?_⟩) ?_ ?_
                            rotate_left
                            · intro w'
                              go_simp
                              with_reducible rfl
                            rotate_left
                            · simp only [Act.put, List.setIfInBounds_toArray, List.set_cons_zero, List.set_cons_succ, i64_w, i32_w]
                              rfl
                            refine pure_ (i := 3) (N := some 48) (v := ?_) (a' := ?_) #[true, true, true, true, false, false, false, false, false, false, false, false, false, false, false, false, false, false, false, false, false, false, false, false, false, false, false, false, false, false, false, false, false, false, false, false, false, false, false, false, false, false, false, false, false, false] rfl rfl (any_of HT_.out (by kernel_rfl)) (fun _ _ _ h => h) (Or.inl ⟨by rfl, ?_⟩) ?_ ?_
                            rotate_left
                            · intro w'
                              go_simp
                              with_reducible rfl
                            rotate_left
                            · simp only [Act.put, List.setIfInBounds_toArray, List.set_cons_zero, List.set_cons_succ, i64_w, i32_w]
                              rfl
                            refine one_ (i := 4) (N := some 49) #[true, true, true, true, true, false, false, false, false, false, false, false, false, false, false, false, false, false, false, false, false, false, false, false, false, false, false, false, false, false, false, false, false, false, false, false, false, false, false, false, false, false, false, false, false, false] rfl rfl (one_of HT_.out (by kernel_rfl)) (by decide) (fun K hK => ?_)
                            refine goes_ Try.func19 (by kernel_rfl) rfl #[.int .i64 t111] (by rfl) rfl rfl (by (try simp only [List.map_toArray, List.map_cons, List.map_nil]); first | done | rfl | (simp only [List.length_drop, List.length_take]; rfl)) ?_
                            with_reducible refine (watchwordlaw0_Num.calls t111 t128 _ A9.out).mono ?_
                            rintro e w' ⟨rfl, ⟨nd, rfl⟩⟩
                            refine ⟨_, rfl, ?_⟩
                            refine hK.out _ _ trivial (fun hHeld => ?_)
                            clear hK K
                            refine norm_ (a' := ?_) ?_ ?_
                            rotate_left
                            · show Act.put _ (some 49) _ = _
                              simp only [Act.put, List.setIfInBounds_toArray, List.set_cons_zero, List.set_cons_succ, i64_w, i32_w]
                              rfl
                            refine pure_ (i := 5) (N := some 50) (v := ?_) (a' := ?_) #[true, true, true, true, true, true, false, false, false, false, false, false, false, false, false, false, false, false, false, false, false, false, false, false, false, false, false, false, false, false, false, false, false, false, false, false, false, false, false, false, false, false, false, false, false, false] rfl rfl (any_of HT_.out (by kernel_rfl)) (fun _ _ _ h => h) (Or.inl ⟨by rfl, ?_⟩) ?_ ?_
                            rotate_left
                            · intro w'
                              go_simp
                              with_reducible rfl
                            rotate_left
                            · simp only [Act.put, List.setIfInBounds_toArray, List.set_cons_zero, List.set_cons_succ, i64_w, i32_w]
                              rfl
                            refine pure_ (i := 6) (N := some 51) (v := ?_) (a' := ?_) #[true, true, true, true, true, true, true, false, false, false, false, false, false, false, false, false, false, false, false, false, false, false, false, false, false, false, false, false, false, false, false, false, false, false, false, false, false, false, false, false, false, false, false, false, false, false] rfl rfl (any_of HT_.out (by kernel_rfl)) (fun _ _ _ h => h) (Or.inl ⟨by rfl, ?_⟩) ?_ ?_
                            rotate_left
                            · intro w'
                              go_simp
                              with_reducible rfl
                            rotate_left
                            · simp only [Act.put, List.setIfInBounds_toArray, List.set_cons_zero, List.set_cons_succ, i64_w, i32_w]
                              rfl
                            refine pure_ (i := 7) (N := some 52) (v := ?_) (a' := ?_) #[true, true, true, true, true, true, true, true, false, false, false, false, false, false, false, false, false, false, false, false, false, false, false, false, false, false, false, false, false, false, false, false, false, false, false, false, false, false, false, false, false, false, false, false, false, false] rfl rfl (any_of HT_.out (by kernel_rfl)) (fun _ _ _ h => h) (Or.inl ⟨by rfl, ?_⟩) ?_ ?_
                            rotate_left
                            · intro w'
                              go_simp
                              with_reducible rfl
                            rotate_left
                            · simp only [Act.put, List.setIfInBounds_toArray, List.set_cons_zero, List.set_cons_succ, i64_w, i32_w]
                              rfl
                            refine pure_ (i := 8) (N := some 53) (v := ?_) (a' := ?_) #[true, true, true, true, true, true, true, true, true, false, false, false, false, false, false, false, false, false, false, false, false, false, false, false, false, false, false, false, false, false, false, false, false, false, false, false, false, false, false, false, false, false, false, false, false, false] rfl rfl (any_of HT_.out (by kernel_rfl)) (fun _ _ _ h => h) (Or.inl ⟨by rfl, ?_⟩) ?_ ?_
                            rotate_left
                            · intro w'
                              go_simp
                              with_reducible rfl
                            rotate_left
                            · simp only [Act.put, List.setIfInBounds_toArray, List.set_cons_zero, List.set_cons_succ, i64_w, i32_w]
                              rfl
                            refine pure_ (i := 9) (N := some 54) (v := ?_) (a' := ?_) #[true, true, true, true, true, true, true, true, true, true, false, false, false, false, false, false, false, false, false, false, false, false, false, false, false, false, false, false, false, false, false, false, false, false, false, false, false, false, false, false, false, false, false, false, false, false] rfl rfl (any_of HT_.out (by kernel_rfl)) (fun _ _ _ h => h) (Or.inl ⟨by rfl, ?_⟩) ?_ ?_
                            rotate_left
                            · intro w'
                              go_simp
                              with_reducible rfl
                            rotate_left
                            · simp only [Act.put, List.setIfInBounds_toArray, List.set_cons_zero, List.set_cons_succ, i64_w, i32_w]
                              rfl
                            refine pure_ (i := 10) (N := some 55) (v := ?_) (a' := ?_) #[true, true, true, true, true, true, true, true, true, true, true, false, false, false, false, false, false, false, false, false, false, false, false, false, false, false, false, false, false, false, false, false, false, false, false, false, false, false, false, false, false, false, false, false, false, false] rfl rfl (any_of HT_.out (by kernel_rfl)) (fun _ _ _ h => h) (Or.inl ⟨by rfl, ?_⟩) ?_ ?_
                            rotate_left
                            · intro w'
                              go_simp
                              with_reducible rfl
                            rotate_left
                            · simp only [Act.put, List.setIfInBounds_toArray, List.set_cons_zero, List.set_cons_succ, i64_w, i32_w]
                              rfl
                            refine pure_ (i := 11) (N := some 56) (v := ?_) (a' := ?_) #[true, true, true, true, true, true, true, true, true, true, true, true, false, false, false, false, false, false, false, false, false, false, false, false, false, false, false, false, false, false, false, false, false, false, false, false, false, false, false, false, false, false, false, false, false, false] rfl rfl (any_of HT_.out (by kernel_rfl)) (fun _ _ _ h => h) (Or.inl ⟨by rfl, ?_⟩) ?_ ?_
                            rotate_left
                            · intro w'
                              go_simp
                              with_reducible rfl
                            rotate_left
                            · simp only [Act.put, List.setIfInBounds_toArray, List.set_cons_zero, List.set_cons_succ, i64_w, i32_w]
                              rfl
                            refine pure_ (i := 12) (N := some 57) (v := ?_) (a' := ?_) #[true, true, true, true, true, true, true, true, true, true, true, true, true, false, false, false, false, false, false, false, false, false, false, false, false, false, false, false, false, false, false, false, false, false, false, false, false, false, false, false, false, false, false, false, false, false] rfl rfl (any_of HT_.out (by kernel_rfl)) (fun _ _ _ h => h) (Or.inl ⟨by rfl, ?_⟩) ?_ ?_
                            rotate_left
                            · intro w'
                              go_simp
                              with_reducible rfl
                            rotate_left
                            · simp only [Act.put, List.setIfInBounds_toArray, List.set_cons_zero, List.set_cons_succ, i64_w, i32_w]
                              rfl
                            refine one_ (i := 13) (N := some 58) #[true, true, true, true, true, true, true, true, true, true, true, true, true, true, false, false, false, false, false, false, false, false, false, false, false, false, false, false, false, false, false, false, false, false, false, false, false, false, false, false, false, false, false, false, false, false] rfl rfl (one_of HT_.out (by kernel_rfl)) (by decide) (fun K hK => ?_)
                            refine goes_ Try.func19 (by kernel_rfl) rfl #[.int .i64 t113] (by rfl) rfl rfl (by (try simp only [List.map_toArray, List.map_cons, List.map_nil]); first | done | rfl | (simp only [List.length_drop, List.length_take]; rfl)) ?_
                            with_reducible refine (watchwordlaw0_Num.calls t113 t129 _ A12.out).mono ?_
                            rintro e w' ⟨rfl, ⟨nd, rfl⟩⟩
                            refine ⟨_, rfl, ?_⟩
                            refine hK.out _ _ trivial (fun hHeld => ?_)
                            clear hK K
                            refine norm_ (a' := ?_) ?_ ?_
                            rotate_left
                            · show Act.put _ (some 58) _ = _
                              simp only [Act.put, List.setIfInBounds_toArray, List.set_cons_zero, List.set_cons_succ, i64_w, i32_w]
                              rfl
                            refine pure_ (i := 14) (N := some 59) (v := ?_) (a' := ?_) #[true, true, true, true, true, true, true, true, true, true, true, true, true, true, true, false, false, false, false, false, false, false, false, false, false, false, false, false, false, false, false, false, false, false, false, false, false, false, false, false, false, false, false, false, false, false] rfl rfl (any_of HT_.out (by kernel_rfl)) (fun _ _ _ h => h) (Or.inl ⟨by rfl, ?_⟩) ?_ ?_
                            rotate_left
                            · intro w'
                              go_simp
                              with_reducible rfl
                            rotate_left
                            · simp only [Act.put, List.setIfInBounds_toArray, List.set_cons_zero, List.set_cons_succ, i64_w, i32_w]
                              rfl
                            refine pure_ (i := 15) (N := some 60) (v := ?_) (a' := ?_) #[true, true, true, true, true, true, true, true, true, true, true, true, true, true, true, true, false, false, false, false, false, false, false, false, false, false, false, false, false, false, false, false, false, false, false, false, false, false, false, false, false, false, false, false, false, false] rfl rfl (any_of HT_.out (by kernel_rfl)) (fun _ _ _ h => h) (Or.inl ⟨by rfl, ?_⟩) ?_ ?_
                            rotate_left
                            · intro w'
                              go_simp
                              with_reducible rfl
                            rotate_left
                            · simp only [Act.put, List.setIfInBounds_toArray, List.set_cons_zero, List.set_cons_succ, i64_w, i32_w]
                              rfl
                            refine pure_ (i := 16) (N := some 61) (v := ?_) (a' := ?_) #[true, true, true, true, true, true, true, true, true, true, true, true, true, true, true, true, true, false, false, false, false, false, false, false, false, false, false, false, false, false, false, false, false, false, false, false, false, false, false, false, false, false, false, false, false, false] rfl rfl (any_of HT_.out (by kernel_rfl)) (fun _ _ _ h => h) (Or.inl ⟨by rfl, ?_⟩) ?_ ?_
                            rotate_left
                            · intro w'
                              go_simp
                              with_reducible rfl
                            rotate_left
                            · simp only [Act.put, List.setIfInBounds_toArray, List.set_cons_zero, List.set_cons_succ, i64_w, i32_w]
                              rfl
                            refine pure_ (i := 17) (N := some 62) (v := ?_) (a' := ?_) #[true, true, true, true, true, true, true, true, true, true, true, true, true, true, true, true, true, true, false, false, false, false, false, false, false, false, false, false, false, false, false, false, false, false, false, false, false, false, false, false, false, false, false, false, false, false] rfl rfl (any_of HT_.out (by kernel_rfl)) (fun _ _ _ h => h) (Or.inl ⟨by rfl, ?_⟩) ?_ ?_
                            rotate_left
                            · intro w'
                              go_simp
                              with_reducible rfl
                            rotate_left
                            · simp only [Act.put, List.setIfInBounds_toArray, List.set_cons_zero, List.set_cons_succ, i64_w, i32_w]
                              rfl
                            refine one_ (i := 18) (N := some 63) #[true, true, true, true, true, true, true, true, true, true, true, true, true, true, true, true, true, true, true, false, false, false, false, false, false, false, false, false, false, false, false, false, false, false, false, false, false, false, false, false, false, false, false, false, false, false] rfl rfl (one_of HT_.out (by kernel_rfl)) (by decide) (fun K hK => ?_)
                            refine goes_ Try.func19 (by kernel_rfl) rfl #[.int .i64 t115] (by rfl) rfl rfl (by (try simp only [List.map_toArray, List.map_cons, List.map_nil]); first | done | rfl | (simp only [List.length_drop, List.length_take]; rfl)) ?_
                            with_reducible refine (watchwordlaw0_Num.calls t115 t130 _ A14.out).mono ?_
                            rintro e w' ⟨rfl, ⟨nd, rfl⟩⟩
                            refine ⟨_, rfl, ?_⟩
                            refine hK.out _ _ trivial (fun hHeld => ?_)
                            clear hK K
                            refine norm_ (a' := ?_) ?_ ?_
                            rotate_left
                            · show Act.put _ (some 63) _ = _
                              simp only [Act.put, List.setIfInBounds_toArray, List.set_cons_zero, List.set_cons_succ, i64_w, i32_w]
                              rfl
                            refine pure_ (i := 19) (N := some 64) (v := ?_) (a' := ?_) #[true, true, true, true, true, true, true, true, true, true, true, true, true, true, true, true, true, true, true, true, false, false, false, false, false, false, false, false, false, false, false, false, false, false, false, false, false, false, false, false, false, false, false, false, false, false] rfl rfl (any_of HT_.out (by kernel_rfl)) (fun _ _ _ h => h) (Or.inl ⟨by rfl, ?_⟩) ?_ ?_
                            rotate_left
                            · intro w'
                              go_simp
                              with_reducible rfl
                            rotate_left
                            · simp only [Act.put, List.setIfInBounds_toArray, List.set_cons_zero, List.set_cons_succ, i64_w, i32_w]
                              rfl
                            refine pure_ (i := 20) (N := some 65) (v := ?_) (a' := ?_) #[true, true, true, true, true, true, true, true, true, true, true, true, true, true, true, true, true, true, true, true, true, false, false, false, false, false, false, false, false, false, false, false, false, false, false, false, false, false, false, false, false, false, false, false, false, false] rfl rfl (any_of HT_.out (by kernel_rfl)) (fun _ _ _ h => h) (Or.inl ⟨by rfl, ?_⟩) ?_ ?_
                            rotate_left
                            · intro w'
                              go_simp
                              with_reducible rfl
                            rotate_left
                            · simp only [Act.put, List.setIfInBounds_toArray, List.set_cons_zero, List.set_cons_succ, i64_w, i32_w]
                              rfl
                            refine pure_ (i := 21) (N := some 66) (v := ?_) (a' := ?_) #[true, true, true, true, true, true, true, true, true, true, true, true, true, true, true, true, true, true, true, true, true, true, false, false, false, false, false, false, false, false, false, false, false, false, false, false, false, false, false, false, false, false, false, false, false, false] rfl rfl (any_of HT_.out (by kernel_rfl)) (fun _ _ _ h => h) (Or.inl ⟨by rfl, ?_⟩) ?_ ?_
                            rotate_left
                            · intro w'
                              go_simp
                              with_reducible rfl
                            rotate_left
                            · simp only [Act.put, List.setIfInBounds_toArray, List.set_cons_zero, List.set_cons_succ, i64_w, i32_w]
                              rfl
                            refine pure_ (i := 22) (N := some 67) (v := ?_) (a' := ?_) #[true, true, true, true, true, true, true, true, true, true, true, true, true, true, true, true, true, true, true, true, true, true, true, false, false, false, false, false, false, false, false, false, false, false, false, false, false, false, false, false, false, false, false, false, false, false] rfl rfl (any_of HT_.out (by kernel_rfl)) (fun _ _ _ h => h) (Or.inl ⟨by rfl, ?_⟩) ?_ ?_
                            rotate_left
                            · intro w'
                              go_simp
                              with_reducible rfl
                            rotate_left
                            · simp only [Act.put, List.setIfInBounds_toArray, List.set_cons_zero, List.set_cons_succ, i64_w, i32_w]
                              rfl
                            refine one_ (i := 23) (N := some 68) #[true, true, true, true, true, true, true, true, true, true, true, true, true, true, true, true, true, true, true, true, true, true, true, true, false, false, false, false, false, false, false, false, false, false, false, false, false, false, false, false, false, false, false, false, false, false] rfl rfl (one_of HT_.out (by kernel_rfl)) (by decide) (fun K hK => ?_)
                            refine goes_ Try.func19 (by kernel_rfl) rfl #[.int .i64 t120] (by rfl) rfl rfl (by (try simp only [List.map_toArray, List.map_cons, List.map_nil]); first | done | rfl | (simp only [List.length_drop, List.length_take]; rfl)) ?_
                            with_reducible refine (watchwordlaw0_Num.calls t120 t131 _ A16.out).mono ?_
                            rintro e w' ⟨rfl, ⟨nd, rfl⟩⟩
                            refine ⟨_, rfl, ?_⟩
                            refine hK.out _ _ trivial (fun hHeld => ?_)
                            clear hK K
                            refine norm_ (a' := ?_) ?_ ?_
                            rotate_left
                            · show Act.put _ (some 68) _ = _
                              simp only [Act.put, List.setIfInBounds_toArray, List.set_cons_zero, List.set_cons_succ, i64_w, i32_w]
                              rfl
                            refine pure_ (i := 24) (N := some 69) (v := ?_) (a' := ?_) #[true, true, true, true, true, true, true, true, true, true, true, true, true, true, true, true, true, true, true, true, true, true, true, true, true, false, false, false, false, false, false, false, false, false, false, false, false, false, false, false, false, false, false, false, false, false] rfl rfl (any_of HT_.out (by kernel_rfl)) (fun _ _ _ h => h) (Or.inl ⟨by rfl, ?_⟩) ?_ ?_
                            rotate_left
                            · intro w'
                              go_simp
                              with_reducible rfl
                            rotate_left
                            · simp only [Act.put, List.setIfInBounds_toArray, List.set_cons_zero, List.set_cons_succ, i64_w, i32_w]
                              rfl
                            refine pure_ (i := 25) (N := some 70) (v := ?_) (a' := ?_) #[true, true, true, true, true, true, true, true, true, true, true, true, true, true, true, true, true, true, true, true, true, true, true, true, true, true, false, false, false, false, false, false, false, false, false, false, false, false, false, false, false, false, false, false, false, false] rfl rfl (any_of HT_.out (by kernel_rfl)) (fun _ _ _ h => h) (Or.inl ⟨by rfl, ?_⟩) ?_ ?_
                            rotate_left
                            · intro w'
                              go_simp
                              with_reducible rfl
                            rotate_left
                            · simp only [Act.put, List.setIfInBounds_toArray, List.set_cons_zero, List.set_cons_succ, i64_w, i32_w]
                              rfl
                            refine pure_ (i := 26) (N := some 71) (v := ?_) (a' := ?_) #[true, true, true, true, true, true, true, true, true, true, true, true, true, true, true, true, true, true, true, true, true, true, true, true, true, true, true, false, false, false, false, false, false, false, false, false, false, false, false, false, false, false, false, false, false, false] rfl rfl (any_of HT_.out (by kernel_rfl)) (fun _ _ _ h => h) (Or.inl ⟨by rfl, ?_⟩) ?_ ?_
                            rotate_left
                            · intro w'
                              go_simp
                              with_reducible rfl
                            rotate_left
                            · simp only [Act.put, List.setIfInBounds_toArray, List.set_cons_zero, List.set_cons_succ, i64_w, i32_w]
                              rfl
                            refine pure_ (i := 27) (N := some 72) (v := ?_) (a' := ?_) #[true, true, true, true, true, true, true, true, true, true, true, true, true, true, true, true, true, true, true, true, true, true, true, true, true, true, true, true, false, false, false, false, false, false, false, false, false, false, false, false, false, false, false, false, false, false] rfl rfl (any_of HT_.out (by kernel_rfl)) (fun _ _ _ h => h) (Or.inl ⟨by rfl, ?_⟩) ?_ ?_
                            rotate_left
                            · intro w'
                              go_simp
                              with_reducible rfl
                            rotate_left
                            · simp only [Act.put, List.setIfInBounds_toArray, List.set_cons_zero, List.set_cons_succ, i64_w, i32_w]
                              rfl
                            refine pure_ (i := 28) (N := some 73) (v := ?_) (a' := ?_) #[true, true, true, true, true, true, true, true, true, true, true, true, true, true, true, true, true, true, true, true, true, true, true, true, true, true, true, true, true, false, false, false, false, false, false, false, false, false, false, false, false, false, false, false, false, false] rfl rfl (any_of HT_.out (by kernel_rfl)) (fun _ _ _ h => h) (Or.inl ⟨by rfl, ?_⟩) ?_ ?_
                            rotate_left
                            · intro w'
                              go_simp
                              with_reducible rfl
                            rotate_left
                            · simp only [Act.put, List.setIfInBounds_toArray, List.set_cons_zero, List.set_cons_succ, i64_w, i32_w]
                              rfl
                            refine pure_ (i := 29) (N := some 74) (v := ?_) (a' := ?_) #[true, true, true, true, true, true, true, true, true, true, true, true, true, true, true, true, true, true, true, true, true, true, true, true, true, true, true, true, true, true, false, false, false, false, false, false, false, false, false, false, false, false, false, false, false, false] rfl rfl (any_of HT_.out (by kernel_rfl)) (fun _ _ _ h => h) (Or.inl ⟨by rfl, ?_⟩) ?_ ?_
                            rotate_left
                            · intro w'
                              go_simp
                              with_reducible rfl
                            rotate_left
                            · simp only [Act.put, List.setIfInBounds_toArray, List.set_cons_zero, List.set_cons_succ, i64_w, i32_w]
                              rfl
                            refine one_ (i := 30) (N := some 75) #[true, true, true, true, true, true, true, true, true, true, true, true, true, true, true, true, true, true, true, true, true, true, true, true, true, true, true, true, true, true, true, false, false, false, false, false, false, false, false, false, false, false, false, false, false, false] rfl rfl (one_of HT_.out (by kernel_rfl)) (by decide) (fun K hK => ?_)
                            refine Kd.R_make_step (Kd.int .u8) _ 5 (by rfl) (N := 75) rfl 41 _ _ rfl 8 rfl rfl Try.underlying41 (.int .u8 0) 1 info5 rfl (by decide) (by omega) 0 (ok := fun _ => True) (okp := fun _ => True) rfl (fun _ hk => hk) trivial (by omega) (by omega) (Below.refl _ _) (Nat.le_refl _) ?_
                            intro v133 w37 ho38 hb hg_ hnew_
                            clear hg_ hnew_
                            (first | rw [← Ny132.out] at ho38 | (simp only [Int.reduceToNat] at ho38; rw [← Ny132.out] at ho38))
                            have n0_ := Aside0.mk (Kd.R_elder' (by (with_reducible repeat (first | apply Kd.R_alloc | apply Kd.R_drewN | apply Kd.R_drew)); exact HO118.out) (Kd.R_base ho38) hb)
                            have n1_ := Aside0.mk (Kd.R_elder' (by (with_reducible repeat (first | apply Kd.R_alloc | apply Kd.R_drewN | apply Kd.R_drew)); exact HO123.out) (Kd.R_base ho38) hb)
                            have n2_ := Aside0.mk (Kd.R_lower (Kd.R_new' (Kd.R_new' ho38 (Kd.R_lt (by (with_reducible repeat (first | apply Kd.R_alloc | apply Kd.R_drewN | apply Kd.R_drew)); exact HO118.out))) (Kd.R_lt (by (with_reducible repeat (first | apply Kd.R_alloc | apply Kd.R_drewN | apply Kd.R_drew)); exact HO123.out))) (below_size (by repeat (first | (with_reducible first | exact HB.out | apply below_alloc | apply pw_below_drewN | apply below_drew1) | exact HB.out))))
                            have n3_ := Aside0.mk (below_step (by repeat (first | (with_reducible first | exact HB.out | apply below_alloc | apply pw_below_drewN | apply below_drew1) | exact HB.out)) hb)
                            clear HO118
                            clear HO123
                            clear HB
                            have HO118 := n0_
                            have HO123 := n1_
                            have HO134 := n2_
                            have HB := n3_
                            clear n0_ n1_ n2_ n3_
                            clear hb ho38
                            refine hK.out _ _ trivial (fun hHeld => ?_)
                            clear hK K
                            refine norm_ (a' := ?_) ?_ ?_
                            rotate_left
                            · show Act.put _ (some 75) _ = _
                              simp only [Act.put, List.setIfInBounds_toArray, List.set_cons_zero, List.set_cons_succ, i64_w, i32_w]
                              rfl
                            refine one_ (i := 31) (N := some 76) #[true, true, true, true, true, true, true, true, true, true, true, true, true, true, true, true, true, true, true, true, true, true, true, true, true, true, true, true, true, true, true, true, false, false, false, false, false, false, false, false, false, false, false, false, false, false] rfl rfl (one_of HT_.out (by kernel_rfl)) (by decide) (fun K hK => ?_)
                            have hcv39 := own_string (P := Try.prog) Try.underlying41 Try.underlying5 Try.underlying9 (Kd.own_of_R HO134.out)
                            refine value_ (w1 := ?_) (v := ?_) (by rfl) rfl ?_ ?_
                            rotate_left 2
                            · go_simp
                              constructor
                              · rfl
                              · rfl
                            clear hcv39
                            refine hK.out _ _ trivial (fun hHeld => ?_)
                            clear hK K
                            refine norm_ (a' := ?_) ?_ ?_
                            rotate_left
                            · show Act.put _ (some 76) _ = _
                              simp only [Act.put, List.setIfInBounds_toArray, List.set_cons_zero, List.set_cons_succ, i64_w, i32_w]
                              rfl
                            refine pure_ (i := 32) (N := some 77) (v := ?_) (a' := ?_) #[true, true, true, true, true, true, true, true, true, true, true, true, true, true, true, true, true, true, true, true, true, true, true, true, true, true, true, true, true, true, true, true, true, false, false, false, false, false, false, false, false, false, false, false, false, false] rfl rfl (any_of HT_.out (by kernel_rfl)) (fun _ _ _ h => h) (Or.inl ⟨by rfl, ?_⟩) ?_ ?_
                            rotate_left
                            · intro w'
                              go_simp
                              with_reducible rfl
                            rotate_left
                            · simp only [Act.put, List.setIfInBounds_toArray, List.set_cons_zero, List.set_cons_succ, i64_w, i32_w]
                              rfl
                            refine pure_ (i := 33) (N := some 78) (v := ?_) (a' := ?_) #[true, true, true, true, true, true, true, true, true, true, true, true, true, true, true, true, true, true, true, true, true, true, true, true, true, true, true, true, true, true, true, true, true, true, false, false, false, false, false, false, false, false, false, false, false, false] rfl rfl (any_of HT_.out (by kernel_rfl)) (fun _ _ _ h => h) (Or.inl ⟨by rfl, ?_⟩) ?_ ?_
                            rotate_left
                            · intro w'
                              go_simp
                              with_reducible rfl
                            rotate_left
                            · simp only [Act.put, List.setIfInBounds_toArray, List.set_cons_zero, List.set_cons_succ, i64_w, i32_w]
                              rfl
                            refine pure_ (i := 34) (N := some 79) (v := ?_) (a' := ?_) #[true, true, true, true, true, true, true, true, true, true, true, true, true, true, true, true, true, true, true, true, true, true, true, true, true, true, true, true, true, true, true, true, true, true, true, false, false, false, false, false, false, false, false, false, false, false] rfl rfl (any_of HT_.out (by kernel_rfl)) (fun _ _ _ h => h) (Or.inl ⟨by rfl, ?_⟩) ?_ ?_
                            rotate_left
                            · intro w'
                              go_simp
                              with_reducible rfl
                            rotate_left
                            · simp only [Act.put, List.setIfInBounds_toArray, List.set_cons_zero, List.set_cons_succ, i64_w, i32_w]
                              rfl
                            refine pure_ (i := 35) (N := some 80) (v := ?_) (a' := ?_) #[true, true, true, true, true, true, true, true, true, true, true, true, true, true, true, true, true, true, true, true, true, true, true, true, true, true, true, true, true, true, true, true, true, true, true, true, false, false, false, false, false, false, false, false, false, false] rfl rfl (any_of HT_.out (by kernel_rfl)) (fun _ _ _ h => h) (Or.inl ⟨by rfl, ?_⟩) ?_ ?_
                            rotate_left
                            · intro w'
                              go_simp
                              with_reducible rfl
                            rotate_left
                            · simp only [Act.put, List.setIfInBounds_toArray, List.set_cons_zero, List.set_cons_succ, i64_w, i32_w]
                              rfl
                            refine pure_ (i := 36) (N := some 81) (v := ?_) (a' := ?_) #[true, true, true, true, true, true, true, true, true, true, true, true, true, true, true, true, true, true, true, true, true, true, true, true, true, true, true, true, true, true, true, true, true, true, true, true, true, false, false, false, false, false, false, false, false, false] rfl rfl (any_of HT_.out (by kernel_rfl)) (fun _ _ _ h => h) (Or.inl ⟨by rfl, ?_⟩) ?_ ?_
                            rotate_left
                            · intro w'
                              go_simp
                              with_reducible rfl
                            rotate_left
                            · simp only [Act.put, List.setIfInBounds_toArray, List.set_cons_zero, List.set_cons_succ, i64_w, i32_w]
                              rfl
                            refine one_ (i := 37) (N := some 82) #[true, true, true, true, true, true, true, true, true, true, true, true, true, true, true, true, true, true, true, true, true, true, true, true, true, true, true, true, true, true, true, true, true, true, true, true, true, true, false, false, false, false, false, false, false, false] rfl rfl (one_of HT_.out (by kernel_rfl)) (by decide) (fun K hK => ?_)
                            refine goes_ Try.func19 (by kernel_rfl) rfl #[.int .i64 t125] (by rfl) rfl rfl (by (try simp only [List.map_toArray, List.map_cons, List.map_nil]); first | done | rfl | (simp only [List.length_drop, List.length_take]; rfl)) ?_
                            with_reducible refine (watchwordlaw0_Num.calls t125 t135 _ A23.out).mono ?_
                            rintro e w' ⟨rfl, ⟨nd, rfl⟩⟩
                            refine ⟨_, rfl, ?_⟩
                            refine hK.out _ _ trivial (fun hHeld => ?_)
                            clear hK K
                            refine norm_ (a' := ?_) ?_ ?_
                            rotate_left
                            · show Act.put _ (some 82) _ = _
                              simp only [Act.put, List.setIfInBounds_toArray, List.set_cons_zero, List.set_cons_succ, i64_w, i32_w]
                              rfl
                            refine pure_ (i := 38) (N := some 83) (v := ?_) (a' := ?_) #[true, true, true, true, true, true, true, true, true, true, true, true, true, true, true, true, true, true, true, true, true, true, true, true, true, true, true, true, true, true, true, true, true, true, true, true, true, true, true, false, false, false, false, false, false, false] rfl rfl (any_of HT_.out (by kernel_rfl)) (fun _ _ _ h => h) (Or.inl ⟨by rfl, ?_⟩) ?_ ?_
                            rotate_left
                            · intro w'
                              go_simp
                              with_reducible rfl
                            rotate_left
                            · simp only [Act.put, List.setIfInBounds_toArray, List.set_cons_zero, List.set_cons_succ, i64_w, i32_w]
                              rfl
                            refine pure_ (i := 39) (N := some 84) (v := ?_) (a' := ?_) #[true, true, true, true, true, true, true, true, true, true, true, true, true, true, true, true, true, true, true, true, true, true, true, true, true, true, true, true, true, true, true, true, true, true, true, true, true, true, true, true, false, false, false, false, false, false] rfl rfl (any_of HT_.out (by kernel_rfl)) (fun _ _ _ h => h) (Or.inl ⟨by rfl, ?_⟩) ?_ ?_
                            rotate_left
                            · intro w'
                              go_simp
                              with_reducible rfl
                            rotate_left
                            · simp only [Act.put, List.setIfInBounds_toArray, List.set_cons_zero, List.set_cons_succ, i64_w, i32_w]
                              rfl
                            refine pure_ (i := 40) (N := some 85) (v := ?_) (a' := ?_) #[true, true, true, true, true, true, true, true, true, true, true, true, true, true, true, true, true, true, true, true, true, true, true, true, true, true, true, true, true, true, true, true, true, true, true, true, true, true, true, true, true, false, false, false, false, false] rfl rfl (any_of HT_.out (by kernel_rfl)) (fun _ _ _ h => h) (Or.inl ⟨by rfl, ?_⟩) ?_ ?_
                            rotate_left
                            · intro w'
                              go_simp
                              with_reducible rfl
                            rotate_left
                            · simp only [Act.put, List.setIfInBounds_toArray, List.set_cons_zero, List.set_cons_succ, i64_w, i32_w]
                              rfl
                            refine pure_ (i := 41) (N := some 86) (v := ?_) (a' := ?_) #[true, true, true, true, true, true, true, true, true, true, true, true, true, true, true, true, true, true, true, true, true, true, true, true, true, true, true, true, true, true, true, true, true, true, true, true, true, true, true, true, true, true, false, false, false, false] rfl rfl (any_of HT_.out (by kernel_rfl)) (fun _ _ _ h => h) (Or.inl ⟨by rfl, ?_⟩) ?_ ?_
                            rotate_left
                            · intro w'
                              go_simp
                              with_reducible rfl
                            rotate_left
                            · simp only [Act.put, List.setIfInBounds_toArray, List.set_cons_zero, List.set_cons_succ, i64_w, i32_w]
                              rfl
                            refine one_ (i := 42) (N := some 87) #[true, true, true, true, true, true, true, true, true, true, true, true, true, true, true, true, true, true, true, true, true, true, true, true, true, true, true, true, true, true, true, true, true, true, true, true, true, true, true, true, true, true, true, false, false, false] rfl rfl (one_of HT_.out (by kernel_rfl)) (by decide) (fun K hK => ?_)
                            refine goes_ Try.func19 (by kernel_rfl) rfl #[.int .i64 t127] (by rfl) rfl rfl (by (try simp only [List.map_toArray, List.map_cons, List.map_nil]); first | done | rfl | (simp only [List.length_drop, List.length_take]; rfl)) ?_
                            with_reducible refine (watchwordlaw0_Num.calls t127 t136 _ A25.out).mono ?_
                            rintro e w' ⟨rfl, ⟨nd, rfl⟩⟩
                            refine ⟨_, rfl, ?_⟩
                            refine hK.out _ _ trivial (fun hHeld => ?_)
                            clear hK K
                            refine norm_ (a' := ?_) ?_ ?_
                            rotate_left
                            · show Act.put _ (some 87) _ = _
                              simp only [Act.put, List.setIfInBounds_toArray, List.set_cons_zero, List.set_cons_succ, i64_w, i32_w]
                              rfl
                            refine pure_ (i := 43) (N := some 88) (v := ?_) (a' := ?_) #[true, true, true, true, true, true, true, true, true, true, true, true, true, true, true, true, true, true, true, true, true, true, true, true, true, true, true, true, true, true, true, true, true, true, true, true, true, true, true, true, true, true, true, true, false, false] rfl rfl (any_of HT_.out (by kernel_rfl)) (fun _ _ _ h => h) (Or.inl ⟨by rfl, ?_⟩) ?_ ?_
                            rotate_left
                            · intro w'
                              go_simp
                              with_reducible rfl
                            rotate_left
                            · simp only [Act.put, List.setIfInBounds_toArray, List.set_cons_zero, List.set_cons_succ, i64_w, i32_w]
                              rfl
                            refine pure_ (i := 44) (N := some 89) (v := ?_) (a' := ?_) #[true, true, true, true, true, true, true, true, true, true, true, true, true, true, true, true, true, true, true, true, true, true, true, true, true, true, true, true, true, true, true, true, true, true, true, true, true, true, true, true, true, true, true, true, true, false] rfl rfl (any_of HT_.out (by kernel_rfl)) (fun _ _ _ h => h) (Or.inl ⟨by rfl, ?_⟩) ?_ ?_
                            rotate_left
                            · intro w'
                              go_simp
                              with_reducible rfl
                            rotate_left
                            · simp only [Act.put, List.setIfInBounds_toArray, List.set_cons_zero, List.set_cons_succ, i64_w, i32_w]
                              rfl
                            refine pure_ (i := 45) (N := some 0) (v := ?_) (a' := ?_) #[true, true, true, true, true, true, true, true, true, true, true, true, true, true, true, true, true, true, true, true, true, true, true, true, true, true, true, true, true, true, true, true, true, true, true, true, true, true, true, true, true, true, true, true, true, true] rfl rfl (any_of HT_.out (by kernel_rfl)) (fun _ _ _ h => h) (Or.inl ⟨by rfl, ?_⟩) ?_ ?_
                            rotate_left
                            · intro w'
                              go_simp
                              with_reducible rfl
                            rotate_left
                            · simp only [Act.put, List.setIfInBounds_toArray, List.set_cons_zero, List.set_cons_succ, i64_w, i32_w]
                              rfl
                            refine done_ (done_of HT_.out (by kernel_rfl)) ?_
                            try go_wp2
                            go_ret
                            exact ⟨by first | rfl | (simp [errW_none, errW_some] <;> rfl) | (simp [*, errW_none, errW_some] <;> rfl), by repeat (first | (with_reducible first | exact HB.out | apply below_alloc | apply pw_below_drewN | apply below_drew1) | exact HB.out)⟩
                          · rw [if_neg c24] at H
                            exact absurd (Option.some.inj H) (by rw [hr]; decide)
                        · rw [if_neg c22] at H
                          exact absurd (Option.some.inj H) (by rw [hr]; decide)
                      · rw [if_neg c21] at H
                        exact absurd H (by simp)
                    · rw [if_neg c20] at H
                      exact absurd H (by simp)
                  · rw [if_neg c19] at H
                    exact absurd H (by simp)
                · rw [if_neg c18] at H
                  exact absurd H (by simp)
              · rw [if_neg c17] at H
                exact absurd (Option.some.inj H) (by rw [hr]; decide)
            · rw [if_neg c15] at H
              exact absurd (Option.some.inj H) (by rw [hr]; decide)
          · rw [if_neg c13] at H
            exact absurd (Option.some.inj H) (by rw [hr]; decide)
        · rw [if_neg c11] at H
          exact absurd (Option.some.inj H) (by rw [hr]; decide)
      · rw [if_neg c10] at H
        exact absurd (Option.some.inj H) (by rw [hr]; decide)
    · rw [if_neg c8] at H
      exact absurd (Option.some.inj H) (by rw [hr]; decide)
  · rw [if_neg c4] at H
    exact absurd H (by simp)

end Go.Proofs.Ytjcmjfabadlbjaa.PS3
