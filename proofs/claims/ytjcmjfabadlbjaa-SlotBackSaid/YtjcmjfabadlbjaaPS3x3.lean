-- Written by a program of this session's (the kit's printer, some functions taken by contracts that this session proved).
import Derived.Test.YtjcmjfabadlbjaaPS3x0
import Derived.Test.YtjcmjfabadlbjaaPS3x1
import Derived.Test.YtjcmjfabadlbjaaPS3x2
namespace Go.Proofs.Ytjcmjfabadlbjaa.PS3
open Go.RowKit Go.Proofs.YtjcmjfabadlbjaaW.PrintWords Go.Proofs.YtjcmjfabadlbjaaW.PrintLast Go.Proofs.YtjcmjfabadlbjaaW.PrintMore
attribute [local go_sem] max2_int min2_int max_two min_two max_three min_three max_four min_four   -- for this text's walks alone
set_option linter.unusedVariables false
set_option linter.unusedSimpArgs false

/-! ### watchwordlaw3_Slots: function 3 -/
def watchwordlaw3_Slots.f (k : Nat) (a0 : Int) (a1 : ByteArray) (a2 : ByteArray) (a3 : Int) : Option (Bool) := (slot_Put.f a0).bind fun bt137 => ((watchwordref1_PutSlot.f a0).bind fun bt139 => ((slot_Get.f k a1).bind fun bt141 => ((watchwordref1_GetSlot.f k a1).bind fun bt143 => ((slot_Torn.f a1 a2 a3).bind fun bt145 => ((watchwordref1_Torn.f a1 a2 a3).bind fun bt147 => (if bt137.1.toList = bt139.1.toList then ((watchwordlaw0_Num.f bt137.2).bind fun t149 => (if t149 = bt139.2 then (if bt141.1 = bt143.1 then ((watchwordlaw0_Num.f bt141.2).bind fun t150 => (if t150 = bt143.2 then (if bt145.1.toList = bt147.1.toList then ((watchwordlaw0_Num.f bt145.2).bind fun t151 => (if t151 = bt147.2 then ((watchwordlaw3_awake.f k).bind fun t152 => (some t152)) else (some false))) else (some false)) else (some false))) else (some false)) else (some false))) else (some false)))))))
theorem watchwordlaw3_Slots.mono : ∀ a0 a1 a2 a3 k, LeO (watchwordlaw3_Slots.f k a0 a1 a2 a3) (watchwordlaw3_Slots.f (k + 1) a0 a1 a2 a3) := by
  intro a0 a1 a2 a3 k
  unfold watchwordlaw3_Slots.f
  repeat' first
      | (with_reducible exact slot_Get.mono _ _)
      | (with_reducible exact watchwordlaw3_awake.mono _)
      | (with_reducible exact watchwordref1_GetSlot.mono _ _)
      | (with_reducible exact LeO.refl _)
      | (with_reducible exact LeO.none _)
      | (with_reducible refine LeO.ite ?_ ?_)
      | (with_reducible refine LeO.bind ?_ (fun _ => ?_))
      | exact slot_Get.mono _ _
      | exact watchwordlaw3_awake.mono _
      | exact watchwordref1_GetSlot.mono _ _
      | exact LeO.none _
      | refine LeO.ite ?_ ?_
      | refine LeO.bind ?_ (fun _ => ?_)
set_option maxHeartbeats 8000000 in
set_option maxRecDepth 100000 in
theorem watchwordlaw3_Slots.calls (k : Nat) (a0 : Int) (a1 : ByteArray) (a2 : ByteArray) (a3 : Int) (r : Bool) (hr : r = true) (w : World) (h : watchwordlaw3_Slots.f k a0 a1 a2 a3 = some r) :
    Calls Try.prog 3 #[.int .i64 a0, .string a1, .string a2, .int .i64 a3] w fun e w' => e = .returned (.bool r) ∧ Below w.heap.size w w' := by
  have HB := Aside0.mk (Below.refl w.heap.size w)
  have H : ((slot_Put.f a0).bind fun bt137 => ((watchwordref1_PutSlot.f a0).bind fun bt139 => ((slot_Get.f k a1).bind fun bt141 => ((watchwordref1_GetSlot.f k a1).bind fun bt143 => ((slot_Torn.f a1 a2 a3).bind fun bt145 => ((watchwordref1_Torn.f a1 a2 a3).bind fun bt147 => (if bt137.1.toList = bt139.1.toList then ((watchwordlaw0_Num.f bt137.2).bind fun t149 => (if t149 = bt139.2 then (if bt141.1 = bt143.1 then ((watchwordlaw0_Num.f bt141.2).bind fun t150 => (if t150 = bt143.2 then (if bt145.1.toList = bt147.1.toList then ((watchwordlaw0_Num.f bt145.2).bind fun t151 => (if t151 = bt147.2 then ((watchwordlaw3_awake.f k).bind fun t152 => (some t152)) else (some false))) else (some false)) else (some false))) else (some false)) else (some false))) else (some false)))))))) = some r := h
  clear h
  replace H := Option.bind_eq_some_iff.mp H
  obtain ⟨⟨t137, t138⟩, A50, H⟩ := H
  replace H : ((watchwordref1_PutSlot.f a0).bind fun bt139 => ((slot_Get.f k a1).bind fun bt141 => ((watchwordref1_GetSlot.f k a1).bind fun bt143 => ((slot_Torn.f a1 a2 a3).bind fun bt145 => ((watchwordref1_Torn.f a1 a2 a3).bind fun bt147 => (if t137.toList = bt139.1.toList then ((watchwordlaw0_Num.f t138).bind fun t149 => (if t149 = bt139.2 then (if bt141.1 = bt143.1 then ((watchwordlaw0_Num.f bt141.2).bind fun t150 => (if t150 = bt143.2 then (if bt145.1.toList = bt147.1.toList then ((watchwordlaw0_Num.f bt145.2).bind fun t151 => (if t151 = bt147.2 then ((watchwordlaw3_awake.f k).bind fun t152 => (some t152)) else (some false))) else (some false)) else (some false))) else (some false)) else (some false))) else (some false))))))) = some r := H
  have A5 := Aside0.mk A50
  clear A50
  replace H := Option.bind_eq_some_iff.mp H
  obtain ⟨⟨t139, t140⟩, A60, H⟩ := H
  replace H : ((slot_Get.f k a1).bind fun bt141 => ((watchwordref1_GetSlot.f k a1).bind fun bt143 => ((slot_Torn.f a1 a2 a3).bind fun bt145 => ((watchwordref1_Torn.f a1 a2 a3).bind fun bt147 => (if t137.toList = t139.toList then ((watchwordlaw0_Num.f t138).bind fun t149 => (if t149 = t140 then (if bt141.1 = bt143.1 then ((watchwordlaw0_Num.f bt141.2).bind fun t150 => (if t150 = bt143.2 then (if bt145.1.toList = bt147.1.toList then ((watchwordlaw0_Num.f bt145.2).bind fun t151 => (if t151 = bt147.2 then ((watchwordlaw3_awake.f k).bind fun t152 => (some t152)) else (some false))) else (some false)) else (some false))) else (some false)) else (some false))) else (some false)))))) = some r := H
  have A6 := Aside0.mk A60
  clear A60
  replace H := Option.bind_eq_some_iff.mp H
  obtain ⟨⟨t141, t142⟩, A70, H⟩ := H
  replace H : ((watchwordref1_GetSlot.f k a1).bind fun bt143 => ((slot_Torn.f a1 a2 a3).bind fun bt145 => ((watchwordref1_Torn.f a1 a2 a3).bind fun bt147 => (if t137.toList = t139.toList then ((watchwordlaw0_Num.f t138).bind fun t149 => (if t149 = t140 then (if t141 = bt143.1 then ((watchwordlaw0_Num.f t142).bind fun t150 => (if t150 = bt143.2 then (if bt145.1.toList = bt147.1.toList then ((watchwordlaw0_Num.f bt145.2).bind fun t151 => (if t151 = bt147.2 then ((watchwordlaw3_awake.f k).bind fun t152 => (some t152)) else (some false))) else (some false)) else (some false))) else (some false)) else (some false))) else (some false))))) = some r := H
  have A7 := Aside0.mk A70
  clear A70
  replace H := Option.bind_eq_some_iff.mp H
  obtain ⟨⟨t143, t144⟩, A80, H⟩ := H
  replace H : ((slot_Torn.f a1 a2 a3).bind fun bt145 => ((watchwordref1_Torn.f a1 a2 a3).bind fun bt147 => (if t137.toList = t139.toList then ((watchwordlaw0_Num.f t138).bind fun t149 => (if t149 = t140 then (if t141 = t143 then ((watchwordlaw0_Num.f t142).bind fun t150 => (if t150 = t144 then (if bt145.1.toList = bt147.1.toList then ((watchwordlaw0_Num.f bt145.2).bind fun t151 => (if t151 = bt147.2 then ((watchwordlaw3_awake.f k).bind fun t152 => (some t152)) else (some false))) else (some false)) else (some false))) else (some false)) else (some false))) else (some false)))) = some r := H
  have A8 := Aside0.mk A80
  clear A80
  replace H := Option.bind_eq_some_iff.mp H
  obtain ⟨⟨t145, t146⟩, A90, H⟩ := H
  replace H : ((watchwordref1_Torn.f a1 a2 a3).bind fun bt147 => (if t137.toList = t139.toList then ((watchwordlaw0_Num.f t138).bind fun t149 => (if t149 = t140 then (if t141 = t143 then ((watchwordlaw0_Num.f t142).bind fun t150 => (if t150 = t144 then (if t145.toList = bt147.1.toList then ((watchwordlaw0_Num.f t146).bind fun t151 => (if t151 = bt147.2 then ((watchwordlaw3_awake.f k).bind fun t152 => (some t152)) else (some false))) else (some false)) else (some false))) else (some false)) else (some false))) else (some false))) = some r := H
  have A9 := Aside0.mk A90
  clear A90
  replace H := Option.bind_eq_some_iff.mp H
  obtain ⟨⟨t147, t148⟩, A100, H⟩ := H
  replace H : (if t137.toList = t139.toList then ((watchwordlaw0_Num.f t138).bind fun t149 => (if t149 = t140 then (if t141 = t143 then ((watchwordlaw0_Num.f t142).bind fun t150 => (if t150 = t144 then (if t145.toList = t147.toList then ((watchwordlaw0_Num.f t146).bind fun t151 => (if t151 = t148 then ((watchwordlaw3_awake.f k).bind fun t152 => (some t152)) else (some false))) else (some false)) else (some false))) else (some false)) else (some false))) else (some false)) = some r := H
  have A10 := Aside0.mk A100
  clear A100
  by_cases c11 : t137.toList = t139.toList
  · rw [if_pos c11] at H
    have c11b0 : (t137.toList == t139.toList) = true := beq_iff_eq.mpr c11
    have c11b1 : (t137.toList != t139.toList) = false := bne_eq_false_iff_eq.mpr c11
    clear c11
    replace H := Option.bind_eq_some_iff.mp H
    obtain ⟨t149, A120, H⟩ := H
    replace H : (if t149 = t140 then (if t141 = t143 then ((watchwordlaw0_Num.f t142).bind fun t150 => (if t150 = t144 then (if t145.toList = t147.toList then ((watchwordlaw0_Num.f t146).bind fun t151 => (if t151 = t148 then ((watchwordlaw3_awake.f k).bind fun t152 => (some t152)) else (some false))) else (some false)) else (some false))) else (some false)) else (some false)) = some r := H
    have A12 := Aside0.mk A120
    clear A120
    by_cases c13 : t149 = t140
    · rw [if_pos c13] at H
      have c13b0 : (t149 == t140) = true := beq_iff_eq.mpr c13
      have c13b1 : (t149 != t140) = false := bne_eq_false_iff_eq.mpr c13
      clear c13
      by_cases c14 : t141 = t143
      · rw [if_pos c14] at H
        have c14b0 : (t141 == t143) = true := beq_iff_eq.mpr c14
        have c14b1 : (t141 != t143) = false := bne_eq_false_iff_eq.mpr c14
        clear c14
        replace H := Option.bind_eq_some_iff.mp H
        obtain ⟨t150, A150, H⟩ := H
        replace H : (if t150 = t144 then (if t145.toList = t147.toList then ((watchwordlaw0_Num.f t146).bind fun t151 => (if t151 = t148 then ((watchwordlaw3_awake.f k).bind fun t152 => (some t152)) else (some false))) else (some false)) else (some false)) = some r := H
        have A15 := Aside0.mk A150
        clear A150
        by_cases c16 : t150 = t144
        · rw [if_pos c16] at H
          have c16b0 : (t150 == t144) = true := beq_iff_eq.mpr c16
          have c16b1 : (t150 != t144) = false := bne_eq_false_iff_eq.mpr c16
          clear c16
          by_cases c17 : t145.toList = t147.toList
          · rw [if_pos c17] at H
            have c17b0 : (t145.toList == t147.toList) = true := beq_iff_eq.mpr c17
            have c17b1 : (t145.toList != t147.toList) = false := bne_eq_false_iff_eq.mpr c17
            clear c17
            replace H := Option.bind_eq_some_iff.mp H
            obtain ⟨t151, A180, H⟩ := H
            replace H : (if t151 = t148 then ((watchwordlaw3_awake.f k).bind fun t152 => (some t152)) else (some false)) = some r := H
            have A18 := Aside0.mk A180
            clear A180
            by_cases c19 : t151 = t148
            · rw [if_pos c19] at H
              have c19b0 : (t151 == t148) = true := beq_iff_eq.mpr c19
              have c19b1 : (t151 != t148) = false := bne_eq_false_iff_eq.mpr c19
              clear c19
              replace H := Option.bind_eq_some_iff.mp H
              obtain ⟨t152, A200, H⟩ := H
              replace H : (some t152) = some r := H
              have A20 := Aside0.mk A200
              clear A200
              obtain rfl := Option.some.inj H
              go_enter Try.func3, Try.ntmps3
              go_wp2_with (first | ((with_reducible refine gate_callee (f := 13) rfl ?_); refine goesL_ (some 23) rfl rfl Try.func13 (by kernel_rfl) rfl #[.int .i64 a0] rfl (by (try simp only [List.map_toArray, List.map_cons, List.map_nil]); first | done | rfl | (simp only [List.length_drop, List.length_take]; rfl)) ?_; (with_reducible refine (slot_Put.calls a0 t137 t138 _ A5.out).mono ?_); rintro e w21 ⟨rfl, hb⟩; refine ⟨_, rfl, ?_⟩; have n0_ := Aside0.mk (below_step (by repeat (first | (with_reducible first | exact HB.out | apply below_alloc | apply pw_below_drewN | apply below_drew1) | exact HB.out)) hb); clear HB; have HB := n0_; clear n0_; (try clear hb); (try clear hb2); (try clear hk); (try clear hi)) | ((with_reducible refine gate_callee (f := 14) rfl ?_); refine goesL_ (some 28) rfl rfl Try.func14 (by kernel_rfl) rfl #[.int .i64 a0] rfl (by (try simp only [List.map_toArray, List.map_cons, List.map_nil]); first | done | rfl | (simp only [List.length_drop, List.length_take]; rfl)) ?_; (with_reducible refine (watchwordref1_PutSlot.calls a0 t139 t140 _ A6.out).mono ?_); rintro e w22 ⟨rfl, hb⟩; refine ⟨_, rfl, ?_⟩; have n0_ := Aside0.mk (below_step (by repeat (first | (with_reducible first | exact HB.out | apply below_alloc | apply pw_below_drewN | apply below_drew1) | exact HB.out)) hb); clear HB; have HB := n0_; clear n0_; (try clear hb); (try clear hb2); (try clear hk); (try clear hi)) | ((with_reducible refine gate_callee (f := 15) rfl ?_); refine goesL_ (some 33) rfl rfl Try.func15 (by kernel_rfl) rfl #[.string a1] rfl (by (try simp only [List.map_toArray, List.map_cons, List.map_nil]); first | done | rfl | (simp only [List.length_drop, List.length_take]; rfl)) ?_; (with_reducible refine (slot_Get.calls k a1 t141 t142 _ A7.out).mono ?_); rintro e w23 ⟨rfl, hb⟩; refine ⟨_, rfl, ?_⟩; have n0_ := Aside0.mk (below_step (by repeat (first | (with_reducible first | exact HB.out | apply below_alloc | apply pw_below_drewN | apply below_drew1) | exact HB.out)) hb); clear HB; have HB := n0_; clear n0_; (try clear hb); (try clear hb2); (try clear hk); (try clear hi)) | ((with_reducible refine gate_callee (f := 16) rfl ?_); refine goesL_ (some 38) rfl rfl Try.func16 (by kernel_rfl) rfl #[.string a1] rfl (by (try simp only [List.map_toArray, List.map_cons, List.map_nil]); first | done | rfl | (simp only [List.length_drop, List.length_take]; rfl)) ?_; (with_reducible refine (watchwordref1_GetSlot.calls k a1 t143 t144 _ A8.out).mono ?_); rintro e w24 ⟨rfl, hb⟩; refine ⟨_, rfl, ?_⟩; have n0_ := Aside0.mk (below_step (by repeat (first | (with_reducible first | exact HB.out | apply below_alloc | apply pw_below_drewN | apply below_drew1) | exact HB.out)) hb); clear HB; have HB := n0_; clear n0_; (try clear hb); (try clear hb2); (try clear hk); (try clear hi)) | ((with_reducible refine gate_callee (f := 17) rfl ?_); refine goesL_ (some 45) rfl rfl Try.func17 (by kernel_rfl) rfl #[.string a1, .string a2, .int .i64 a3] rfl (by (try simp only [List.map_toArray, List.map_cons, List.map_nil]); first | done | rfl | (simp only [List.length_drop, List.length_take]; rfl)) ?_; (with_reducible refine (slot_Torn.calls a1 a2 a3 t145 t146 _ A9.out).mono ?_); rintro e w' ⟨rfl, ⟨nd, rfl⟩⟩; refine ⟨_, rfl, ?_⟩) | ((with_reducible refine gate_callee (f := 18) rfl ?_); refine goesL_ (some 52) rfl rfl Try.func18 (by kernel_rfl) rfl #[.string a1, .string a2, .int .i64 a3] rfl (by (try simp only [List.map_toArray, List.map_cons, List.map_nil]); first | done | rfl | (simp only [List.length_drop, List.length_take]; rfl)) ?_; (with_reducible refine (watchwordref1_Torn.calls a1 a2 a3 t147 t148 _ A10.out).mono ?_); rintro e w' ⟨rfl, ⟨nd, rfl⟩⟩; refine ⟨_, rfl, ?_⟩) | (go_at_call 19; (with_reducible refine (watchwordlaw0_Num.calls t138 t149 _ A12.out).mono ?_); rintro e w' ⟨rfl, ⟨nd, rfl⟩⟩) | (go_at_call 19; (with_reducible refine (watchwordlaw0_Num.calls t142 t150 _ A15.out).mono ?_); rintro e w' ⟨rfl, ⟨nd, rfl⟩⟩) | (go_at_call 19; (with_reducible refine (watchwordlaw0_Num.calls t146 t151 _ A18.out).mono ?_); rintro e w' ⟨rfl, ⟨nd, rfl⟩⟩) | (go_at_call 20; (with_reducible refine (watchwordlaw3_awake.calls k  t152 hr _ A20.out).mono ?_); rintro e w25 ⟨rfl, hb⟩; have n0_ := Aside0.mk (below_step (by repeat (first | (with_reducible first | exact HB.out | apply below_alloc | apply pw_below_drewN | apply below_drew1) | exact HB.out)) hb); clear HB; have HB := n0_; clear n0_; (try clear hb); (try clear hb2); (try clear hk); (try clear hi)))
              go_ret
              exact ⟨by first | rfl | (simp [errW_none, errW_some] <;> rfl) | (simp [*, errW_none, errW_some] <;> rfl), by repeat (first | (with_reducible first | exact HB.out | apply below_alloc | apply pw_below_drewN | apply below_drew1) | exact HB.out)⟩
            · rw [if_neg c19] at H
              exact absurd (Option.some.inj H) (by rw [hr]; decide)
          · rw [if_neg c17] at H
            exact absurd (Option.some.inj H) (by rw [hr]; decide)
        · rw [if_neg c16] at H
          exact absurd (Option.some.inj H) (by rw [hr]; decide)
      · rw [if_neg c14] at H
        exact absurd (Option.some.inj H) (by rw [hr]; decide)
    · rw [if_neg c13] at H
      exact absurd (Option.some.inj H) (by rw [hr]; decide)
  · rw [if_neg c11] at H
    exact absurd (Option.some.inj H) (by rw [hr]; decide)
/-- THE ONE PURE STATEMENT of watchwordlaw3_Slots: yours. -/
def watchwordlaw3_Slots.Pure : Prop := ∀ (a0 : Int) (a1 : ByteArray) (a2 : ByteArray) (a3 : Int), (Lit.int .i64 a0).wf = true → a1.size ≤ 140737488351232 → a2.size ≤ 140737488351232 → (Lit.int .i64 a3).wf = true → ∃ k, watchwordlaw3_Slots.f k a0 a1 a2 a3 = some true
theorem watchwordlaw3_Slots.walk (P : watchwordlaw3_Slots.Pure) (a0 : Int) (a1 : ByteArray) (a2 : ByteArray) (a3 : Int) (w : World) (w0 : (Lit.int .i64 a0).wf = true) (w1 : a1.size ≤ 140737488351232) (w2 : a2.size ≤ 140737488351232) (w3 : (Lit.int .i64 a3).wf = true) :
    Calls Try.prog 3 #[.int .i64 a0, .string a1, .string a2, .int .i64 a3] w fun e w' => e = .returned (.bool true) ∧ Below w.heap.size w w' := by
  obtain ⟨k, h⟩ := P a0 a1 a2 a3 w0 w1 w2 w3
  refine (watchwordlaw3_Slots.calls k a0 a1 a2 a3 true rfl w h).mono ?_
  rintro e w' ⟨rfl, hd⟩
  exact ⟨rfl, hd⟩

/-! ### watchwordlaw3_SlotTorn: function 4 -/
def watchwordlaw3_SlotTorn.j0 : Nat → ByteArray → ByteArray → ByteArray → Bool → Option (Bool)
  | 0, _, _, _, _ => none
  | k + 1, x7, x9, x11, x55 => if x55 = true then (some false) else ((slot_Get.f k x11).bind fun bt163 => (if x11.toList = x7.toList then (some true) else (if x11.toList = x9.toList then (some true) else (if bt163.1 = 0 then ((watchwordlaw0_Num.f bt163.2).bind fun t165 => (some (t165 == 300))) else (some false)))))
def watchwordlaw3_SlotTorn.f (k : Nat) (a0 : Int) (a1 : Int) (a2 : Int) : Option (Bool) := (watchwordlaw3_awake.f k).bind fun t153 => (if t153 = true then ((slot_Put.f ((IntKind.u64.wrap (a0)) % 4294967296)).bind fun bt154 => ((slot_Put.f ((IntKind.u64.wrap (a1)) % 4294967296)).bind fun bt156 => ((slot_Torn.f bt154.1 bt156.1 (wrap64 (Int.tmod (IntKind.u64.wrap (a2)) 17))).bind fun bt158 => ((watchwordlaw0_Num.f bt154.2).bind fun t160 => (if t160 = 0 then ((watchwordlaw0_Num.f bt156.2).bind fun t161 => (if t161 = 0 then ((watchwordlaw0_Num.f bt158.2).bind fun t162 => (watchwordlaw3_SlotTorn.j0 k bt154.1 bt156.1 bt158.1 (t162 != 0))) else (watchwordlaw3_SlotTorn.j0 k bt154.1 bt156.1 bt158.1 true))) else (watchwordlaw3_SlotTorn.j0 k bt154.1 bt156.1 bt158.1 true)))))) else (some false))
theorem watchwordlaw3_SlotTorn.mono_l : ∀ k, (∀ y0 y1 y2 y3, LeO (watchwordlaw3_SlotTorn.j0 k y0 y1 y2 y3) (watchwordlaw3_SlotTorn.j0 (k + 1) y0 y1 y2 y3))
  | 0 => fun _ _ _ _ r h => by simp [watchwordlaw3_SlotTorn.j0] at h
  | k + 1 => by
    have ih0 := watchwordlaw3_SlotTorn.mono_l k
    · intro y0 y1 y2 y3
      unfold watchwordlaw3_SlotTorn.j0
      repeat' first
      | (with_reducible exact ih0 _ _ _ _)
      | (with_reducible exact slot_Get.mono _ _)
      | (with_reducible exact watchwordlaw3_awake.mono _)
      | (with_reducible exact LeO.refl _)
      | (with_reducible exact LeO.none _)
      | (with_reducible refine LeO.ite ?_ ?_)
      | (with_reducible refine LeO.bind ?_ (fun _ => ?_))
      | exact ih0 _ _ _ _
      | exact slot_Get.mono _ _
      | exact watchwordlaw3_awake.mono _
      | exact LeO.none _
      | refine LeO.ite ?_ ?_
      | refine LeO.bind ?_ (fun _ => ?_)
theorem watchwordlaw3_SlotTorn.mono : ∀ a0 a1 a2 k, LeO (watchwordlaw3_SlotTorn.f k a0 a1 a2) (watchwordlaw3_SlotTorn.f (k + 1) a0 a1 a2) := by
  intro a0 a1 a2 k
  have ih0 := watchwordlaw3_SlotTorn.mono_l k
  unfold watchwordlaw3_SlotTorn.f
  repeat' first
      | (with_reducible exact ih0 _ _ _ _)
      | (with_reducible exact slot_Get.mono _ _)
      | (with_reducible exact watchwordlaw3_awake.mono _)
      | (with_reducible exact LeO.refl _)
      | (with_reducible exact LeO.none _)
      | (with_reducible refine LeO.ite ?_ ?_)
      | (with_reducible refine LeO.bind ?_ (fun _ => ?_))
      | exact ih0 _ _ _ _
      | exact slot_Get.mono _ _
      | exact watchwordlaw3_awake.mono _
      | exact LeO.none _
      | refine LeO.ite ?_ ?_
      | refine LeO.bind ?_ (fun _ => ?_)
set_option maxHeartbeats 8000000 in
set_option maxRecDepth 100000 in
theorem watchwordlaw3_SlotTorn.calls (k : Nat) (a0 : Int) (a1 : Int) (a2 : Int) (r : Bool) (hr : r = true) (w : World) (h : watchwordlaw3_SlotTorn.f k a0 a1 a2 = some r) :
    Calls Try.prog 4 #[.int .i64 a0, .int .i64 a1, .int .i64 a2] w fun e w' => e = .returned (.bool r) ∧ Below w.heap.size w w' := by
  have HB := Aside0.mk (Below.refl w.heap.size w)
  have H : ((watchwordlaw3_awake.f k).bind fun t153 => (if t153 = true then ((slot_Put.f ((IntKind.u64.wrap (a0)) % 4294967296)).bind fun bt154 => ((slot_Put.f ((IntKind.u64.wrap (a1)) % 4294967296)).bind fun bt156 => ((slot_Torn.f bt154.1 bt156.1 (wrap64 (Int.tmod (IntKind.u64.wrap (a2)) 17))).bind fun bt158 => ((watchwordlaw0_Num.f bt154.2).bind fun t160 => (if t160 = 0 then ((watchwordlaw0_Num.f bt156.2).bind fun t161 => (if t161 = 0 then ((watchwordlaw0_Num.f bt158.2).bind fun t162 => (watchwordlaw3_SlotTorn.j0 k bt154.1 bt156.1 bt158.1 (t162 != 0))) else (watchwordlaw3_SlotTorn.j0 k bt154.1 bt156.1 bt158.1 true))) else (watchwordlaw3_SlotTorn.j0 k bt154.1 bt156.1 bt158.1 true)))))) else (some false))) = some r := h
  clear h
  replace H := Option.bind_eq_some_iff.mp H
  obtain ⟨t153, A40, H⟩ := H
  replace H : (if t153 = true then ((slot_Put.f ((IntKind.u64.wrap (a0)) % 4294967296)).bind fun bt154 => ((slot_Put.f ((IntKind.u64.wrap (a1)) % 4294967296)).bind fun bt156 => ((slot_Torn.f bt154.1 bt156.1 (wrap64 (Int.tmod (IntKind.u64.wrap (a2)) 17))).bind fun bt158 => ((watchwordlaw0_Num.f bt154.2).bind fun t160 => (if t160 = 0 then ((watchwordlaw0_Num.f bt156.2).bind fun t161 => (if t161 = 0 then ((watchwordlaw0_Num.f bt158.2).bind fun t162 => (watchwordlaw3_SlotTorn.j0 k bt154.1 bt156.1 bt158.1 (t162 != 0))) else (watchwordlaw3_SlotTorn.j0 k bt154.1 bt156.1 bt158.1 true))) else (watchwordlaw3_SlotTorn.j0 k bt154.1 bt156.1 bt158.1 true)))))) else (some false)) = some r := H
  have A4 := Aside0.mk A40
  clear A40
  by_cases c5 : t153 = true
  · subst c5
    have H1 : ((slot_Put.f ((IntKind.u64.wrap (a0)) % 4294967296)).bind fun bt154 => ((slot_Put.f ((IntKind.u64.wrap (a1)) % 4294967296)).bind fun bt156 => ((slot_Torn.f bt154.1 bt156.1 (wrap64 (Int.tmod (IntKind.u64.wrap (a2)) 17))).bind fun bt158 => ((watchwordlaw0_Num.f bt154.2).bind fun t160 => (if t160 = 0 then ((watchwordlaw0_Num.f bt156.2).bind fun t161 => (if t161 = 0 then ((watchwordlaw0_Num.f bt158.2).bind fun t162 => (watchwordlaw3_SlotTorn.j0 k bt154.1 bt156.1 bt158.1 (t162 != 0))) else (watchwordlaw3_SlotTorn.j0 k bt154.1 bt156.1 bt158.1 true))) else (watchwordlaw3_SlotTorn.j0 k bt154.1 bt156.1 bt158.1 true)))))) = some r := by rw [if_pos rfl] at H; exact H
    clear H
    have H := H1
    clear H1
    replace H := Option.bind_eq_some_iff.mp H
    obtain ⟨⟨t154, t155⟩, A60, H⟩ := H
    replace H : ((slot_Put.f ((IntKind.u64.wrap (a1)) % 4294967296)).bind fun bt156 => ((slot_Torn.f t154 bt156.1 (wrap64 (Int.tmod (IntKind.u64.wrap (a2)) 17))).bind fun bt158 => ((watchwordlaw0_Num.f t155).bind fun t160 => (if t160 = 0 then ((watchwordlaw0_Num.f bt156.2).bind fun t161 => (if t161 = 0 then ((watchwordlaw0_Num.f bt158.2).bind fun t162 => (watchwordlaw3_SlotTorn.j0 k t154 bt156.1 bt158.1 (t162 != 0))) else (watchwordlaw3_SlotTorn.j0 k t154 bt156.1 bt158.1 true))) else (watchwordlaw3_SlotTorn.j0 k t154 bt156.1 bt158.1 true))))) = some r := H
    have A6 := Aside0.mk A60
    clear A60
    replace H := Option.bind_eq_some_iff.mp H
    obtain ⟨⟨t156, t157⟩, A70, H⟩ := H
    replace H : ((slot_Torn.f t154 t156 (wrap64 (Int.tmod (IntKind.u64.wrap (a2)) 17))).bind fun bt158 => ((watchwordlaw0_Num.f t155).bind fun t160 => (if t160 = 0 then ((watchwordlaw0_Num.f t157).bind fun t161 => (if t161 = 0 then ((watchwordlaw0_Num.f bt158.2).bind fun t162 => (watchwordlaw3_SlotTorn.j0 k t154 t156 bt158.1 (t162 != 0))) else (watchwordlaw3_SlotTorn.j0 k t154 t156 bt158.1 true))) else (watchwordlaw3_SlotTorn.j0 k t154 t156 bt158.1 true)))) = some r := H
    have A7 := Aside0.mk A70
    clear A70
    replace H := Option.bind_eq_some_iff.mp H
    obtain ⟨⟨t158, t159⟩, A80, H⟩ := H
    replace H : ((watchwordlaw0_Num.f t155).bind fun t160 => (if t160 = 0 then ((watchwordlaw0_Num.f t157).bind fun t161 => (if t161 = 0 then ((watchwordlaw0_Num.f t159).bind fun t162 => (watchwordlaw3_SlotTorn.j0 k t154 t156 t158 (t162 != 0))) else (watchwordlaw3_SlotTorn.j0 k t154 t156 t158 true))) else (watchwordlaw3_SlotTorn.j0 k t154 t156 t158 true))) = some r := H
    have A8 := Aside0.mk A80
    clear A80
    have HC9 := Aside0.mk H
    clear H
    go_enter Try.func4, Try.ntmps4
    go_upto_region 6 with (first | ((with_reducible refine gate_callee (f := 20) rfl ?_); refine goesL_ (some 15) rfl rfl Try.func20 (by kernel_rfl) rfl #[] rfl (by (try simp only [List.map_toArray, List.map_cons, List.map_nil]); first | done | rfl | (simp only [List.length_drop, List.length_take]; rfl)) ?_; (with_reducible refine (watchwordlaw3_awake.calls k  true rfl _ A4.out).mono ?_); rintro e w10 ⟨rfl, hb⟩; refine ⟨_, rfl, ?_⟩; have n0_ := Aside0.mk (below_step (by repeat (first | (with_reducible first | exact HB.out | apply below_alloc | apply pw_below_drewN | apply below_drew1) | exact HB.out)) hb); clear HB; have HB := n0_; clear n0_; (try clear hb); (try clear hb2); (try clear hk); (try clear hi)) | ((with_reducible refine gate_callee (f := 13) rfl ?_); refine goesL_ (some 22) rfl rfl Try.func13 (by kernel_rfl) rfl #[.int .i64 ((IntKind.u64.wrap (a0)) % 4294967296)] rfl (by (try simp only [List.map_toArray, List.map_cons, List.map_nil]); first | done | rfl | (simp only [List.length_drop, List.length_take]; rfl)) ?_; (with_reducible refine (slot_Put.calls ((IntKind.u64.wrap (a0)) % 4294967296) t154 t155 _ A6.out).mono ?_); rintro e w11 ⟨rfl, hb⟩; refine ⟨_, rfl, ?_⟩; have n0_ := Aside0.mk (below_step (by repeat (first | (with_reducible first | exact HB.out | apply below_alloc | apply pw_below_drewN | apply below_drew1) | exact HB.out)) hb); clear HB; have HB := n0_; clear n0_; (try clear hb); (try clear hb2); (try clear hk); (try clear hi)) | ((with_reducible refine gate_callee (f := 13) rfl ?_); refine goesL_ (some 30) rfl rfl Try.func13 (by kernel_rfl) rfl #[.int .i64 ((IntKind.u64.wrap (a1)) % 4294967296)] rfl (by (try simp only [List.map_toArray, List.map_cons, List.map_nil]); first | done | rfl | (simp only [List.length_drop, List.length_take]; rfl)) ?_; (with_reducible refine (slot_Put.calls ((IntKind.u64.wrap (a1)) % 4294967296) t156 t157 _ A7.out).mono ?_); rintro e w12 ⟨rfl, hb⟩; refine ⟨_, rfl, ?_⟩; have n0_ := Aside0.mk (below_step (by repeat (first | (with_reducible first | exact HB.out | apply below_alloc | apply pw_below_drewN | apply below_drew1) | exact HB.out)) hb); clear HB; have HB := n0_; clear n0_; (try clear hb); (try clear hb2); (try clear hk); (try clear hi)) | ((with_reducible refine gate_callee (f := 17) rfl ?_); refine goesL_ (some 40) rfl rfl Try.func17 (by kernel_rfl) rfl #[.string t154, .string t156, .int .i64 (wrap64 (Int.tmod (IntKind.u64.wrap (a2)) 17))] rfl (by (try simp only [List.map_toArray, List.map_cons, List.map_nil]); first | done | rfl | (simp only [List.length_drop, List.length_take]; rfl)) ?_; (with_reducible refine (slot_Torn.calls t154 t156 (wrap64 (Int.tmod (IntKind.u64.wrap (a2)) 17)) t158 t159 _ A8.out).mono ?_); rintro e w' ⟨rfl, ⟨nd, rfl⟩⟩; refine ⟨_, rfl, ?_⟩))
    (try simp only [Act.put, List.setIfInBounds_toArray, List.set_cons_zero, List.set_cons_succ])
    go_cut [55] (fun v55 wc => ∃ (kq : Nat) (x55_8 : Bool), v55 = .bool x55_8 ∧ Aside0 (watchwordlaw3_SlotTorn.j0 kq t154 t156 t158 x55_8 = some r) ∧ Aside0 (kq ≤ k) ∧ Aside0 (Below w.heap.size w wc))
    case first =>
      have H := HC9.out
      clear HC9
      replace H := Option.bind_eq_some_iff.mp H
      obtain ⟨t160, A130, H⟩ := H
      replace H : (if t160 = 0 then ((watchwordlaw0_Num.f t157).bind fun t161 => (if t161 = 0 then ((watchwordlaw0_Num.f t159).bind fun t162 => (watchwordlaw3_SlotTorn.j0 k t154 t156 t158 (t162 != 0))) else (watchwordlaw3_SlotTorn.j0 k t154 t156 t158 true))) else (watchwordlaw3_SlotTorn.j0 k t154 t156 t158 true)) = some r := H
      have A13 := Aside0.mk A130
      clear A130
      by_cases c14 : t160 = 0
      · rw [if_pos c14] at H
        have c14b0 : (t160 == 0) = true := beq_iff_eq.mpr c14
        have c14b1 : (t160 != 0) = false := bne_eq_false_iff_eq.mpr c14
        clear c14
        (first | rw [c14b0] | (simp only [i64_w, i32_w]; rw [c14b0]) | skip)
        replace H := Option.bind_eq_some_iff.mp H
        obtain ⟨t161, A150, H⟩ := H
        replace H : (if t161 = 0 then ((watchwordlaw0_Num.f t159).bind fun t162 => (watchwordlaw3_SlotTorn.j0 k t154 t156 t158 (t162 != 0))) else (watchwordlaw3_SlotTorn.j0 k t154 t156 t158 true)) = some r := H
        have A15 := Aside0.mk A150
        clear A150
        by_cases c16 : t161 = 0
        · rw [if_pos c16] at H
          have c16b0 : (t161 == 0) = true := beq_iff_eq.mpr c16
          have c16b1 : (t161 != 0) = false := bne_eq_false_iff_eq.mpr c16
          clear c16
          replace H := Option.bind_eq_some_iff.mp H
          obtain ⟨t162, A170, H⟩ := H
          replace H : (watchwordlaw3_SlotTorn.j0 k t154 t156 t158 (t162 != 0)) = some r := H
          have A17 := Aside0.mk A170
          clear A170
          have H' := Aside0.mk H
          clear H
          go_wp2_with (first | ((with_reducible refine gate_callee (f := 19) rfl ?_); refine goesL_ (some 44) rfl rfl Try.func19 (by kernel_rfl) rfl #[.int .i64 t155] rfl (by (try simp only [List.map_toArray, List.map_cons, List.map_nil]); first | done | rfl | (simp only [List.length_drop, List.length_take]; rfl)) ?_; (with_reducible refine (watchwordlaw0_Num.calls t155 t160 _ A13.out).mono ?_); rintro e w' ⟨rfl, ⟨nd, rfl⟩⟩; refine ⟨_, rfl, ?_⟩) | (go_at_call 19; (with_reducible refine (watchwordlaw0_Num.calls t157 t161 _ A15.out).mono ?_); rintro e w' ⟨rfl, ⟨nd, rfl⟩⟩) | (go_at_call 19; (with_reducible refine (watchwordlaw0_Num.calls t159 t162 _ A17.out).mono ?_); rintro e w' ⟨rfl, ⟨nd, rfl⟩⟩))
          go_meet
          case rel => exact ⟨_, ((t162 != 0)), (by first | rfl | (simp; done) | (simp [*]; done)), H', ⟨by first | omega | exact Nat.le_refl _⟩, ⟨by repeat (first | (with_reducible first | exact HB.out | apply below_alloc | apply pw_below_drewN | apply below_drew1) | exact HB.out)⟩⟩
        · rw [if_neg c16] at H
          have c16b0 : (t161 == 0) = false := beq_eq_false_iff_ne.mpr c16
          have c16b1 : (t161 != 0) = true := bne_iff_ne.mpr c16
          have H' := Aside0.mk H
          clear H
          go_wp2_with (first | ((with_reducible refine gate_callee (f := 19) rfl ?_); refine goesL_ (some 44) rfl rfl Try.func19 (by kernel_rfl) rfl #[.int .i64 t155] rfl (by (try simp only [List.map_toArray, List.map_cons, List.map_nil]); first | done | rfl | (simp only [List.length_drop, List.length_take]; rfl)) ?_; (with_reducible refine (watchwordlaw0_Num.calls t155 t160 _ A13.out).mono ?_); rintro e w' ⟨rfl, ⟨nd, rfl⟩⟩; refine ⟨_, rfl, ?_⟩) | (go_at_call 19; (with_reducible refine (watchwordlaw0_Num.calls t157 t161 _ A15.out).mono ?_); rintro e w' ⟨rfl, ⟨nd, rfl⟩⟩))
          go_meet
          case rel => exact ⟨_, (true), (by first | rfl | (simp; done) | (simp [*]; done)), H', ⟨by first | omega | exact Nat.le_refl _⟩, ⟨by repeat (first | (with_reducible first | exact HB.out | apply below_alloc | apply pw_below_drewN | apply below_drew1) | exact HB.out)⟩⟩
      · rw [if_neg c14] at H
        have c14b0 : (t160 == 0) = false := beq_eq_false_iff_ne.mpr c14
        have c14b1 : (t160 != 0) = true := bne_iff_ne.mpr c14
        (first | rw [c14b0] | (simp only [i64_w, i32_w]; rw [c14b0]) | skip)
        have H' := Aside0.mk H
        clear H
        go_wp2_with (first | ((with_reducible refine gate_callee (f := 19) rfl ?_); refine goesL_ (some 44) rfl rfl Try.func19 (by kernel_rfl) rfl #[.int .i64 t155] rfl (by (try simp only [List.map_toArray, List.map_cons, List.map_nil]); first | done | rfl | (simp only [List.length_drop, List.length_take]; rfl)) ?_; (with_reducible refine (watchwordlaw0_Num.calls t155 t160 _ A13.out).mono ?_); rintro e w' ⟨rfl, ⟨nd, rfl⟩⟩; refine ⟨_, rfl, ?_⟩))
        go_meet
        case rel => exact ⟨_, (true), (by first | rfl | (simp; done) | (simp [*]; done)), H', ⟨by first | omega | exact Nat.le_refl _⟩, ⟨by repeat (first | (with_reducible first | exact HB.out | apply below_alloc | apply pw_below_drewN | apply below_drew1) | exact HB.out)⟩⟩
    case rest =>
      clear HC9
      try clear c1
      try clear c2
      try clear p2
      try clear c4
      try clear c5
      try clear p6
      try clear c13
      try clear c14
      try clear c14b0
      try clear c14b1
      try clear c16
      try clear c16b0
      try clear c16b1
      try clear c17
      obtain ⟨kq, x55_8, rfl, HA, HJ8, HB⟩ := hcut
      cases kq with
      | zero => exact absurd HA.out (by simp [watchwordlaw3_SlotTorn.j0])
      | succ kj8 =>
        have H := HA.out
        clear HA
        simp only [watchwordlaw3_SlotTorn.j0] at H
        by_cases c18 : x55_8 = true
        · subst c18
          have H1 : (some false) = some r := by rw [if_pos rfl] at H; exact H
          exact absurd (Option.some.inj H1) (by rw [hr]; decide)
        · replace c18 := Bool.eq_false_iff.mpr c18
          subst c18
          have H1 : ((slot_Get.f kj8 t158).bind fun bt163 => (if t158.toList = t154.toList then (some true) else (if t158.toList = t156.toList then (some true) else (if bt163.1 = 0 then ((watchwordlaw0_Num.f bt163.2).bind fun t165 => (some (t165 == 300))) else (some false))))) = some r := by rw [if_neg (show ¬ (false = true) by decide)] at H; exact H
          clear H
          have H := H1
          clear H1
          replace H := Option.bind_eq_some_iff.mp H
          obtain ⟨⟨t163, t164⟩, A190, H⟩ := H
          replace H : (if t158.toList = t154.toList then (some true) else (if t158.toList = t156.toList then (some true) else (if t163 = 0 then ((watchwordlaw0_Num.f t164).bind fun t165 => (some (t165 == 300))) else (some false)))) = some r := H
          have A19 := Aside0.mk A190
          clear A190
          by_cases c20 : t158.toList = t154.toList
          · rw [if_pos c20] at H
            have c20b0 : (t158.toList == t154.toList) = true := beq_iff_eq.mpr c20
            have c20b1 : (t158.toList != t154.toList) = false := bne_eq_false_iff_eq.mpr c20
            clear c20
            obtain rfl := Option.some.inj H
            go_wp2_with (first | ((with_reducible refine gate_callee (f := 15) rfl ?_); refine goesL_ (some 58) rfl rfl Try.func15 (by kernel_rfl) rfl #[.string t158] rfl (by (try simp only [List.map_toArray, List.map_cons, List.map_nil]); first | done | rfl | (simp only [List.length_drop, List.length_take]; rfl)) ?_; (with_reducible refine (slot_Get.calls kj8 t158 t163 t164 _ A19.out).mono ?_); rintro e w21 ⟨rfl, hb⟩; refine ⟨_, rfl, ?_⟩; have n0_ := Aside0.mk (below_step (by repeat (first | (with_reducible first | exact HB.out | apply below_alloc | apply pw_below_drewN | apply below_drew1) | exact HB.out)) hb); clear HB; have HB := n0_; clear n0_; (try clear hb); (try clear hb2); (try clear hk); (try clear hi)))
            go_ret
            exact ⟨by first | rfl | (simp [errW_none, errW_some] <;> rfl) | (simp [*, errW_none, errW_some] <;> rfl), by repeat (first | (with_reducible first | exact HB.out | apply below_alloc | apply pw_below_drewN | apply below_drew1) | exact HB.out)⟩
          · rw [if_neg c20] at H
            have c20b0 : (t158.toList == t154.toList) = false := beq_eq_false_iff_ne.mpr c20
            have c20b1 : (t158.toList != t154.toList) = true := bne_iff_ne.mpr c20
            by_cases c22 : t158.toList = t156.toList
            · rw [if_pos c22] at H
              have c22b0 : (t158.toList == t156.toList) = true := beq_iff_eq.mpr c22
              have c22b1 : (t158.toList != t156.toList) = false := bne_eq_false_iff_eq.mpr c22
              clear c22
              obtain rfl := Option.some.inj H
              go_wp2_with (first | ((with_reducible refine gate_callee (f := 15) rfl ?_); refine goesL_ (some 58) rfl rfl Try.func15 (by kernel_rfl) rfl #[.string t158] rfl (by (try simp only [List.map_toArray, List.map_cons, List.map_nil]); first | done | rfl | (simp only [List.length_drop, List.length_take]; rfl)) ?_; (with_reducible refine (slot_Get.calls kj8 t158 t163 t164 _ A19.out).mono ?_); rintro e w23 ⟨rfl, hb⟩; refine ⟨_, rfl, ?_⟩; have n0_ := Aside0.mk (below_step (by repeat (first | (with_reducible first | exact HB.out | apply below_alloc | apply pw_below_drewN | apply below_drew1) | exact HB.out)) hb); clear HB; have HB := n0_; clear n0_; (try clear hb); (try clear hb2); (try clear hk); (try clear hi)))
              go_ret
              exact ⟨by first | rfl | (simp [errW_none, errW_some] <;> rfl) | (simp [*, errW_none, errW_some] <;> rfl), by repeat (first | (with_reducible first | exact HB.out | apply below_alloc | apply pw_below_drewN | apply below_drew1) | exact HB.out)⟩
            · rw [if_neg c22] at H
              have c22b0 : (t158.toList == t156.toList) = false := beq_eq_false_iff_ne.mpr c22
              have c22b1 : (t158.toList != t156.toList) = true := bne_iff_ne.mpr c22
              by_cases c24 : t163 = 0
              · rw [if_pos c24] at H
                have c24b0 : (t163 == 0) = true := beq_iff_eq.mpr c24
                have c24b1 : (t163 != 0) = false := bne_eq_false_iff_eq.mpr c24
                clear c24
                replace H := Option.bind_eq_some_iff.mp H
                obtain ⟨t165, A250, H⟩ := H
                replace H : (some (t165 == 300)) = some r := H
                have A25 := Aside0.mk A250
                clear A250
                obtain rfl := Option.some.inj H
                go_wp2_with (first | ((with_reducible refine gate_callee (f := 15) rfl ?_); refine goesL_ (some 58) rfl rfl Try.func15 (by kernel_rfl) rfl #[.string t158] rfl (by (try simp only [List.map_toArray, List.map_cons, List.map_nil]); first | done | rfl | (simp only [List.length_drop, List.length_take]; rfl)) ?_; (with_reducible refine (slot_Get.calls kj8 t158 t163 t164 _ A19.out).mono ?_); rintro e w26 ⟨rfl, hb⟩; refine ⟨_, rfl, ?_⟩; have n0_ := Aside0.mk (below_step (by repeat (first | (with_reducible first | exact HB.out | apply below_alloc | apply pw_below_drewN | apply below_drew1) | exact HB.out)) hb); clear HB; have HB := n0_; clear n0_; (try clear hb); (try clear hb2); (try clear hk); (try clear hi)) | (go_at_call 19; (with_reducible refine (watchwordlaw0_Num.calls t164 t165 _ A25.out).mono ?_); rintro e w' ⟨rfl, ⟨nd, rfl⟩⟩))
                go_ret
                exact ⟨by first | rfl | (simp [errW_none, errW_some] <;> rfl) | (simp [*, errW_none, errW_some] <;> rfl), by repeat (first | (with_reducible first | exact HB.out | apply below_alloc | apply pw_below_drewN | apply below_drew1) | exact HB.out)⟩
              · rw [if_neg c24] at H
                exact absurd (Option.some.inj H) (by rw [hr]; decide)
  · replace c5 := Bool.eq_false_iff.mpr c5
    subst c5
    have H1 : (some false) = some r := by rw [if_neg (show ¬ (false = true) by decide)] at H; exact H
    exact absurd (Option.some.inj H1) (by rw [hr]; decide)
/-- THE ONE PURE STATEMENT of watchwordlaw3_SlotTorn: yours. -/
def watchwordlaw3_SlotTorn.Pure : Prop := ∀ (a0 : Int) (a1 : Int) (a2 : Int), (Lit.int .i64 a0).wf = true → (Lit.int .i64 a1).wf = true → (Lit.int .i64 a2).wf = true → ∃ k, watchwordlaw3_SlotTorn.f k a0 a1 a2 = some true
theorem watchwordlaw3_SlotTorn.walk (P : watchwordlaw3_SlotTorn.Pure) (a0 : Int) (a1 : Int) (a2 : Int) (w : World) (w0 : (Lit.int .i64 a0).wf = true) (w1 : (Lit.int .i64 a1).wf = true) (w2 : (Lit.int .i64 a2).wf = true) :
    Calls Try.prog 4 #[.int .i64 a0, .int .i64 a1, .int .i64 a2] w fun e w' => e = .returned (.bool true) ∧ Below w.heap.size w w' := by
  obtain ⟨k, h⟩ := P a0 a1 a2 w0 w1 w2
  refine (watchwordlaw3_SlotTorn.calls k a0 a1 a2 true rfl w h).mono ?_
  rintro e w' ⟨rfl, hd⟩
  exact ⟨rfl, hd⟩

/-! ### watchwordlaw3_SlotBack: function 6 -/
def watchwordlaw3_SlotBack.f (k : Nat) (a0 : Int) (a1 : Int) : Option (Bool) := (watchwordlaw3_awake.f k).bind fun t166 => (if t166 = true then ((slot_Put.f ((IntKind.u64.wrap (a0)) % 4294967296)).bind fun bt167 => ((slot_Put.f ((IntKind.u64.wrap (a1)) % 4294967296)).bind fun bt169 => ((slot_Get.f k bt167.1).bind fun bt171 => ((watchwordlaw0_Num.f bt167.2).bind fun t173 => (if t173 = 0 then ((watchwordlaw0_Num.f bt169.2).bind fun t174 => (if t174 = 0 then ((watchwordlaw0_Num.f bt171.2).bind fun t175 => (if t175 = 0 then (if bt171.1 = ((IntKind.u64.wrap (a0)) % 4294967296) then (some ((bt167.1.toList == bt169.1.toList) == (((IntKind.u64.wrap (a0)) % 4294967296) == ((IntKind.u64.wrap (a1)) % 4294967296)))) else (some false)) else (some false))) else (some false))) else (some false)))))) else (some false))
theorem watchwordlaw3_SlotBack.mono : ∀ a0 a1 k, LeO (watchwordlaw3_SlotBack.f k a0 a1) (watchwordlaw3_SlotBack.f (k + 1) a0 a1) := by
  intro a0 a1 k
  unfold watchwordlaw3_SlotBack.f
  repeat' first
      | (with_reducible exact slot_Get.mono _ _)
      | (with_reducible exact watchwordlaw3_awake.mono _)
      | (with_reducible exact LeO.refl _)
      | (with_reducible exact LeO.none _)
      | (with_reducible refine LeO.ite ?_ ?_)
      | (with_reducible refine LeO.bind ?_ (fun _ => ?_))
      | exact slot_Get.mono _ _
      | exact watchwordlaw3_awake.mono _
      | exact LeO.none _
      | refine LeO.ite ?_ ?_
      | refine LeO.bind ?_ (fun _ => ?_)
set_option maxHeartbeats 8000000 in
set_option maxRecDepth 100000 in
theorem watchwordlaw3_SlotBack.calls (k : Nat) (a0 : Int) (a1 : Int) (r : Bool) (hr : r = true) (w : World) (h : watchwordlaw3_SlotBack.f k a0 a1 = some r) :
    Calls Try.prog 6 #[.int .i64 a0, .int .i64 a1] w fun e w' => e = .returned (.bool r) ∧ Below w.heap.size w w' := by
  have HB := Aside0.mk (Below.refl w.heap.size w)
  have H : ((watchwordlaw3_awake.f k).bind fun t166 => (if t166 = true then ((slot_Put.f ((IntKind.u64.wrap (a0)) % 4294967296)).bind fun bt167 => ((slot_Put.f ((IntKind.u64.wrap (a1)) % 4294967296)).bind fun bt169 => ((slot_Get.f k bt167.1).bind fun bt171 => ((watchwordlaw0_Num.f bt167.2).bind fun t173 => (if t173 = 0 then ((watchwordlaw0_Num.f bt169.2).bind fun t174 => (if t174 = 0 then ((watchwordlaw0_Num.f bt171.2).bind fun t175 => (if t175 = 0 then (if bt171.1 = ((IntKind.u64.wrap (a0)) % 4294967296) then (some ((bt167.1.toList == bt169.1.toList) == (((IntKind.u64.wrap (a0)) % 4294967296) == ((IntKind.u64.wrap (a1)) % 4294967296)))) else (some false)) else (some false))) else (some false))) else (some false)))))) else (some false))) = some r := h
  clear h
  replace H := Option.bind_eq_some_iff.mp H
  obtain ⟨t166, A30, H⟩ := H
  replace H : (if t166 = true then ((slot_Put.f ((IntKind.u64.wrap (a0)) % 4294967296)).bind fun bt167 => ((slot_Put.f ((IntKind.u64.wrap (a1)) % 4294967296)).bind fun bt169 => ((slot_Get.f k bt167.1).bind fun bt171 => ((watchwordlaw0_Num.f bt167.2).bind fun t173 => (if t173 = 0 then ((watchwordlaw0_Num.f bt169.2).bind fun t174 => (if t174 = 0 then ((watchwordlaw0_Num.f bt171.2).bind fun t175 => (if t175 = 0 then (if bt171.1 = ((IntKind.u64.wrap (a0)) % 4294967296) then (some ((bt167.1.toList == bt169.1.toList) == (((IntKind.u64.wrap (a0)) % 4294967296) == ((IntKind.u64.wrap (a1)) % 4294967296)))) else (some false)) else (some false))) else (some false))) else (some false)))))) else (some false)) = some r := H
  have A3 := Aside0.mk A30
  clear A30
  by_cases c4 : t166 = true
  · subst c4
    have H1 : ((slot_Put.f ((IntKind.u64.wrap (a0)) % 4294967296)).bind fun bt167 => ((slot_Put.f ((IntKind.u64.wrap (a1)) % 4294967296)).bind fun bt169 => ((slot_Get.f k bt167.1).bind fun bt171 => ((watchwordlaw0_Num.f bt167.2).bind fun t173 => (if t173 = 0 then ((watchwordlaw0_Num.f bt169.2).bind fun t174 => (if t174 = 0 then ((watchwordlaw0_Num.f bt171.2).bind fun t175 => (if t175 = 0 then (if bt171.1 = ((IntKind.u64.wrap (a0)) % 4294967296) then (some ((bt167.1.toList == bt169.1.toList) == (((IntKind.u64.wrap (a0)) % 4294967296) == ((IntKind.u64.wrap (a1)) % 4294967296)))) else (some false)) else (some false))) else (some false))) else (some false)))))) = some r := by rw [if_pos rfl] at H; exact H
    clear H
    have H := H1
    clear H1
    replace H := Option.bind_eq_some_iff.mp H
    obtain ⟨⟨t167, t168⟩, A50, H⟩ := H
    replace H : ((slot_Put.f ((IntKind.u64.wrap (a1)) % 4294967296)).bind fun bt169 => ((slot_Get.f k t167).bind fun bt171 => ((watchwordlaw0_Num.f t168).bind fun t173 => (if t173 = 0 then ((watchwordlaw0_Num.f bt169.2).bind fun t174 => (if t174 = 0 then ((watchwordlaw0_Num.f bt171.2).bind fun t175 => (if t175 = 0 then (if bt171.1 = ((IntKind.u64.wrap (a0)) % 4294967296) then (some ((t167.toList == bt169.1.toList) == (((IntKind.u64.wrap (a0)) % 4294967296) == ((IntKind.u64.wrap (a1)) % 4294967296)))) else (some false)) else (some false))) else (some false))) else (some false))))) = some r := H
    have A5 := Aside0.mk A50
    clear A50
    replace H := Option.bind_eq_some_iff.mp H
    obtain ⟨⟨t169, t170⟩, A60, H⟩ := H
    replace H : ((slot_Get.f k t167).bind fun bt171 => ((watchwordlaw0_Num.f t168).bind fun t173 => (if t173 = 0 then ((watchwordlaw0_Num.f t170).bind fun t174 => (if t174 = 0 then ((watchwordlaw0_Num.f bt171.2).bind fun t175 => (if t175 = 0 then (if bt171.1 = ((IntKind.u64.wrap (a0)) % 4294967296) then (some ((t167.toList == t169.toList) == (((IntKind.u64.wrap (a0)) % 4294967296) == ((IntKind.u64.wrap (a1)) % 4294967296)))) else (some false)) else (some false))) else (some false))) else (some false)))) = some r := H
    have A6 := Aside0.mk A60
    clear A60
    replace H := Option.bind_eq_some_iff.mp H
    obtain ⟨⟨t171, t172⟩, A70, H⟩ := H
    replace H : ((watchwordlaw0_Num.f t168).bind fun t173 => (if t173 = 0 then ((watchwordlaw0_Num.f t170).bind fun t174 => (if t174 = 0 then ((watchwordlaw0_Num.f t172).bind fun t175 => (if t175 = 0 then (if t171 = ((IntKind.u64.wrap (a0)) % 4294967296) then (some ((t167.toList == t169.toList) == (((IntKind.u64.wrap (a0)) % 4294967296) == ((IntKind.u64.wrap (a1)) % 4294967296)))) else (some false)) else (some false))) else (some false))) else (some false))) = some r := H
    have A7 := Aside0.mk A70
    clear A70
    replace H := Option.bind_eq_some_iff.mp H
    obtain ⟨t173, A80, H⟩ := H
    replace H : (if t173 = 0 then ((watchwordlaw0_Num.f t170).bind fun t174 => (if t174 = 0 then ((watchwordlaw0_Num.f t172).bind fun t175 => (if t175 = 0 then (if t171 = ((IntKind.u64.wrap (a0)) % 4294967296) then (some ((t167.toList == t169.toList) == (((IntKind.u64.wrap (a0)) % 4294967296) == ((IntKind.u64.wrap (a1)) % 4294967296)))) else (some false)) else (some false))) else (some false))) else (some false)) = some r := H
    have A8 := Aside0.mk A80
    clear A80
    by_cases c9 : t173 = 0
    · rw [if_pos c9] at H
      have c9b0 : (t173 == 0) = true := beq_iff_eq.mpr c9
      have c9b1 : (t173 != 0) = false := bne_eq_false_iff_eq.mpr c9
      clear c9
      replace H := Option.bind_eq_some_iff.mp H
      obtain ⟨t174, A100, H⟩ := H
      replace H : (if t174 = 0 then ((watchwordlaw0_Num.f t172).bind fun t175 => (if t175 = 0 then (if t171 = ((IntKind.u64.wrap (a0)) % 4294967296) then (some ((t167.toList == t169.toList) == (((IntKind.u64.wrap (a0)) % 4294967296) == ((IntKind.u64.wrap (a1)) % 4294967296)))) else (some false)) else (some false))) else (some false)) = some r := H
      have A10 := Aside0.mk A100
      clear A100
      by_cases c11 : t174 = 0
      · rw [if_pos c11] at H
        have c11b0 : (t174 == 0) = true := beq_iff_eq.mpr c11
        have c11b1 : (t174 != 0) = false := bne_eq_false_iff_eq.mpr c11
        clear c11
        replace H := Option.bind_eq_some_iff.mp H
        obtain ⟨t175, A120, H⟩ := H
        replace H : (if t175 = 0 then (if t171 = ((IntKind.u64.wrap (a0)) % 4294967296) then (some ((t167.toList == t169.toList) == (((IntKind.u64.wrap (a0)) % 4294967296) == ((IntKind.u64.wrap (a1)) % 4294967296)))) else (some false)) else (some false)) = some r := H
        have A12 := Aside0.mk A120
        clear A120
        by_cases c13 : t175 = 0
        · rw [if_pos c13] at H
          have c13b0 : (t175 == 0) = true := beq_iff_eq.mpr c13
          have c13b1 : (t175 != 0) = false := bne_eq_false_iff_eq.mpr c13
          clear c13
          by_cases c14 : t171 = ((IntKind.u64.wrap (a0)) % 4294967296)
          · rw [if_pos c14] at H
            have c14b0 : (t171 == ((IntKind.u64.wrap (a0)) % 4294967296)) = true := beq_iff_eq.mpr c14
            have c14b1 : (t171 != ((IntKind.u64.wrap (a0)) % 4294967296)) = false := bne_eq_false_iff_eq.mpr c14
            clear c14
            obtain rfl := Option.some.inj H
            go_enter Try.func6, Try.ntmps6
            go_wp2_with (first | ((with_reducible refine gate_callee (f := 20) rfl ?_); refine goesL_ (some 13) rfl rfl Try.func20 (by kernel_rfl) rfl #[] rfl (by (try simp only [List.map_toArray, List.map_cons, List.map_nil]); first | done | rfl | (simp only [List.length_drop, List.length_take]; rfl)) ?_; (with_reducible refine (watchwordlaw3_awake.calls k  true rfl _ A3.out).mono ?_); rintro e w15 ⟨rfl, hb⟩; refine ⟨_, rfl, ?_⟩; have n0_ := Aside0.mk (below_step (by repeat (first | (with_reducible first | exact HB.out | apply below_alloc | apply pw_below_drewN | apply below_drew1) | exact HB.out)) hb); clear HB; have HB := n0_; clear n0_; (try clear hb); (try clear hb2); (try clear hk); (try clear hi)) | ((with_reducible refine gate_callee (f := 13) rfl ?_); refine goesL_ (some 25) rfl rfl Try.func13 (by kernel_rfl) rfl #[.int .i64 ((IntKind.u64.wrap (a0)) % 4294967296)] rfl (by (try simp only [List.map_toArray, List.map_cons, List.map_nil]); first | done | rfl | (simp only [List.length_drop, List.length_take]; rfl)) ?_; (with_reducible refine (slot_Put.calls ((IntKind.u64.wrap (a0)) % 4294967296) t167 t168 _ A5.out).mono ?_); rintro e w16 ⟨rfl, hb⟩; refine ⟨_, rfl, ?_⟩; have n0_ := Aside0.mk (below_step (by repeat (first | (with_reducible first | exact HB.out | apply below_alloc | apply pw_below_drewN | apply below_drew1) | exact HB.out)) hb); clear HB; have HB := n0_; clear n0_; (try clear hb); (try clear hb2); (try clear hk); (try clear hi)) | ((with_reducible refine gate_callee (f := 13) rfl ?_); refine goesL_ (some 30) rfl rfl Try.func13 (by kernel_rfl) rfl #[.int .i64 ((IntKind.u64.wrap (a1)) % 4294967296)] rfl (by (try simp only [List.map_toArray, List.map_cons, List.map_nil]); first | done | rfl | (simp only [List.length_drop, List.length_take]; rfl)) ?_; (with_reducible refine (slot_Put.calls ((IntKind.u64.wrap (a1)) % 4294967296) t169 t170 _ A6.out).mono ?_); rintro e w17 ⟨rfl, hb⟩; refine ⟨_, rfl, ?_⟩; have n0_ := Aside0.mk (below_step (by repeat (first | (with_reducible first | exact HB.out | apply below_alloc | apply pw_below_drewN | apply below_drew1) | exact HB.out)) hb); clear HB; have HB := n0_; clear n0_; (try clear hb); (try clear hb2); (try clear hk); (try clear hi)) | ((with_reducible refine gate_callee (f := 15) rfl ?_); refine goesL_ (some 35) rfl rfl Try.func15 (by kernel_rfl) rfl #[.string t167] rfl (by (try simp only [List.map_toArray, List.map_cons, List.map_nil]); first | done | rfl | (simp only [List.length_drop, List.length_take]; rfl)) ?_; (with_reducible refine (slot_Get.calls k t167 t171 t172 _ A7.out).mono ?_); rintro e w18 ⟨rfl, hb⟩; refine ⟨_, rfl, ?_⟩; have n0_ := Aside0.mk (below_step (by repeat (first | (with_reducible first | exact HB.out | apply below_alloc | apply pw_below_drewN | apply below_drew1) | exact HB.out)) hb); clear HB; have HB := n0_; clear n0_; (try clear hb); (try clear hb2); (try clear hk); (try clear hi)) | ((with_reducible refine gate_callee (f := 19) rfl ?_); refine goesL_ (some 39) rfl rfl Try.func19 (by kernel_rfl) rfl #[.int .i64 t168] rfl (by (try simp only [List.map_toArray, List.map_cons, List.map_nil]); first | done | rfl | (simp only [List.length_drop, List.length_take]; rfl)) ?_; (with_reducible refine (watchwordlaw0_Num.calls t168 t173 _ A8.out).mono ?_); rintro e w' ⟨rfl, ⟨nd, rfl⟩⟩; refine ⟨_, rfl, ?_⟩) | (go_at_call 19; (with_reducible refine (watchwordlaw0_Num.calls t170 t174 _ A10.out).mono ?_); rintro e w' ⟨rfl, ⟨nd, rfl⟩⟩) | (go_at_call 19; (with_reducible refine (watchwordlaw0_Num.calls t172 t175 _ A12.out).mono ?_); rintro e w' ⟨rfl, ⟨nd, rfl⟩⟩))
            go_ret
            exact ⟨by first | rfl | (simp [errW_none, errW_some] <;> rfl) | (simp [*, errW_none, errW_some] <;> rfl), by repeat (first | (with_reducible first | exact HB.out | apply below_alloc | apply pw_below_drewN | apply below_drew1) | exact HB.out)⟩
          · rw [if_neg c14] at H
            exact absurd (Option.some.inj H) (by rw [hr]; decide)
        · rw [if_neg c13] at H
          exact absurd (Option.some.inj H) (by rw [hr]; decide)
      · rw [if_neg c11] at H
        exact absurd (Option.some.inj H) (by rw [hr]; decide)
    · rw [if_neg c9] at H
      exact absurd (Option.some.inj H) (by rw [hr]; decide)
  · replace c4 := Bool.eq_false_iff.mpr c4
    subst c4
    have H1 : (some false) = some r := by rw [if_neg (show ¬ (false = true) by decide)] at H; exact H
    exact absurd (Option.some.inj H1) (by rw [hr]; decide)
/-- THE ONE PURE STATEMENT of watchwordlaw3_SlotBack: yours. -/
def watchwordlaw3_SlotBack.Pure : Prop := ∀ (a0 : Int) (a1 : Int), (Lit.int .i64 a0).wf = true → (Lit.int .i64 a1).wf = true → ∃ k, watchwordlaw3_SlotBack.f k a0 a1 = some true
theorem watchwordlaw3_SlotBack.walk (P : watchwordlaw3_SlotBack.Pure) (a0 : Int) (a1 : Int) (w : World) (w0 : (Lit.int .i64 a0).wf = true) (w1 : (Lit.int .i64 a1).wf = true) :
    Calls Try.prog 6 #[.int .i64 a0, .int .i64 a1] w fun e w' => e = .returned (.bool true) ∧ Below w.heap.size w w' := by
  obtain ⟨k, h⟩ := P a0 a1 w0 w1
  refine (watchwordlaw3_SlotBack.calls k a0 a1 true rfl w h).mono ?_
  rintro e w' ⟨rfl, hd⟩
  exact ⟨rfl, hd⟩

end Go.Proofs.Ytjcmjfabadlbjaa.PS3
