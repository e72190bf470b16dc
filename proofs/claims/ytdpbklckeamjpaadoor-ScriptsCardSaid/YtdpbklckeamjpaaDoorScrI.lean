/- The package's Show, step by step. -/
import Derived.Test.YtdpbklckeamjpaaDoorScrH
namespace Go.Proofs.YtdpbklckeamjpaaDoor.Scr
open Go.RowKit Go.Proofs.YtdpbklckeamjpaaDoorW.PrintWords Go.Proofs.YtdpbklckeamjpaaDoorW.PrintLast Go.Proofs.YtdpbklckeamjpaaDoorW.PrintMore Go.Proofs.YtdpbklckeamjpaaDoor.PScripts

theorem tell_new (W : World) : Tell W (W.alloc (.cells #[.pointer none, .slice none 0 0] 50)) W.heap.size [] :=
  ⟨_, _, .inl rfl, heap_alloc_new W _, World.ownsRow_nil _ _ _ _, Nat.le_refl _, below_alloc (Below.refl _ _) _⟩

/-- What holds at a round's head. -/
def ShowAt (W : World) (b : Nat) (ac : List S36) (gk : Nat) (i : Value) (wr : World) : Prop :=
  ∃ k : Nat, i = .int .i64 k ∧ k + gk = ac.length ∧ (∀ a, a ∈ ac.take k → mayB a = true) ∧ Tell W wr b (tellT (ac.take k))

theorem keepS {W W' : World} {ga : Nat} {a : S36} (h : (W.cell? ⟨ga, 5, none⟩ = some (.string a.f5) ∧ W.cell? ⟨ga, 7, none⟩ = some (.string a.f6.f1)) ∧ Aside0 (Box W ga a)) (hb : Below W.heap.size W W') : (W'.cell? ⟨ga, 5, none⟩ = some (.string a.f5) ∧ W'.cell? ⟨ga, 7, none⟩ = some (.string a.f6.f1)) ∧ Aside0 (Box W' ga a) :=
  ⟨⟨((h.2.out.below hb).cell 5).trans rfl, ((h.2.out.below hb).cell 7).trans rfl⟩, ⟨h.2.out.below hb⟩⟩
theorem keepS5 {W W' : World} {b ga : Nat} {a : S36} (h : (W.cell? ⟨ga, 5, none⟩ = some (.string a.f5) ∧ W.cell? ⟨ga, 7, none⟩ = some (.string a.f6.f1)) ∧ Aside0 (Box W ga a)) (hk : Kept5 b W W') (hne : ga ≠ b) : (W'.cell? ⟨ga, 5, none⟩ = some (.string a.f5) ∧ W'.cell? ⟨ga, 7, none⟩ = some (.string a.f6.f1)) ∧ Aside0 (Box W' ga a) :=
  ⟨⟨((h.2.out.kept5 hk hne).cell 5).trans rfl, ((h.2.out.kept5 hk hne).cell 7).trans rfl⟩, ⟨h.2.out.kept5 hk hne⟩⟩

theorem Box.S {W : World} {ga : Nat} {a : S36} (h : Box W ga a) : (W.cell? ⟨ga, 5, none⟩ = some (.string a.f5) ∧ W.cell? ⟨ga, 7, none⟩ = some (.string a.f6.f1)) ∧ Aside0 (Box W ga a) := ⟨⟨(h.cell 5).trans rfl, (h.cell 7).trans rfl⟩, ⟨h⟩⟩
theorem Tell.lt {w0 W : World} {b : Nat} {l : List UInt8} (h : Tell w0 W b l) : b < W.heap.size := by
  obtain ⟨p, v, h1, h2, h3⟩ := h
  exact (Array.getElem?_eq_some_iff.1 h2).1

theorem may_box (a : S36) (w : World) : Calls Tryd.prog 13 #[.agg #[.int .i64 a.f0, .int .i64 a.f1, .int .i64 a.f2, .int .i64 a.f3, .int .i64 a.f4, .string a.f5, .int .i64 a.f6.f0, .string a.f6.f1, .int .i64 a.f6.f2, .int .i64 a.f6.f3, .int .i64 a.f6.f4, .int .i64 a.f6.f5]] w fun e w' => e = .returned (.bool (mayB a)) ∧ Below w.heap.size w w' := may_calls a w

set_option maxHeartbeats 8000000 in
set_option maxRecDepth 100000 in
theorem show_walk (W : World) (A : Option Addr) (ac : List S36) (cap : Nat) (hv : Vars W) (hC : Kd.C k36 W A ac.length ac) (hl : ac.length ≤ 256) :
    Calls Tryd.prog 9 #[.slice A ac.length cap] W fun e W' => e = .returned (.tuple #[.string (showF ac).1, .int .i64 (showF ac).2]) ∧ Below W.heap.size W W' := by
  have d0 : decide ((256 : Int) < (ac.length : Int)) = false := decide_eq_false (by omega)
  replace hv := Aside0.mk hv
  replace hC := Aside0.mk hC
  go_enter Tryd.func9, Tryd.ntmps9
  go_wp2_with fail
  have hstart : Aside0 (ShowAt W W.heap.size ac ac.length (.int .i64 0) (W.alloc (.cells #[.pointer none, .slice none 0 0] 50))) := ⟨0, rfl, by omega, by simp, by simpa [tellT] using tell_new W⟩
  generalize W.alloc (.cells #[.pointer none, .slice none 0 0] 50) = W1 at *
  obtain ⟨b, hb⟩ : ∃ b, b = W.heap.size := ⟨_, rfl⟩
  rw [← hb] at hstart ⊢
  replace hb := Aside0.mk hb
  go_loopg [12] ac.length (fun gk i wr => ShowAt W b ac gk i wr)
  case atStart => exact hstart.out
  case round =>
    clear hstart
    obtain ⟨k, rfl, hk, hM, hT⟩ := hrel
    by_cases hlt : k < ac.length
    · have d1 : decide ((k : Int) < (ac.length : Int)) = true := decide_eq_true (by omega)
      have k0 : (0 : Int) ≤ (k : Int) := by omega
      have k1 : (k : Int) < (ac.length : Int) := by omega
      have kw : IntKind.i64.wrap ((k : Int) + 1) = ((k + 1 : Nat) : Int) := by rw [IntKind.wrap_i64]; omega
      obtain ⟨gk', rfl⟩ : ∃ gk', gk = gk' + 1 := ⟨gk - 1, by omega⟩
      obtain ⟨ad, rfl, c0, c1, c2, c3, c4, c5, c6, c7, c8, c9, c10, c11⟩ := at_T36 (Kd.C_below hC.out hT.base) (k : Int) k0 k1
      rw [Int.toNat_natCast] at c0 c1 c2 c3 c4 c5 c6 c7 c8 c9 c10 c11
      have htake : ac.take (k + 1) = ac.take k ++ [rd_T36 ac k] := by
        rw [List.take_succ_eq_append_getElem hlt]
        simp [rd_T36, hlt]
      generalize rd_T36 ac (k : Int) = a at *
      replace hM := Aside0.mk hM
      replace hT := Aside0.mk hT
      replace htake := Aside0.mk htake
      by_cases hm : mayB a = true
      · go_wp2_with (go_at_call 13; (with_reducible refine (may_box a _).mono ?_); rintro e w1 ⟨rfl, hb1⟩)
        have hX := Aside0.mk ((Box.new wr a).below hb1)
        have hT1 := Aside0.mk ((hT.out.below (below_alloc (Below.refl _ _) _)).below hb1)
        have hne : Aside0 (wr.heap.size ≠ b) := ⟨by have := hT.out.lt; omega⟩
        have hln0 := tellT_length hM.out
        have hlen : Aside0 ((tellT (ac.take k)).length ≤ 900000000) := ⟨by rw [List.length_take] at hln0; omega⟩
        have hlen2 : Aside0 ((tellT (ac.take k) ++ rowT (nums5 a) a.f5).length ≤ 900000000) := ⟨by
          have e1 := rowT_length (in64_of (by omega) (may_bounds hm).1) a.f5 (by have := (may_bounds hm).2.1; omega)
          have e2 := (may_bounds hm).2.1
          rw [List.length_append]
          rw [List.length_take] at hln0
          omega⟩
        have hM2 : Aside0 (∀ x, x ∈ ac.take (k + 1) → mayB x = true) := ⟨fun x hx => by
          rw [htake.out] at hx
          rcases List.mem_append.1 hx with h | h
          · exact hM.out x h
          · rw [List.mem_singleton.1 h]
            exact hm⟩
        have htk : Aside0 (tellT (ac.take (k + 1)) = tellT (ac.take k) ++ tell1 a) := ⟨by rw [htake.out, tellT_snoc]⟩
        replace hm := Aside0.mk hm
        clear hln0 hT hb1 c0 c1 c2 c3 c4 c5 c6 c7 c8 c9 c10 c11
        generalize wr.heap.size = ga at *
        go_region_held3 (fun W' => (W'.cell? ⟨ga, 5, none⟩ = some (.string a.f5) ∧ W'.cell? ⟨ga, 7, none⟩ = some (.string a.f6.f1)) ∧ Aside0 (Box W' ga a))
          (first | assumption | exact keepS (by assumption) hb2 | exact keepS5 (by assumption) hk2 hne.out | exact (hX.out.below (below_drew (Below.refl _ _))).S | exact hX.out.S)
          (first
            | (go_at_call 18; (with_reducible refine (numbers_calls _ ga).mono ?_); rintro e w2 ⟨gx2, rfl, hR2, hgx2, hb2⟩; have hU2 := Aside0.mk ((hT1.out.below (below_drew (Below.refl _ _))).below hb2); have hV2 := Aside0.mk ((hX.out.below (below_drew (Below.refl _ _))).below hb2); have hg2 : Aside0 (gx2 ≠ b) := ⟨fun e => by have := (hT1.out.below (below_drew (Below.refl _ _))).lt; omega⟩; replace hR2 := Aside0.mk hR2; clear hgx2)
            | (go_at_call 17; (with_reducible refine (row_nums hv.out hU2.out hlen.out ga gx2 a hne.out hg2.out hV2.out hm.out hR2.out).mono ?_); rintro e y2 ⟨rfl, hT2, hk2⟩; have hZ2 := Aside0.mk (hV2.out.kept5 hk2 hne.out); replace hT2 := Aside0.mk hT2; clear hU2 hV2 hR2 hg2))
        rename_i hHeld
        clear hHeld hb2 hk2 hT1 hX
        have z0 := (hZ2.out.cell 0).trans rfl
        replace z0 : y2.cell? ⟨ga, 0, none⟩ = some (.int .i64 a.f0) := z0
        by_cases h7 : a.f0 = 7
        · have d7 : (a.f0 == 7) = true := beq_iff_eq.mpr h7
          have ht1 : Aside0 (tellT (ac.take k) ++ rowT (nums5 a) a.f5 ++ rowT (keys5 a.f6) a.f6.f1 = tellT (ac.take (k + 1))) := ⟨by rw [htk.out]; unfold tell1; rw [if_pos h7, List.append_assoc]⟩
          replace h7 := Aside0.mk h7
          go_wp2_with fail
          clear z0
          go_region_held3 (fun W' => (W'.cell? ⟨ga, 5, none⟩ = some (.string a.f5) ∧ W'.cell? ⟨ga, 7, none⟩ = some (.string a.f6.f1)) ∧ Aside0 (Box W' ga a))
            (first | assumption | exact keepS (by assumption) hb3 | exact keepS5 (by assumption) hk3 hne.out | exact (hZ2.out.below (below_drew (Below.refl _ _))).S | exact hZ2.out.S)
            (first
              | (go_at_call 19; (with_reducible refine (times_calls _ ga).mono ?_); rintro e w3 ⟨gx3, rfl, hR3, hgx3, hb3⟩; have hU3 := Aside0.mk ((hT2.out.below (below_drew (Below.refl _ _))).below hb3); have hV3 := Aside0.mk ((hZ2.out.below (below_drew (Below.refl _ _))).below hb3); have hg3 : Aside0 (gx3 ≠ b) := ⟨fun e => by have := (hT2.out.below (below_drew (Below.refl _ _))).lt; omega⟩; replace hR3 := Aside0.mk hR3; clear hgx3)
              | (go_at_call 17; (with_reducible refine (row_keys hv.out hU3.out hlen2.out ga gx3 a hne.out hg3.out hV3.out hm.out h7.out hR3.out).mono ?_); rintro e y3 ⟨rfl, hT3, hk3⟩; have hZ3 := Aside0.mk (hV3.out.kept5 hk3 hne.out); replace hT3 := Aside0.mk hT3; clear hU3 hV3 hR3 hg3))
          rename_i hHeld
          clear hHeld hb3 hk3 hT2 hZ2
          have hT4 := hT3.out
          rw [ht1.out] at hT4
          replace hT4 := Aside0.mk hT4
          clear hT3 hZ3
          go_wp2_with fail
          go_roundg gk'
          case measure => exact Nat.lt_succ_self _
          case rel => exact ⟨k + 1, rfl, by omega, hM2.out, hT4.out⟩
        · have d7 : (a.f0 == 7) = false := beq_eq_false_iff_ne.mpr h7
          have hT4 := hT2.out
          rw [show tellT (ac.take k) ++ rowT (nums5 a) a.f5 = tellT (ac.take (k + 1)) by (rw [htk.out]; unfold tell1; rw [if_neg h7, List.append_nil])] at hT4
          replace hT4 := Aside0.mk hT4
          replace h7 := Aside0.mk h7
          clear hT2
          go_wp2_with fail
          go_roundg gk'
          case measure => exact Nat.lt_succ_self _
          case rel => exact ⟨k + 1, rfl, by omega, hM2.out, hT4.out⟩
      · have hm2 : mayB a = false := Bool.eq_false_iff.2 hm
        have hno : (showF ac) = (⟨#[]⟩, 2300) := by
          have : okB ac = false := by
            unfold okB
            rw [Bool.and_eq_false_iff]
            refine .inr (Bool.eq_false_iff.2 fun h => hm (List.all_eq_true.1 h a ?_))
            have : a ∈ ac.take (k + 1) := by rw [htake.out]; simp
            exact List.mem_of_mem_take this
          unfold showF
          rw [this]
          rfl
        replace hno := Aside0.mk hno
        clear hm
        go_wp2_with (go_at_call 13; (with_reducible refine (may_box a _).mono ?_); rintro e w1 ⟨rfl, hb1⟩; have hB := Aside0.mk (((hT.out.below (below_alloc (Below.refl _ _) _)).below hb1).base); clear hb1)
        go_ret2
        exact ⟨by rw [hno.out]; rfl, hB.out⟩
    · have d1 : decide ((k : Int) < (ac.length : Int)) = false := decide_eq_false (by omega)
      have hyes : showF ac = (⟨(tellT ac).toArray⟩, 0) := by
        have : okB ac = true := by
          unfold okB
          rw [Bool.and_eq_true]
          refine ⟨decide_eq_true hl, List.all_eq_true.2 fun a ha => hM a ?_⟩
          rwa [List.take_of_length_le (by omega)]
        unfold showF
        rw [if_pos this]
      replace hyes := Aside0.mk hyes
      rw [List.take_of_length_le (by omega)] at hT
      replace hT := Aside0.mk hT
      clear hM
      go_wp2_with (go_at_call 20; (with_reducible refine (string_calls hT.out).mono ?_); rintro e w1 ⟨rfl, hb1⟩; replace hb1 := Aside0.mk hb1)
      go_ret2
      exact ⟨by rw [hyes.out]; rfl, hb1.out⟩

set_option maxHeartbeats 1000000 in
set_option maxRecDepth 100000 in
theorem show_long (W : World) (A : Option Addr) (n cap : Nat) (hl : 256 < n) :
    Calls Tryd.prog 9 #[.slice A n cap] W fun e W' => e = .returned (.tuple #[.string ⟨#[]⟩, .int .i64 2300]) ∧ Below W.heap.size W W' := by
  have d0 : decide ((256 : Int) < (n : Int)) = true := decide_eq_true (by omega)
  go_enter Tryd.func9, Tryd.ntmps9
  go_wp2_with fail
  go_ret2
  exact ⟨rfl, Below.refl _ _⟩

/-- Show: the text, if all may be. -/
theorem show_calls (W : World) (A : Option Addr) (ac : List S36) (cap : Nat) (hv : Vars W) (hC : Kd.C k36 W A ac.length ac) :
    Calls Tryd.prog 9 #[.slice A ac.length cap] W fun e W' => e = .returned (.tuple #[.string (showF ac).1, .int .i64 (showF ac).2]) ∧ Below W.heap.size W W' := by
  by_cases hl : ac.length ≤ 256
  · exact show_walk W A ac cap hv hC hl
  · have : showF ac = (⟨#[]⟩, 2300) := by
      unfold showF okB
      rw [decide_eq_false hl]
      rfl
    rw [this]
    exact show_long W A ac.length cap (by omega)

end Go.Proofs.YtdpbklckeamjpaaDoor.Scr
