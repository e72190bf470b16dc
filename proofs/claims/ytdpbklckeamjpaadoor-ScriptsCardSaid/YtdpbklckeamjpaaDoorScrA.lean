/- Which acts may be: the package's small functions, step by step. -/
import Derived.Test.YtdpbklckeamjpaaDoorPScriptsx5
import Derived.Test.YtdpbklckeamjpaaDoorShelf
import Derived.Deep.RegionHeld3
import Derived.Deep.RegionLaw
import Derived.Deep.LoopGhost
import Derived.WalkKit
namespace Go.Proofs.YtdpbklckeamjpaaDoor.Scr
open Go.RowKit Go.Proofs.YtdpbklckeamjpaaDoorW.PrintWords Go.Proofs.YtdpbklckeamjpaaDoorW.PrintLast Go.Proofs.YtdpbklckeamjpaaDoorW.PrintMore Go.Proofs.YtdpbklckeamjpaaDoor.PScripts

theorem below_step {n : Nat} {w w1 w2 : World} (h : Below n w w1) (h2 : Below w1.heap.size w1 w2) (hn : n ≤ w1.heap.size) : Below n w w2 :=
  ⟨h2.os.trans h.os, h2.tape.trans h.tape, h2.output.trans h.output, Nat.le_trans h.size h2.size, fun k hk => (h2.block k (Nat.lt_of_lt_of_le hk hn)).trans (h.block k hk)⟩

/-- Does a number lie from 0 to m? -/
def upB (x m : Int) : Bool := decide (0 ≤ x) && decide (x ≤ m)

set_option maxHeartbeats 1000000 in
theorem from0_calls (x m : Int) (w : World) : Calls Tryd.prog 25 #[.int .i64 x, .int .i64 m] w fun e w' => e = .returned (.bool (upB x m)) ∧ Drawn0 w w' := by
  unfold upB
  by_cases h : 0 ≤ x
  · have h1 : decide (0 ≤ x) = true := decide_eq_true h
    rw [h1]
    go_enter Tryd.func25, Tryd.ntmps25
    go_wp2
    go_ret
    exact ⟨by simp, by repeat (first | exact Drawn0.refl _ | apply Drawn0.step)⟩
  · have h1 : decide (0 ≤ x) = false := decide_eq_false h
    rw [h1]
    go_enter Tryd.func25, Tryd.ntmps25
    go_wp2
    go_ret
    exact ⟨by simp, by repeat (first | exact Drawn0.refl _ | apply Drawn0.step)⟩

/-- What kinds name. -/
def namesF (k : Int) : ByteArray :=
  if k = 0 ∨ k = 1 ∨ k = 2 then ⟨#[97]⟩ else if k = 3 then ⟨#[102, 116, 120]⟩ else if k = 5 then ⟨#[116]⟩ else if k = 6 then ⟨#[116, 97]⟩ else if k = 7 then ⟨#[116, 107]⟩ else if k = 8 then ⟨#[102, 116, 99]⟩ else ⟨#[]⟩

set_option maxHeartbeats 4000000 in
set_option maxRecDepth 100000 in
theorem names_calls (k : Int) (w : World) : Calls Tryd.prog 24 #[.int .i64 k] w fun e w' => e = .returned (.string (namesF k)) ∧ w' = w := by
  by_cases h0 : k = 0
  · subst h0; go_enter Tryd.func24, Tryd.ntmps24; go_wp2; go_ret; exact ⟨rfl, rfl⟩
  by_cases h1 : k = 1
  · subst h1; go_enter Tryd.func24, Tryd.ntmps24; go_wp2; go_ret; exact ⟨rfl, rfl⟩
  by_cases h2 : k = 2
  · subst h2; go_enter Tryd.func24, Tryd.ntmps24; go_wp2; go_ret; exact ⟨rfl, rfl⟩
  by_cases h3 : k = 3
  · subst h3; go_enter Tryd.func24, Tryd.ntmps24; go_wp2; go_ret; exact ⟨rfl, rfl⟩
  by_cases h5 : k = 5
  · subst h5; go_enter Tryd.func24, Tryd.ntmps24; go_wp2; go_ret; exact ⟨rfl, rfl⟩
  by_cases h6 : k = 6
  · subst h6; go_enter Tryd.func24, Tryd.ntmps24; go_wp2; go_ret; exact ⟨rfl, rfl⟩
  by_cases h7 : k = 7
  · subst h7; go_enter Tryd.func24, Tryd.ntmps24; go_wp2; go_ret; exact ⟨rfl, rfl⟩
  by_cases h8 : k = 8
  · subst h8; go_enter Tryd.func24, Tryd.ntmps24; go_wp2; go_ret; exact ⟨rfl, rfl⟩
  have e0 : (k == 0) = false := beq_eq_false_iff_ne.mpr h0
  have e1 : (k == 1) = false := beq_eq_false_iff_ne.mpr h1
  have e2 : (k == 2) = false := beq_eq_false_iff_ne.mpr h2
  have e3 : (k == 3) = false := beq_eq_false_iff_ne.mpr h3
  have e5 : (k == 5) = false := beq_eq_false_iff_ne.mpr h5
  have e6 : (k == 6) = false := beq_eq_false_iff_ne.mpr h6
  have e7 : (k == 7) = false := beq_eq_false_iff_ne.mpr h7
  have e8 : (k == 8) = false := beq_eq_false_iff_ne.mpr h8
  have hn : namesF k = ⟨#[]⟩ := by simp [namesF, h0, h1, h2, h3, h5, h6, h7, h8]
  rw [hn]
  clear h0 h1 h2 h3 h5 h6 h7 h8 hn
  go_enter Tryd.func24, Tryd.ntmps24
  go_wp2
  go_ret
  exact ⟨rfl, rfl⟩

/-- Does a kind name c? -/
def hasF (k : Int) (c : UInt8) : Bool := decide (0 ≤ Lib.indexByte (namesF k).data.toList c)

set_option maxHeartbeats 4000000 in
set_option maxRecDepth 100000 in
theorem has_calls (c : UInt8) (none_ : Bool) (g : Nat) (k : Int) (w : World) (hc : w.cell? ⟨g, 0, none⟩ = some (.int .i64 k)) :
    Calls Tryd.prog 22 #[.string ⟨#[c]⟩, .bool none_, .pointer (some ⟨g, 0, none⟩)] w fun e w' => e = .returned (.bool (none_ || hasF k c)) ∧ Drawn0 w w' := by
  cases none_
  · go_enter Tryd.func22, Tryd.ntmps22
    go_wp2_with (first
      | (go_at_call 24; (with_reducible refine (names_calls k _).mono ?_); rintro e w1 ⟨rfl, rfl⟩)
      | (go_at_call 23; (with_reducible refine (Tryd.strings_Contains_one (namesF k) c _).mono ?_); rintro e w2 ⟨rfl, rfl⟩))
    go_ret
    exact ⟨by simp [hasF], by repeat (first | exact Drawn0.refl _ | apply Drawn0.step)⟩
  · go_enter Tryd.func22, Tryd.ntmps22
    go_wp2
    go_ret
    exact ⟨rfl, by repeat (first | exact Drawn0.refl _ | apply Drawn0.step)⟩

set_option maxHeartbeats 1000000 in
theorem id_calls (x : Int) (w : World) : Calls Tryd.prog 38 #[.int .i64 x] w fun e w' => e = .returned (.bool (upB x 255)) ∧ Drawn0 w w' := by
  unfold upB
  by_cases h : 0 ≤ x
  · have h1 : decide (0 ≤ x) = true := decide_eq_true h
    rw [h1]
    go_enter Tryd.func38, Tryd.ntmps38
    go_wp2
    go_ret
    exact ⟨by simp, by repeat (first | exact Drawn0.refl _ | apply Drawn0.step)⟩
  · have h1 : decide (0 ≤ x) = false := decide_eq_false h
    rw [h1]
    go_enter Tryd.func38, Tryd.ntmps38
    go_wp2
    go_ret
    exact ⟨by simp, by repeat (first | exact Drawn0.refl _ | apply Drawn0.step)⟩

set_option maxHeartbeats 1000000 in
theorem now_calls (x : Int) (w : World) : Calls Tryd.prog 40 #[.int .i64 x] w fun e w' => e = .returned (.bool (upB x 1048576)) ∧ Drawn0 w w' := by
  unfold upB
  by_cases h : 0 ≤ x
  · have h1 : decide (0 ≤ x) = true := decide_eq_true h
    rw [h1]
    go_enter Tryd.func40, Tryd.ntmps40
    go_wp2
    go_ret
    exact ⟨by simp, by repeat (first | exact Drawn0.refl _ | apply Drawn0.step)⟩
  · have h1 : decide (0 ≤ x) = false := decide_eq_false h
    rw [h1]
    go_enter Tryd.func40, Tryd.ntmps40
    go_wp2
    go_ret
    exact ⟨by simp, by repeat (first | exact Drawn0.refl _ | apply Drawn0.step)⟩

/-- May a secret be? -/
def secretB (s : ByteArray) : Bool := decide ((1 : Int) ≤ (s.size : Int)) && decide ((s.size : Int) ≤ 32)
set_option maxHeartbeats 1000000 in
theorem secret_calls (s : ByteArray) (w : World) : Calls Tryd.prog 39 #[.string s] w fun e w' => e = .returned (.bool (secretB s)) ∧ Drawn0 w w' := by
  unfold secretB
  by_cases h : (1 : Int) ≤ (s.size : Int)
  · have h1 : decide ((1 : Int) ≤ (s.size : Int)) = true := decide_eq_true h
    rw [h1]
    go_enter Tryd.func39, Tryd.ntmps39
    go_wp2
    go_ret
    exact ⟨by simp, by repeat (first | exact Drawn0.refl _ | apply Drawn0.step)⟩
  · have h1 : decide ((1 : Int) ≤ (s.size : Int)) = false := decide_eq_false h
    rw [h1]
    go_enter Tryd.func39, Tryd.ntmps39
    go_wp2
    go_ret
    exact ⟨by simp, by repeat (first | exact Drawn0.refl _ | apply Drawn0.step)⟩

/-- May a key be? -/
def keyB (k : S34) : Bool := upB k.f0 255 && (secretB k.f1 && (upB k.f2 1048576 && (upB k.f3 1048576 && (upB k.f4 1048576 && upB k.f5 1048576))))
def val34 (k : S34) : Value := .agg #[.int .i64 k.f0, .string k.f1, .int .i64 k.f2, .int .i64 k.f3, .int .i64 k.f4, .int .i64 k.f5]

set_option maxHeartbeats 4000000 in
set_option maxRecDepth 100000 in
theorem key_calls (k : S34) (w : World) : Calls Tryd.prog 26 #[val34 k] w fun e w' => e = .returned (.bool (keyB k)) ∧ Drawn0 (w.alloc (.cells #[.int .i64 k.f0, .string k.f1, .int .i64 k.f2, .int .i64 k.f3, .int .i64 k.f4, .int .i64 k.f5] 34)) w' := by
  unfold val34 keyB
  have g0 := fun w => id_calls k.f0 w
  have g1 := fun w => secret_calls k.f1 w
  have g2 := fun w => now_calls k.f2 w
  have g3 := fun w => now_calls k.f3 w
  have g4 := fun w => now_calls k.f4 w
  have g5 := fun w => now_calls k.f5 w
  generalize upB k.f0 255 = b0 at *
  generalize secretB k.f1 = b1 at *
  generalize upB k.f2 1048576 = b2 at *
  generalize upB k.f3 1048576 = b3 at *
  generalize upB k.f4 1048576 = b4 at *
  generalize upB k.f5 1048576 = b5 at *
  replace g0 := Aside0.mk g0
  replace g1 := Aside0.mk g1
  replace g2 := Aside0.mk g2
  replace g3 := Aside0.mk g3
  replace g4 := Aside0.mk g4
  replace g5 := Aside0.mk g5
  go_enter Tryd.func26, Tryd.ntmps26
  go_wp2_with (first
    | (go_at_call 38; (with_reducible refine (g0.out _).mono ?_); rintro e w1 ⟨rfl, ⟨n0, rfl⟩⟩)
    | (go_at_call 39; (with_reducible refine (g1.out _).mono ?_); rintro e w1 ⟨rfl, ⟨n1, rfl⟩⟩)
    | (go_at_call 40; first
        | ((with_reducible refine (g2.out _).mono ?_); rintro e w1 ⟨rfl, ⟨n2, rfl⟩⟩)
        | ((with_reducible refine (g3.out _).mono ?_); rintro e w1 ⟨rfl, ⟨n3, rfl⟩⟩)
        | ((with_reducible refine (g4.out _).mono ?_); rintro e w1 ⟨rfl, ⟨n4, rfl⟩⟩)
        | ((with_reducible refine (g5.out _).mono ?_); rintro e w1 ⟨rfl, ⟨n5, rfl⟩⟩)))
  all_goals
    go_ret
    exact ⟨by simp [*], by repeat (first | exact ⟨_, rfl⟩ | exact Drawn0.refl _ | apply Drawn0.step)⟩

end Go.Proofs.YtdpbklckeamjpaaDoor.Scr
