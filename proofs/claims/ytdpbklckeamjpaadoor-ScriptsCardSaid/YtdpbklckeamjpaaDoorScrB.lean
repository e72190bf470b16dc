/- Which acts may be: May, step by step. -/
import Derived.Test.YtdpbklckeamjpaaDoorScrA
namespace Go.Proofs.YtdpbklckeamjpaaDoor.Scr
open Go.RowKit Go.Proofs.YtdpbklckeamjpaaDoorW.PrintWords Go.Proofs.YtdpbklckeamjpaaDoorW.PrintLast Go.Proofs.YtdpbklckeamjpaaDoorW.PrintMore Go.Proofs.YtdpbklckeamjpaaDoor.PScripts

def val36 (a : S36) : Value := .agg #[.int .i64 a.f0, .int .i64 a.f1, .int .i64 a.f2, .int .i64 a.f3, .int .i64 a.f4, .string a.f5, .int .i64 a.f6.f0, .string a.f6.f1, .int .i64 a.f6.f2, .int .i64 a.f6.f3, .int .i64 a.f6.f4, .int .i64 a.f6.f5]

/-- The zero key? -/
def noKeyB (k : S34) : Bool := (k.f0 == 0 && (k.f1.toList.isEmpty && (k.f2 == 0 && (k.f3 == 0 && (k.f4 == 0 && k.f5 == 0)))))
/-- May an act be? -/
def mayB (a : S36) : Bool :=
  (upB a.f0 8 && upB a.f1 4 && upB a.f2 4 && upB a.f3 64 && upB a.f4 65535) && ((noKeyB a.f6 || hasF a.f0 107) && (!(a.f0 == 7) || keyB a.f6)) && decide ((a.f5.size : Int) ≤ 556) &&
    ((a.f1 == 0) || hasF a.f0 102) && ((a.f2 == 0) || hasF a.f0 116) && ((a.f3 == 0) || hasF a.f0 97) && ((a.f4 == 0) || hasF a.f0 99) && (a.f5.toList.isEmpty || hasF a.f0 120)

attribute [local go_sem high] eqA34
set_option maxHeartbeats 8000000 in
set_option maxRecDepth 100000 in
theorem may_calls (a : S36) (w : World) : Calls Tryd.prog 13 #[val36 a] w fun e w' => e = .returned (.bool (mayB a)) ∧ Below w.heap.size w w' := by
  unfold val36
  have g0 := fun w => from0_calls a.f0 8 w
  have g1 := fun w => from0_calls a.f1 4 w
  have g2 := fun w => from0_calls a.f2 4 w
  have g3 := fun w => from0_calls a.f3 64 w
  have g4 := fun w => from0_calls a.f4 65535 w
  have g5 := fun w => key_calls a.f6 w
  unfold val34 at g5
  have q0 := has_calls 107 (noKeyB a.f6) w.heap.size a.f0
  have q1 := has_calls 102 (a.f1 == 0) w.heap.size a.f0
  have q2 := has_calls 116 (a.f2 == 0) w.heap.size a.f0
  have q3 := has_calls 97 (a.f3 == 0) w.heap.size a.f0
  have q4 := has_calls 99 (a.f4 == 0) w.heap.size a.f0
  have q5 := has_calls 120 (a.f5.toList.isEmpty) w.heap.size a.f0
  unfold mayB
  generalize (noKeyB a.f6 || hasF a.f0 107) = h0 at *
  generalize ((a.f1 == 0) || hasF a.f0 102) = h1 at *
  generalize ((a.f2 == 0) || hasF a.f0 116) = h2 at *
  generalize ((a.f3 == 0) || hasF a.f0 97) = h3 at *
  generalize ((a.f4 == 0) || hasF a.f0 99) = h4 at *
  generalize (a.f5.toList.isEmpty || hasF a.f0 120) = h5 at *
  unfold noKeyB at q0
  obtain ⟨b7, hb7⟩ : ∃ b, (a.f0 == 7) = b := ⟨_, rfl⟩
  rw [hb7]
  replace q0 := Aside0.mk q0
  replace q1 := Aside0.mk q1
  replace q2 := Aside0.mk q2
  replace q3 := Aside0.mk q3
  replace q4 := Aside0.mk q4
  replace q5 := Aside0.mk q5
  generalize upB a.f0 8 = b0 at *
  generalize upB a.f1 4 = b1 at *
  generalize upB a.f2 4 = b2 at *
  generalize upB a.f3 64 = b3 at *
  generalize upB a.f4 65535 = b4 at *
  generalize keyB a.f6 = b5 at *
  replace g0 := Aside0.mk g0
  replace g1 := Aside0.mk g1
  replace g2 := Aside0.mk g2
  replace g3 := Aside0.mk g3
  replace g4 := Aside0.mk g4
  replace g5 := Aside0.mk g5
  have hmf : ∀ (fn : Fn) (first cap : Array Value) (w : World), (Instr.makeFunc fn first cap).run Tryd.prog w = .ok (.func fn first cap) w := fun _ _ _ _ => rfl
  go_enter Tryd.func13, Tryd.ntmps13
  go_wp2_with (first
    | (go_at_call 25; first
        | ((with_reducible refine (g0.out _).mono ?_); rintro e w1 ⟨rfl, ⟨n0, rfl⟩⟩)
        | ((with_reducible refine (g1.out _).mono ?_); rintro e w1 ⟨rfl, ⟨n1, rfl⟩⟩)
        | ((with_reducible refine (g2.out _).mono ?_); rintro e w1 ⟨rfl, ⟨n2, rfl⟩⟩)
        | ((with_reducible refine (g3.out _).mono ?_); rintro e w1 ⟨rfl, ⟨n3, rfl⟩⟩)
        | ((with_reducible refine (g4.out _).mono ?_); rintro e w1 ⟨rfl, ⟨n4, rfl⟩⟩))
    | (go_at_call 26; (with_reducible refine (g5.out _).mono ?_); rintro e w1 ⟨rfl, ⟨n11, rfl⟩⟩)
    | (go_at_call 22; first
        | ((with_reducible refine (q0.out _ (by go_simp)).mono ?_); rintro e w1 ⟨rfl, ⟨n5, rfl⟩⟩)
        | ((with_reducible refine (q1.out _ (by go_simp)).mono ?_); rintro e w1 ⟨rfl, ⟨n6, rfl⟩⟩)
        | ((with_reducible refine (q2.out _ (by go_simp)).mono ?_); rintro e w1 ⟨rfl, ⟨n7, rfl⟩⟩)
        | ((with_reducible refine (q3.out _ (by go_simp)).mono ?_); rintro e w1 ⟨rfl, ⟨n8, rfl⟩⟩)
        | ((with_reducible refine (q4.out _ (by go_simp)).mono ?_); rintro e w1 ⟨rfl, ⟨n9, rfl⟩⟩)
        | ((with_reducible refine (q5.out _ (by go_simp)).mono ?_); rintro e w1 ⟨rfl, ⟨n10, rfl⟩⟩)))
  all_goals
    clear q0 q1 q2 q3 q4 q5 g0 g1 g2 g3 g4 g5
    go_ret
    refine ⟨?_, ?_⟩
    · first | (simp [*]; done) | (subst hb7; simp_all; done) | (subst hb7; simp_all; intro hh; omega)
    · repeat (first | exact Below.refl _ _ | apply below_drew | apply pw_below_drewN | apply below_alloc)

end Go.Proofs.YtdpbklckeamjpaaDoor.Scr
