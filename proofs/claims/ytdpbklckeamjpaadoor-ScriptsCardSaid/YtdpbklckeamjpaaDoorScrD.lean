/- Which acts may be: the document's ActMay, step by step. -/
import Derived.Test.YtdpbklckeamjpaaDoorScrC
import Derived.BigQuiet
namespace Go.Proofs.YtdpbklckeamjpaaDoor.Scr
open Go.RowKit Go.Proofs.YtdpbklckeamjpaaDoorW.PrintWords Go.Proofs.YtdpbklckeamjpaaDoorW.PrintLast Go.Proofs.YtdpbklckeamjpaaDoorW.PrintMore Go.Proofs.YtdpbklckeamjpaaDoor.PScripts

/-- A world of which p holds. -/
structure Cl (p : World → Prop) where
  W : World
  h : p W
def MayIn (w : World) (b : Nat) (a : S36) (W : World) : Prop := Box W b a ∧ Below w.heap.size w W
theorem Cl.may {w : World} {b : Nat} {a : S36} {x : Cl (MayIn w b a)} {f : FuncId} {args : Array Value} {v : Value} (h : Calls Tryd.prog f args x.W fun e w' => e = .returned v ∧ Below x.W.heap.size x.W w') :
    Calls Tryd.prog f args x.W fun e w'' => e = .returned v ∧ ∃ y : Cl (MayIn w b a), w'' = y.W :=
  h.mono fun _ w' ⟨h1, h2⟩ => ⟨h1, ⟨w', x.h.1.below h2, below_step x.h.2 h2 x.h.2.size⟩, rfl⟩
theorem region_cl {P : Program} {p : World → Prop} {id : Nat} {Q : Exit → Act → World → Prop} {a : Act} {w : World} {l : List Oper} (hm : P.follows .mixedOrders = true) (hB : Region.lexB .any l.toArray = true) (hC : p w.drew)
    (h : wpQuiet P l.toArray (fun w' => ∃ x : Cl p, w' = x.W) (fun a' => ∀ w', (∃ x : Cl p, w' = x.W) → Q .normal a' w') l a) : (Code.region id l.toArray true).wp P Q a w :=
  wp_region_quiet (C := fun w' => ∃ x : Cl p, w' = x.W) hm hB ⟨⟨_, hC⟩, rfl⟩ (by simpa using h)

attribute [local go_sem high] eqA36
set_option maxHeartbeats 8000000 in
set_option maxRecDepth 100000 in
theorem actMay_calls (a : S36) (w : World) : Calls Tryd.prog 16 #[val36 a] w fun e w' => e = .returned (.bool (rmayB a)) ∧ Below w.heap.size w w' := by
  have g0 := fun w => (up_calls a.f0 8 w).mono fun e w' h => And.intro h.1 h.2.below
  have g1 := fun w => (up_calls a.f1 4 w).mono fun e w' h => And.intro h.1 h.2.below
  have g2 := fun w => (up_calls a.f2 4 w).mono fun e w' h => And.intro h.1 h.2.below
  have g3 := fun w => (up_calls a.f3 64 w).mono fun e w' h => And.intro h.1 h.2.below
  have g4 := fun w => (up_calls a.f4 65535 w).mono fun e w' h => And.intro h.1 h.2.below
  have g6 := fun w => keyMay_calls a.f6 w
  have g7 := fun w => named_calls a w
  obtain ⟨b, hb⟩ : ∃ b, b = w.heap.size := ⟨_, rfl⟩
  have x0 : ∀ x : Cl (MayIn w b a), x.W.cell? ⟨b, 0, none⟩ = some (.int .i64 a.f0) := fun x => (x.h.1.cell 0).trans rfl
  have x1 : ∀ x : Cl (MayIn w b a), x.W.cell? ⟨b, 1, none⟩ = some (.int .i64 a.f1) := fun x => (x.h.1.cell 1).trans rfl
  have x2 : ∀ x : Cl (MayIn w b a), x.W.cell? ⟨b, 2, none⟩ = some (.int .i64 a.f2) := fun x => (x.h.1.cell 2).trans rfl
  have x3 : ∀ x : Cl (MayIn w b a), x.W.cell? ⟨b, 3, none⟩ = some (.int .i64 a.f3) := fun x => (x.h.1.cell 3).trans rfl
  have x4 : ∀ x : Cl (MayIn w b a), x.W.cell? ⟨b, 4, none⟩ = some (.int .i64 a.f4) := fun x => (x.h.1.cell 4).trans rfl
  have x5 : ∀ x : Cl (MayIn w b a), x.W.cell? ⟨b, 5, none⟩ = some (.string a.f5) := fun x => (x.h.1.cell 5).trans rfl
  have x6 : ∀ x : Cl (MayIn w b a), x.W.cell? ⟨b, 6, none⟩ = some (.int .i64 a.f6.f0) := fun x => (x.h.1.cell 6).trans rfl
  have x7 : ∀ x : Cl (MayIn w b a), x.W.cell? ⟨b, 7, none⟩ = some (.string a.f6.f1) := fun x => (x.h.1.cell 7).trans rfl
  have x8 : ∀ x : Cl (MayIn w b a), x.W.cell? ⟨b, 8, none⟩ = some (.int .i64 a.f6.f2) := fun x => (x.h.1.cell 8).trans rfl
  have x9 : ∀ x : Cl (MayIn w b a), x.W.cell? ⟨b, 9, none⟩ = some (.int .i64 a.f6.f3) := fun x => (x.h.1.cell 9).trans rfl
  have x10 : ∀ x : Cl (MayIn w b a), x.W.cell? ⟨b, 10, none⟩ = some (.int .i64 a.f6.f4) := fun x => (x.h.1.cell 10).trans rfl
  have x11 : ∀ x : Cl (MayIn w b a), x.W.cell? ⟨b, 11, none⟩ = some (.int .i64 a.f6.f5) := fun x => (x.h.1.cell 11).trans rfl
  unfold val36 at g7
  unfold val36 rmayB sameB
  unfold val34 at g6
  generalize namedF a = n at *
  generalize upB a.f0 8 = b0 at *
  generalize upB a.f1 4 = b1 at *
  generalize upB a.f2 4 = b2 at *
  generalize upB a.f3 64 = b3 at *
  generalize upB a.f4 65535 = b4 at *
  generalize keyB a.f6 = b6 at *
  obtain ⟨b5, h5⟩ : ∃ b, decide ((a.f5.size : Int) ≤ 556) = b := ⟨_, rfl⟩
  obtain ⟨b7, h7⟩ : ∃ b, (a.f0 == 7) = b := ⟨_, rfl⟩
  have h8 : (a.f0 != 7) = !b7 := by rw [← h7]; rfl
  rw [h5, h7]
  replace g0 := Aside0.mk g0
  replace g1 := Aside0.mk g1
  replace g2 := Aside0.mk g2
  replace g3 := Aside0.mk g3
  replace g4 := Aside0.mk g4
  replace g6 := Aside0.mk g6
  replace g7 := Aside0.mk g7
  have hX := Box.new w a
  rw [← hb] at hX
  have hB := below_alloc (Below.refl w.heap.size w) (.cells #[.int .i64 a.f0, .int .i64 a.f1, .int .i64 a.f2, .int .i64 a.f3, .int .i64 a.f4, .string a.f5, .int .i64 a.f6.f0, .string a.f6.f1, .int .i64 a.f6.f2, .int .i64 a.f6.f3, .int .i64 a.f6.f4, .int .i64 a.f6.f5] 36)
  replace hX := Aside0.mk (And.intro hX hB)
  clear hB
  go_enter Tryd.func16, Tryd.ntmps16
  go_wp2_with fail
  rw [← hb]
  replace hb := Aside0.mk hb
  generalize w.alloc (.cells #[.int .i64 a.f0, .int .i64 a.f1, .int .i64 a.f2, .int .i64 a.f3, .int .i64 a.f4, .string a.f5, .int .i64 a.f6.f0, .string a.f6.f1, .int .i64 a.f6.f2, .int .i64 a.f6.f3, .int .i64 a.f6.f4, .int .i64 a.f6.f5] 36) = W at *
  replace hX : Aside0 (MayIn w b a W.drew) := ⟨hX.out.1.below (below_drew (Below.refl _ _)), below_drew hX.out.2⟩
  rcases nine b0 b1 b2 b3 b4 b5 b6 b7 with rfl | ⟨rfl, rfl⟩ | ⟨rfl, rfl, rfl⟩ | ⟨rfl, rfl, rfl, rfl⟩ | ⟨rfl, rfl, rfl, rfl, rfl⟩ | ⟨rfl, rfl, rfl, rfl, rfl, rfl⟩ | ⟨rfl, rfl, rfl, rfl, rfl, rfl, rfl, rfl⟩ | ⟨rfl, rfl, rfl, rfl, rfl, rfl, rfl, rfl⟩ | ⟨rfl, rfl, rfl, rfl, rfl, rfl, rfl⟩
  · have hne : Nonempty (Cl (MayIn w b a)) := ⟨⟨_, hX.out⟩⟩
    refine region_cl (p := MayIn w b a) (by kernel_rfl) (by kernel_rfl) hX.out ?_
    repeat (go_big_quiet_step (first
        | (go_at_call 31; first | with_reducible exact Cl.may (g0.out _) | with_reducible exact Cl.may (g1.out _) | with_reducible exact Cl.may (g2.out _) | with_reducible exact Cl.may (g3.out _) | with_reducible exact Cl.may (g4.out _))
        | (go_at_call 32; with_reducible exact Cl.may (g6.out _))
        | (go_at_call 33; with_reducible exact Cl.may (g7.out _))))
    refine wpQuiet_nil ?_
    intro _ hw'
    obtain ⟨y, rfl⟩ := hw'
    clear hX x0 x1 x2 x3 x4 x5 x6 x7 x8 x9 x10 x11
    have hE := Aside0.mk y.h.2
    go_wp2
    go_ret
    exact ⟨by simp, hE.out⟩
  · have hne : Nonempty (Cl (MayIn w b a)) := ⟨⟨_, hX.out⟩⟩
    refine region_cl (p := MayIn w b a) (by kernel_rfl) (by kernel_rfl) hX.out ?_
    repeat (go_big_quiet_step (first
        | (go_at_call 31; first | with_reducible exact Cl.may (g0.out _) | with_reducible exact Cl.may (g1.out _) | with_reducible exact Cl.may (g2.out _) | with_reducible exact Cl.may (g3.out _) | with_reducible exact Cl.may (g4.out _))
        | (go_at_call 32; with_reducible exact Cl.may (g6.out _))
        | (go_at_call 33; with_reducible exact Cl.may (g7.out _))))
    refine wpQuiet_nil ?_
    intro _ hw'
    obtain ⟨y, rfl⟩ := hw'
    clear hX x0 x1 x2 x3 x4 x5 x6 x7 x8 x9 x10 x11
    have hE := Aside0.mk y.h.2
    go_wp2
    go_ret
    exact ⟨by simp, hE.out⟩
  · have hne : Nonempty (Cl (MayIn w b a)) := ⟨⟨_, hX.out⟩⟩
    refine region_cl (p := MayIn w b a) (by kernel_rfl) (by kernel_rfl) hX.out ?_
    repeat (go_big_quiet_step (first
        | (go_at_call 31; first | with_reducible exact Cl.may (g0.out _) | with_reducible exact Cl.may (g1.out _) | with_reducible exact Cl.may (g2.out _) | with_reducible exact Cl.may (g3.out _) | with_reducible exact Cl.may (g4.out _))
        | (go_at_call 32; with_reducible exact Cl.may (g6.out _))
        | (go_at_call 33; with_reducible exact Cl.may (g7.out _))))
    refine wpQuiet_nil ?_
    intro _ hw'
    obtain ⟨y, rfl⟩ := hw'
    clear hX x0 x1 x2 x3 x4 x5 x6 x7 x8 x9 x10 x11
    have hE := Aside0.mk y.h.2
    go_wp2
    go_ret
    exact ⟨by simp, hE.out⟩
  · have hne : Nonempty (Cl (MayIn w b a)) := ⟨⟨_, hX.out⟩⟩
    refine region_cl (p := MayIn w b a) (by kernel_rfl) (by kernel_rfl) hX.out ?_
    repeat (go_big_quiet_step (first
        | (go_at_call 31; first | with_reducible exact Cl.may (g0.out _) | with_reducible exact Cl.may (g1.out _) | with_reducible exact Cl.may (g2.out _) | with_reducible exact Cl.may (g3.out _) | with_reducible exact Cl.may (g4.out _))
        | (go_at_call 32; with_reducible exact Cl.may (g6.out _))
        | (go_at_call 33; with_reducible exact Cl.may (g7.out _))))
    refine wpQuiet_nil ?_
    intro _ hw'
    obtain ⟨y, rfl⟩ := hw'
    clear hX x0 x1 x2 x3 x4 x5 x6 x7 x8 x9 x10 x11
    have hE := Aside0.mk y.h.2
    go_wp2
    go_ret
    exact ⟨by simp, hE.out⟩
  · have hne : Nonempty (Cl (MayIn w b a)) := ⟨⟨_, hX.out⟩⟩
    refine region_cl (p := MayIn w b a) (by kernel_rfl) (by kernel_rfl) hX.out ?_
    repeat (go_big_quiet_step (first
        | (go_at_call 31; first | with_reducible exact Cl.may (g0.out _) | with_reducible exact Cl.may (g1.out _) | with_reducible exact Cl.may (g2.out _) | with_reducible exact Cl.may (g3.out _) | with_reducible exact Cl.may (g4.out _))
        | (go_at_call 32; with_reducible exact Cl.may (g6.out _))
        | (go_at_call 33; with_reducible exact Cl.may (g7.out _))))
    refine wpQuiet_nil ?_
    intro _ hw'
    obtain ⟨y, rfl⟩ := hw'
    clear hX x0 x1 x2 x3 x4 x5 x6 x7 x8 x9 x10 x11
    have hE := Aside0.mk y.h.2
    go_wp2
    go_ret
    exact ⟨by simp, hE.out⟩
  · have hne : Nonempty (Cl (MayIn w b a)) := ⟨⟨_, hX.out⟩⟩
    refine region_cl (p := MayIn w b a) (by kernel_rfl) (by kernel_rfl) hX.out ?_
    repeat (go_big_quiet_step (first
        | (go_at_call 31; first | with_reducible exact Cl.may (g0.out _) | with_reducible exact Cl.may (g1.out _) | with_reducible exact Cl.may (g2.out _) | with_reducible exact Cl.may (g3.out _) | with_reducible exact Cl.may (g4.out _))
        | (go_at_call 32; with_reducible exact Cl.may (g6.out _))
        | (go_at_call 33; with_reducible exact Cl.may (g7.out _))))
    refine wpQuiet_nil ?_
    intro _ hw'
    obtain ⟨y, rfl⟩ := hw'
    clear hX x0 x1 x2 x3 x4 x5 x6 x7 x8 x9 x10 x11
    have hE := Aside0.mk y.h.2
    go_wp2
    go_ret
    exact ⟨by simp, hE.out⟩
  · have hne : Nonempty (Cl (MayIn w b a)) := ⟨⟨_, hX.out⟩⟩
    refine region_cl (p := MayIn w b a) (by kernel_rfl) (by kernel_rfl) hX.out ?_
    repeat (go_big_quiet_step (first
        | (go_at_call 31; first | with_reducible exact Cl.may (g0.out _) | with_reducible exact Cl.may (g1.out _) | with_reducible exact Cl.may (g2.out _) | with_reducible exact Cl.may (g3.out _) | with_reducible exact Cl.may (g4.out _))
        | (go_at_call 32; with_reducible exact Cl.may (g6.out _))
        | (go_at_call 33; with_reducible exact Cl.may (g7.out _))))
    refine wpQuiet_nil ?_
    intro _ hw'
    obtain ⟨y, rfl⟩ := hw'
    clear hX x0 x1 x2 x3 x4 x5 x6 x7 x8 x9 x10 x11
    have hE := Aside0.mk y.h.2
    go_wp2
    go_ret
    exact ⟨by simp, hE.out⟩
  · have hne : Nonempty (Cl (MayIn w b a)) := ⟨⟨_, hX.out⟩⟩
    refine region_cl (p := MayIn w b a) (by kernel_rfl) (by kernel_rfl) hX.out ?_
    repeat (go_big_quiet_step (first
        | (go_at_call 31; first | with_reducible exact Cl.may (g0.out _) | with_reducible exact Cl.may (g1.out _) | with_reducible exact Cl.may (g2.out _) | with_reducible exact Cl.may (g3.out _) | with_reducible exact Cl.may (g4.out _))
        | (go_at_call 32; with_reducible exact Cl.may (g6.out _))
        | (go_at_call 33; with_reducible exact Cl.may (g7.out _))))
    refine wpQuiet_nil ?_
    intro _ hw'
    obtain ⟨y, rfl⟩ := hw'
    clear hX x0 x1 x2 x3 x4 x5 x6 x7 x8 x9 x10 x11
    have hE := Aside0.mk y.h.2
    go_wp2
    go_ret
    exact ⟨by simp, hE.out⟩
  · have hne : Nonempty (Cl (MayIn w b a)) := ⟨⟨_, hX.out⟩⟩
    refine region_cl (p := MayIn w b a) (by kernel_rfl) (by kernel_rfl) hX.out ?_
    repeat (go_big_quiet_step (first
        | (go_at_call 31; first | with_reducible exact Cl.may (g0.out _) | with_reducible exact Cl.may (g1.out _) | with_reducible exact Cl.may (g2.out _) | with_reducible exact Cl.may (g3.out _) | with_reducible exact Cl.may (g4.out _))
        | (go_at_call 32; with_reducible exact Cl.may (g6.out _))
        | (go_at_call 33; with_reducible exact Cl.may (g7.out _))))
    refine wpQuiet_nil ?_
    intro _ hw'
    obtain ⟨y, rfl⟩ := hw'
    clear hX x0 x1 x2 x3 x4 x5 x6 x7 x8 x9 x10 x11
    have hE := Aside0.mk y.h.2
    go_wp2
    go_ret
    exact ⟨by simp, hE.out⟩

end Go.Proofs.YtdpbklckeamjpaaDoor.Scr
