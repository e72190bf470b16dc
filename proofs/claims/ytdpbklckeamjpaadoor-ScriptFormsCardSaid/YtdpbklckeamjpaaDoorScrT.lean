/- ScriptKinds's code, step by step. -/
import Derived.Test.YtdpbklckeamjpaaDoorScrR
namespace Go.Proofs.YtdpbklckeamjpaaDoor.Scr
open Go.RowKit Go.Proofs.YtdpbklckeamjpaaDoorW.PrintWords Go.Proofs.YtdpbklckeamjpaaDoorW.PrintLast Go.Proofs.YtdpbklckeamjpaaDoorW.PrintMore Go.Proofs.YtdpbklckeamjpaaDoor.PScripts

theorem may_now (a : S36) (b : Bool) (h : mayB a = b) (w : World) : Calls Tryd.prog 13 #[.agg #[.int .i64 a.f0, .int .i64 a.f1, .int .i64 a.f2, .int .i64 a.f3, .int .i64 a.f4, .string a.f5, .int .i64 a.f6.f0, .string a.f6.f1, .int .i64 a.f6.f2, .int .i64 a.f6.f3, .int .i64 a.f6.f4, .int .i64 a.f6.f5]] w fun e w' => e = .returned (.bool b) ∧ Below w.heap.size w w' := by
  subst h
  exact may_calls a w

theorem Box.frozen {W : World} {b : Nat} {a : S36} (h : Box W b a) (j : Nat) : W.frozen? ⟨b, j, none⟩ = false := by simp [World.frozen?, h.out]
abbrev newAct (w : World) (a : S36) : World := w.alloc (.cells #[.int .i64 a.f0, .int .i64 a.f1, .int .i64 a.f2, .int .i64 a.f3, .int .i64 a.f4, .string a.f5, .int .i64 a.f6.f0, .string a.f6.f1, .int .i64 a.f6.f2, .int .i64 a.f6.f3, .int .i64 a.f6.f4, .int .i64 a.f6.f5] 36)
theorem kinds_box (w1 : World) (a : S36) {w2 : World} (hb : Below (newAct w1 a).heap.size (newAct w1 a) w2) : Box w2 w1.heap.size a := (Box.new w1 a).below hb
theorem kinds_mid {W w1 : World} (h : Below W.heap.size W w1) (a : S36) {w2 : World} (hb : Below (newAct w1 a).heap.size (newAct w1 a) w2) : Below W.heap.size W w2 ∧ W.heap.size ≤ w1.heap.size := ⟨below_step (below_alloc h _) hb (below_alloc h _).size, h.size⟩
theorem kinds_end {W w2 w3 : World} {g j : Nat} {v : Value} {o : Obj} (h : Below W.heap.size W w2 ∧ W.heap.size ≤ g) (hb : Below ((w2.setCell ⟨g, j, none⟩ v).alloc o).heap.size ((w2.setCell ⟨g, j, none⟩ v).alloc o) w3) : Below W.heap.size W w3 := by
  have h1 := below_alloc (Below.setCell h.1 (p := ⟨g, j, none⟩) h.2 v) o
  exact below_step h1 hb h1.size

end Go.Proofs.YtdpbklckeamjpaaDoor.Scr
