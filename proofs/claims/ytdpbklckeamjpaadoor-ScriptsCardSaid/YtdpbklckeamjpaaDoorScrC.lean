/- Which acts may be: the document's ActMay, step by step. -/
import Derived.Test.YtdpbklckeamjpaaDoorScrB
import Derived.Test.YtdpbklckeamjpaaDoorPScriptsx6
namespace Go.Proofs.YtdpbklckeamjpaaDoor.Scr
open Go.RowKit Go.Proofs.YtdpbklckeamjpaaDoorW.PrintWords Go.Proofs.YtdpbklckeamjpaaDoorW.PrintLast Go.Proofs.YtdpbklckeamjpaaDoorW.PrintMore Go.Proofs.YtdpbklckeamjpaaDoor.PScripts

/-- What an act's kind names of it. -/
def namedF (a : S36) : S36 :=
  if a.f0 = 0 ∨ a.f0 = 1 ∨ a.f0 = 2 then ⟨a.f0, 0, 0, a.f3, 0, ⟨#[]⟩, z34⟩
  else if a.f0 = 3 then ⟨a.f0, a.f1, a.f2, 0, 0, a.f5, z34⟩
  else if a.f0 = 5 then ⟨a.f0, 0, a.f2, 0, 0, ⟨#[]⟩, z34⟩
  else if a.f0 = 6 then ⟨a.f0, 0, a.f2, a.f3, 0, ⟨#[]⟩, z34⟩
  else if a.f0 = 7 then ⟨a.f0, 0, a.f2, 0, 0, ⟨#[]⟩, a.f6⟩
  else if a.f0 = 8 then ⟨a.f0, a.f1, a.f2, 0, a.f4, ⟨#[]⟩, z34⟩
  else ⟨a.f0, 0, 0, 0, 0, ⟨#[]⟩, z34⟩

theorem named_calls (a : S36) (w : World) : Calls Tryd.prog 33 #[val36 a] w fun e w' => e = .returned (val36 (namedF a)) ∧ Below w.heap.size w w' := by
  refine watchwordref18_named.calls 1 a.f0 a.f1 a.f2 a.f3 a.f4 a.f5 a.f6.f0 a.f6.f1 a.f6.f2 a.f6.f3 a.f6.f4 a.f6.f5 _ _ _ _ _ _ _ _ _ _ _ _ w ?_
  unfold watchwordref18_named.f watchwordref18_named.j0 namedF
  by_cases h0 : a.f0 = 0
  · simp [h0, z34]
  by_cases h1 : a.f0 = 1
  · simp [h1, z34]
  by_cases h2 : a.f0 = 2
  · simp [h2, z34]
  by_cases h3 : a.f0 = 3
  · simp [h3, z34]
  by_cases h5 : a.f0 = 5
  · simp [h5, z34]
  by_cases h6 : a.f0 = 6
  · simp [h6, z34]
  by_cases h7 : a.f0 = 7
  · simp [h7]
  by_cases h8 : a.f0 = 8
  · simp [h8, z34]
  simp [h0, h1, h2, h3, h5, h6, h7, h8, z34]

theorem up_calls (x m : Int) (w : World) : Calls Tryd.prog 31 #[.int .i64 x, .int .i64 0, .int .i64 m] w fun e w' => e = .returned (.bool (upB x m)) ∧ Drawn0 w w' :=
  watchwordref18_upTo.calls x 0 m (upB x m) w (by
    unfold watchwordref18_upTo.f upB
    by_cases h : x ≥ 0
    · simp [h]
    · simp [h])

theorem keyMay_calls (k : S34) (w : World) : Calls Tryd.prog 32 #[val34 k] w fun e w' => e = .returned (.bool (keyB k)) ∧ Below w.heap.size w w' :=
  watchwordref1_KeyMay.calls k.f0 k.f1 k.f2 k.f3 k.f4 k.f5 (keyB k) w (by
    have hu : ∀ x y z, watchwordref1_upTo.f x y z = some (decide (y ≤ x) && decide (x ≤ z)) := fun x y z => by
      unfold watchwordref1_upTo.f
      by_cases h : x ≥ y
      · simp [h]
      · simp [h]
    unfold watchwordref1_KeyMay.f watchwordref1_nowMay.f keyB
    simp only [hu, Option.bind_some]
    unfold upB secretB
    generalize (decide ((0 : Int) ≤ k.f0) && decide (k.f0 ≤ 255)) = c0
    generalize (decide ((1 : Int) ≤ (k.f1.size : Int)) && decide ((k.f1.size : Int) ≤ 32)) = c1
    generalize (decide ((0 : Int) ≤ k.f2) && decide (k.f2 ≤ 1048576)) = c2
    generalize (decide ((0 : Int) ≤ k.f3) && decide (k.f3 ≤ 1048576)) = c3
    generalize (decide ((0 : Int) ≤ k.f4) && decide (k.f4 ≤ 1048576)) = c4
    generalize (decide ((0 : Int) ≤ k.f5) && decide (k.f5 ≤ 1048576)) = c5
    cases c0 <;> cases c1 <;> cases c2 <;> cases c3 <;> cases c4 <;> cases c5 <;> rfl)

/-- '==' of two acts. -/
def sameB (a b : S36) : Bool := (a.f0 == b.f0 && (a.f1 == b.f1 && (a.f2 == b.f2 && (a.f3 == b.f3 && (a.f4 == b.f4 && (a.f5.toList == b.f5.toList && (a.f6.f0 == b.f6.f0 && (a.f6.f1.toList == b.f6.f1.toList && (a.f6.f2 == b.f6.f2 && (a.f6.f3 == b.f6.f3 && (a.f6.f4 == b.f6.f4 && a.f6.f5 == b.f6.f5)))))))))))
def rmayB (a : S36) : Bool :=
  (upB a.f0 8 && upB a.f1 4 && upB a.f2 4 && upB a.f3 64 && upB a.f4 65535) && decide ((a.f5.size : Int) ≤ 556) && (!(a.f0 == 7) || keyB a.f6) && sameB a (namedF a)

theorem nine (b0 b1 b2 b3 b4 b5 b6 b7 : Bool) : b0 = false ∨ (b0 = true ∧ b1 = false) ∨ (b0 = true ∧ b1 = true ∧ b2 = false) ∨ (b0 = true ∧ b1 = true ∧ b2 = true ∧ b3 = false) ∨ (b0 = true ∧ b1 = true ∧ b2 = true ∧ b3 = true ∧ b4 = false) ∨
    (b0 = true ∧ b1 = true ∧ b2 = true ∧ b3 = true ∧ b4 = true ∧ b5 = false) ∨ (b0 = true ∧ b1 = true ∧ b2 = true ∧ b3 = true ∧ b4 = true ∧ b5 = true ∧ b7 = true ∧ b6 = false) ∨
    (b0 = true ∧ b1 = true ∧ b2 = true ∧ b3 = true ∧ b4 = true ∧ b5 = true ∧ b7 = true ∧ b6 = true) ∨ (b0 = true ∧ b1 = true ∧ b2 = true ∧ b3 = true ∧ b4 = true ∧ b5 = true ∧ b7 = false) := by
  cases b0 <;> cases b1 <;> cases b2 <;> cases b3 <;> cases b4 <;> cases b5 <;> cases b6 <;> cases b7 <;> simp

/-- An act in a variable: block b. -/
structure Box (W : World) (b : Nat) (a : S36) : Prop where mk :: (out : W.heap[b]? = some (.cells #[.int .i64 a.f0, .int .i64 a.f1, .int .i64 a.f2, .int .i64 a.f3, .int .i64 a.f4, .string a.f5, .int .i64 a.f6.f0, .string a.f6.f1, .int .i64 a.f6.f2, .int .i64 a.f6.f3, .int .i64 a.f6.f4, .int .i64 a.f6.f5] 36 (0, 0)))
abbrev Cells12 (b : Nat) (a : S36) (W : World) : Prop :=
  W.cell? ⟨b, 0, none⟩ = some (.int .i64 a.f0) ∧ W.cell? ⟨b, 1, none⟩ = some (.int .i64 a.f1) ∧ W.cell? ⟨b, 2, none⟩ = some (.int .i64 a.f2) ∧ W.cell? ⟨b, 3, none⟩ = some (.int .i64 a.f3) ∧ W.cell? ⟨b, 4, none⟩ = some (.int .i64 a.f4) ∧ W.cell? ⟨b, 5, none⟩ = some (.string a.f5) ∧
    W.cell? ⟨b, 6, none⟩ = some (.int .i64 a.f6.f0) ∧ W.cell? ⟨b, 7, none⟩ = some (.string a.f6.f1) ∧ W.cell? ⟨b, 8, none⟩ = some (.int .i64 a.f6.f2) ∧ W.cell? ⟨b, 9, none⟩ = some (.int .i64 a.f6.f3) ∧ W.cell? ⟨b, 10, none⟩ = some (.int .i64 a.f6.f4) ∧ W.cell? ⟨b, 11, none⟩ = some (.int .i64 a.f6.f5)
theorem Box.cell {W : World} {b : Nat} {a : S36} (h : Box W b a) (j : Nat) : W.cell? ⟨b, j, none⟩ = (#[.int .i64 a.f0, .int .i64 a.f1, .int .i64 a.f2, .int .i64 a.f3, .int .i64 a.f4, .string a.f5, .int .i64 a.f6.f0, .string a.f6.f1, .int .i64 a.f6.f2, .int .i64 a.f6.f3, .int .i64 a.f6.f4, .int .i64 a.f6.f5] : Array Value)[j]? := by
  simp [World.cell?, h.out]
theorem Box.cells {W : World} {b : Nat} {a : S36} (h : Box W b a) : Cells12 b a W :=
  ⟨(h.cell 0).trans rfl, (h.cell 1).trans rfl, (h.cell 2).trans rfl, (h.cell 3).trans rfl, (h.cell 4).trans rfl, (h.cell 5).trans rfl, (h.cell 6).trans rfl, (h.cell 7).trans rfl, (h.cell 8).trans rfl, (h.cell 9).trans rfl, (h.cell 10).trans rfl, (h.cell 11).trans rfl⟩
theorem Box.lt {W : World} {b : Nat} {a : S36} (h : Box W b a) : b < W.heap.size := (Array.getElem?_eq_some_iff.1 h.out).1
theorem Box.below {W W' : World} {b : Nat} {a : S36} (h : Box W b a) (hb : Below W.heap.size W W') : Box W' b a := ⟨(hb.block b h.lt).trans h.out⟩
theorem Box.new (W : World) (a : S36) : Box (W.alloc (.cells #[.int .i64 a.f0, .int .i64 a.f1, .int .i64 a.f2, .int .i64 a.f3, .int .i64 a.f4, .string a.f5, .int .i64 a.f6.f0, .string a.f6.f1, .int .i64 a.f6.f2, .int .i64 a.f6.f3, .int .i64 a.f6.f4, .int .i64 a.f6.f5] 36)) W.heap.size a := ⟨heap_alloc_new W _⟩

end Go.Proofs.YtdpbklckeamjpaaDoor.Scr
