/- A slice of bytes that a conversion of a string has made: what it holds, read, written, turned back to a string. No program. -/
import Derived.Test.YtlkngkbhopbflaaWWords
namespace Go.Proofs.Ytlkngkbhopbflaa.Byt
open Go.RowKit Go.Proofs.YtlkngkbhopbflaaW.PrintWords

/-- Block b is a row of bytes of which the first are l; no place of them is marked. -/
structure BB (W : World) (b : Nat) (l : List UInt8) : Prop where
  mk :: (out : ∃ C e lo hi, W.heap[b]? = some (.cells C e (lo, hi)) ∧ l.length ≤ lo ∧ l.length ≤ C.size ∧ ∀ j (h : j < l.length), C[j]? = some (.int .u8 (l[j].toNat : Int)))

theorem BB.lt {W : World} {b : Nat} {l : List UInt8} (h : BB W b l) : b < W.heap.size := by
  obtain ⟨C, e, lo, hi, h1, _⟩ := h.out
  exact (Array.getElem?_eq_some_iff.1 h1).1

theorem BB.cell {W : World} {b : Nat} {l : List UInt8} (h : BB W b l) (j : Nat) (hj : j < l.length) : W.cell? ⟨b, j, none⟩ = some (.int .u8 (l[j].toNat : Int)) := by
  obtain ⟨C, e, lo, hi, h1, h2, h3, h4⟩ := h.out
  unfold World.cell?
  simp only [h1]
  exact h4 j hj

theorem BB.free {W : World} {b : Nat} {l : List UInt8} (h : BB W b l) (j : Nat) (hj : j < l.length) : W.frozen? ⟨b, j, none⟩ = false := by
  obtain ⟨C, e, lo, hi, h1, h2, h3, h4⟩ := h.out
  unfold World.frozen?
  simp only [h1]
  have : decide (lo ≤ j) = false := by simp; omega
  simp [this]

theorem BB.same {W W' : World} {b : Nat} {l : List UInt8} (h : BB W b l) (he : W'.heap[b]? = W.heap[b]?) : BB W' b l := by
  obtain ⟨C, e, lo, hi, h1, h2⟩ := h.out
  exact ⟨⟨C, e, lo, hi, by rw [he]; exact h1, h2⟩⟩

theorem BB.drewN {W : World} {b : Nat} {l : List UInt8} (h : BB W b l) (n : Nat) : BB (W.drewN n) b l := h.same rfl

theorem BB.below {W W' : World} {b : Nat} {l : List UInt8} (h : BB W b l) (hb : Below W.heap.size W W') : BB W' b l := h.same (hb.block b h.lt)

theorem setCell_heap (W : World) (b j : Nat) (C : Array Value) (e : TypeId) (fr : Nat × Nat) (v : Value) (h : W.heap[b]? = some (.cells C e fr)) :
    (W.setCell ⟨b, j, none⟩ v).heap[b]? = some (.cells (C.setIfInBounds j v) e fr) := by
  have hb := (Array.getElem?_eq_some_iff.1 h)
  unfold World.setCell
  simp only
  rw [Array.getElem?_modify, if_pos rfl, h]
  simp

theorem BB.set {W : World} {b : Nat} {l : List UInt8} (h : BB W b l) (j : Nat) (x : UInt8) : BB (W.setCell ⟨b, j, none⟩ (.int .u8 (x.toNat : Int))) b (l.set j x) := by
  obtain ⟨C, e, lo, hi, h1, h2, h3, h4⟩ := h.out
  refine ⟨⟨C.setIfInBounds j (.int .u8 (x.toNat : Int)), e, lo, hi, setCell_heap W b j C e (lo, hi) _ h1, by simpa using h2, by simpa using h3, fun i hi => ?_⟩⟩
  have hi' : i < l.length := by simpa using hi
  rw [Array.getElem?_setIfInBounds]
  by_cases hij : j = i
  · subst hij
    simp [show j < C.size by omega]
  · rw [if_neg hij, h4 i hi', List.getElem_set_ne hij]

theorem BB.string {P : Program} {W : World} {b : Nat} {l : List UInt8} (h : BB W b l) (src dst e : TypeId) (cap : Nat) (hs : P.underlying src = some (.slice e)) (he : P.underlying e = some (.int .u8)) (hd : P.underlying dst = some .string) :
    (convert src dst (.slice (some ⟨b, 0, none⟩) l.length cap)).run P W = .ok (.string ⟨l.toArray⟩) W :=
  run_convert_bytes_back W src dst e ⟨b, 0, none⟩ cap l hs he hd fun j hj => by rw [add_plain]; exact h.cell j hj

section
variable {P : Program} {ops : Array Oper} {rest : List Oper} {o : Oper} {a : Act} {Q : Exit → Act → World → Prop}
/-- '[]byte(s)'. -/
theorem law_bytes {W : World} (hgd : o.guard = none) (src dst e : TypeId) (x : Operand) (ho : o.op = .convert src dst x) {u : TypeDesc} (hs : P.underlying src = some u) (hd : P.underlying dst = some (.slice e)) (he : P.underlying e = some (.int .u8))
    (s : ByteArray) (hx : a.eval x = .string s)
    (h : ∀ b cap W1, W.heap.size ≤ b → BB W1 b s.data.toList → Below W.heap.size W W1 → s.size ≤ cap → wpList P ops Q rest (a.put o.dst (.slice (some ⟨b, 0, none⟩) s.size cap)) W1) : wpList P ops Q (o :: rest) a W := by
  refine wpList_plain hgd fun K hK => ?_
  unfold Oper.wp execOp
  simp only [ho, hx, Sem.run_bind, Lib.run_convert_string_bytes W src dst e s hs hd he, Result.andThen_ok, Sem.run_pure]
  refine hK _ _ (h _ _ _ (Nat.le_refl _) ⟨⟨_, _, _, _, Lib.bytesWorld_at_new W e s, ?_, ?_, fun j hj => ?_⟩⟩ (bytes_below (Below.refl _ _) (Nat.le_refl _) e s) ?_)
  · simp [Lib.bytesCells]
  · simp [Lib.bytesCells]
  · have hj' : j < s.data.size := by simpa using hj
    have hj2 : j < s.size := hj'
    simp [Lib.bytesCells, Array.getElem?_append, hj2]
  · exact grownCap_ge _ _ _ _
end

end Go.Proofs.Ytlkngkbhopbflaa.Byt
