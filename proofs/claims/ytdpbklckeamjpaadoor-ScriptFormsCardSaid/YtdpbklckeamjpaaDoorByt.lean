/- A block of bytes (a conversion of a string, an array of bytes): what it holds, read, written, appended to, turned back to a string. No program. -/
import Derived.Test.YtdpbklckeamjpaaDoorWWords
namespace Go.Proofs.YtdpbklckeamjpaaDoor.Byt
open Go.RowKit Go.Proofs.YtdpbklckeamjpaaDoorW.PrintWords

/-- Block b has room for cap bytes, none of them marked; the first are l. -/
structure BB (W : World) (b cap : Nat) (l : List UInt8) : Prop where
  mk :: (out : ∃ C e lo hi, W.heap[b]? = some (.cells C e (lo, hi)) ∧ (hi = 0 ∨ cap ≤ lo) ∧ cap ≤ C.size ∧ l.length ≤ cap ∧ ∀ j (h : j < l.length), C[j]? = some (.int .u8 (l[j].toNat : Int)))

theorem BB.lt {W : World} {b cap : Nat} {l : List UInt8} (h : BB W b cap l) : b < W.heap.size := by
  obtain ⟨C, e, lo, hi, h1, _⟩ := h.out
  exact (Array.getElem?_eq_some_iff.1 h1).1

theorem BB.len {W : World} {b cap : Nat} {l : List UInt8} (h : BB W b cap l) : l.length ≤ cap := by
  obtain ⟨C, e, lo, hi, h1, h2, h3, h4, h5⟩ := h.out
  exact h4

theorem BB.cell {W : World} {b cap : Nat} {l : List UInt8} (h : BB W b cap l) (j : Nat) (hj : j < l.length) : W.cell? ⟨b, j, none⟩ = some (.int .u8 (l[j].toNat : Int)) := by
  obtain ⟨C, e, lo, hi, h1, h2, h3, h4, h5⟩ := h.out
  unfold World.cell?
  simp only [h1]
  exact h5 j hj

theorem BB.there {W : World} {b cap : Nat} {l : List UInt8} (h : BB W b cap l) (j : Nat) (hj : j < cap) : (W.cell? ⟨b, j, none⟩).isSome = true := by
  obtain ⟨C, e, lo, hi, h1, h2, h3, h4, h5⟩ := h.out
  unfold World.cell?
  simp only [h1]
  simp [show j < C.size by omega]

theorem BB.free {W : World} {b cap : Nat} {l : List UInt8} (h : BB W b cap l) (j : Nat) (hj : j < cap) : W.frozen? ⟨b, j, none⟩ = false := by
  obtain ⟨C, e, lo, hi, h1, h2, h3, h4, h5⟩ := h.out
  unfold World.frozen?
  simp only [h1]
  rcases h2 with h2 | h2
  · have : decide (j < hi) = false := by simp; omega
    simp [this]
  · have : decide (lo ≤ j) = false := by simp; omega
    simp [this]

theorem BB.same {W W' : World} {b cap : Nat} {l : List UInt8} (h : BB W b cap l) (he : W'.heap[b]? = W.heap[b]?) : BB W' b cap l := by
  obtain ⟨C, e, lo, hi, h1, h2⟩ := h.out
  exact ⟨⟨C, e, lo, hi, by rw [he]; exact h1, h2⟩⟩

theorem BB.drewN {W : World} {b cap : Nat} {l : List UInt8} (h : BB W b cap l) (n : Nat) : BB (W.drewN n) b cap l := h.same rfl

theorem BB.below {W W' : World} {b cap : Nat} {l : List UInt8} (h : BB W b cap l) (hb : Below W.heap.size W W') : BB W' b cap l := h.same (hb.block b h.lt)

theorem BB.alloced {W : World} {b cap : Nat} {l : List UInt8} (h : BB W b cap l) (o : Obj) : BB (W.alloc o) b cap l := h.same (heap_alloc_old W o h.lt)

theorem setCell_heap (W : World) (b j : Nat) (C : Array Value) (e : TypeId) (fr : Nat × Nat) (v : Value) (h : W.heap[b]? = some (.cells C e fr)) :
    (W.setCell ⟨b, j, none⟩ v).heap[b]? = some (.cells (C.setIfInBounds j v) e fr) := by
  unfold World.setCell
  simp only
  rw [Array.getElem?_modify, if_pos rfl, h]
  simp

theorem BB.set {W : World} {b cap : Nat} {l : List UInt8} (h : BB W b cap l) (j : Nat) (x : UInt8) : BB (W.setCell ⟨b, j, none⟩ (.int .u8 (x.toNat : Int))) b cap (l.set j x) := by
  obtain ⟨C, e, lo, hi, h1, h2, h3, h4, h5⟩ := h.out
  refine ⟨⟨C.setIfInBounds j (.int .u8 (x.toNat : Int)), e, lo, hi, setCell_heap W b j C e (lo, hi) _ h1, h2, by simpa using h3, by simpa using h4, fun i hi => ?_⟩⟩
  have hi' : i < l.length := by simpa using hi
  rw [Array.getElem?_setIfInBounds]
  by_cases hij : j = i
  · subst hij
    simp [show j < C.size by omega]
  · rw [if_neg hij, h5 i hi', List.getElem_set_ne hij]

theorem BB.push {W : World} {b cap : Nat} {l : List UInt8} (h : BB W b cap l) (x : UInt8) (hl : l.length < cap) : BB (W.setCell ⟨b, l.length, none⟩ (.int .u8 (x.toNat : Int))) b cap (l ++ [x]) := by
  obtain ⟨C, e, lo, hi, h1, h2, h3, h4, h5⟩ := h.out
  refine ⟨⟨C.setIfInBounds l.length (.int .u8 (x.toNat : Int)), e, lo, hi, setCell_heap W b _ C e (lo, hi) _ h1, h2, by simpa using h3, by simp; omega, fun i hi => ?_⟩⟩
  have hi' : i < l.length + 1 := by simpa using hi
  rw [Array.getElem?_setIfInBounds]
  by_cases hij : l.length = i
  · subst hij
    simp [show l.length < C.size by omega]
  · rw [if_neg hij, h5 i (by omega), List.getElem_append_left (by omega)]

/-- A new block of which nothing is marked. -/
theorem BB.alloc (W : World) (C : Array Value) (e : TypeId) (l : List UInt8) (hl : l.length ≤ C.size) (hc : ∀ j (h : j < l.length), C[j]? = some (.int .u8 (l[j].toNat : Int))) : BB (W.alloc (.cells C e)) W.heap.size C.size l :=
  ⟨⟨C, e, 0, 0, heap_alloc_new W _, .inl rfl, Nat.le_refl _, hl, hc⟩⟩

theorem BB.string {P : Program} {W : World} {b cap : Nat} {l : List UInt8} (h : BB W b cap l) (src dst e : TypeId) (cap' : Nat) (hs : P.underlying src = some (.slice e)) (he : P.underlying e = some (.int .u8)) (hd : P.underlying dst = some .string) :
    (convert src dst (.slice (some ⟨b, 0, none⟩) l.length cap')).run P W = .ok (.string ⟨l.toArray⟩) W :=
  run_convert_bytes_back W src dst e ⟨b, 0, none⟩ cap' l hs he hd fun j hj => by rw [add_plain]; exact h.cell j hj

section
variable {P : Program} {ops : Array Oper} {rest : List Oper} {o : Oper} {a : Act} {Q : Exit → Act → World → Prop}
/-- '[]byte(s)'. -/
theorem law_bytes {w0 W : World} (base : Nat) (hgd : o.guard = none) (src dst e : TypeId) (x : Operand) (ho : o.op = .convert src dst x) {u : TypeDesc} (hs : P.underlying src = some u) (hd : P.underlying dst = some (.slice e)) (he : P.underlying e = some (.int .u8))
    (s : ByteArray) (hx : a.eval x = .string s) (HB : Below base w0 W) (hbase : base ≤ W.heap.size)
    (h : ∀ b cap W1, base ≤ b → BB W1 b cap s.data.toList → Below base w0 W1 → base ≤ W1.heap.size → wpList P ops Q rest (a.put o.dst (.slice (some ⟨b, 0, none⟩) s.size cap)) W1) : wpList P ops Q (o :: rest) a W := by
  refine wpList_plain hgd fun K hK => ?_
  unfold Oper.wp execOp
  simp only [ho, hx, Sem.run_bind, Lib.run_convert_string_bytes W src dst e s hs hd he, Result.andThen_ok, Sem.run_pure]
  have hge := grownCap_ge W s.size 0 e
  have hsz : (Lib.bytesCells W e s).size = grownCap W s.size 0 e := by
    have h2 : s.data.size = s.size := rfl
    simp only [Lib.bytesCells, Array.size_append, Array.size_map, Array.size_replicate, h2]
    omega
  refine hK _ _ (h _ _ _ hbase ⟨⟨_, _, _, _, Lib.bytesWorld_at_new W e s, .inr ?_, ?_, ?_, fun j hj => ?_⟩⟩ (bytes_below HB hbase e s) (by rw [Lib.bytesWorld_size]; omega))
  · rw [hsz]; exact Nat.le_refl _
  · rw [hsz]; exact Nat.le_refl _
  · rw [Array.length_toList]; exact hge
  · have hj' : j < s.data.size := by simpa using hj
    have hj2 : j < s.size := hj'
    simp [Lib.bytesCells, Array.getElem?_append, hj2]

theorem BB.of_own {W : World} {base n : Nat} {e : TypeId} {v : Value} {l : List UInt8} (h : W.ownsRow base e 1 v n (l.map fun c => .int .u8 (c.toNat : Int))) (hn : 0 < n) :
    ∃ b cap, v = .slice (some ⟨b, 0, none⟩) n cap ∧ base ≤ b ∧ BB W b cap l := by
  have hl : l.length = n := by have := h.1; simpa using this
  rcases h.2 with ⟨_, h1⟩ | ⟨g, cap, cur, rfl, hb, hg, h1, h2, h3, h4⟩
  · omega
  · refine ⟨g, cap, rfl, hb, ⟨⟨cur, e, 0, 0, hg, .inl rfl, by omega, by omega, fun j hj => ?_⟩⟩⟩
    have h5 : (cur.toList.take (n * 1))[j]? = some (.int .u8 (l[j].toNat : Int)) := by rw [h4]; simp [hj]
    rw [List.getElem?_take, if_pos (by omega)] at h5
    simpa using h5

/-- 'append(b, x)', x one byte: behind 'at_builtin'; the goal's world bears the variadic's box. -/
theorem law_push {w0 W : World} (base : Nat) (hgd : o.guard = none) (s x : Operand) (t e : TypeId)
    (ho : o.op = .call { callee := .builtin .append, args := #[s, x], argTypes := #[t, t] }) (ht : P.underlying t = some (.slice e)) (hinfo : (P.info? e).map (fun i => (i.zero, i.size, i.bytes)) = some (some (.int .u8 0), 1, 1))
    (b cap : Nat) (l : List UInt8) (y : UInt8) (n : Nat) (hn : n = l.length) (hs : a.eval s = .slice (some ⟨b, 0, none⟩) n cap) (hx : a.eval x = .slice (some ⟨W.heap.size, 0, none⟩) 1 1)
    (hB : BB W b cap l) (hb : base ≤ b) (HB : Below base w0 W) (hbase : base ≤ W.heap.size) (hl : l.length + 1 ≤ 140737488355328)
    (h : ∀ b1 cap1 W1, base ≤ b1 → BB W1 b1 cap1 (l ++ [y]) → Below base w0 W1 → base ≤ W1.heap.size → wpList P ops Q rest (a.put o.dst (.slice (some ⟨b1, 0, none⟩) (n + 1) cap1)) W1) :
    wpList P ops Q (o :: rest) a (W.alloc (.cells #[.int .u8 (y.toNat : Int)] e)) := by
  subst hn
  obtain ⟨i0, hi, hzz⟩ := Option.map_eq_some_iff.1 hinfo
  simp only [Prod.mk.injEq] at hzz
  obtain ⟨hz0, hz1, hz2⟩ := hzz
  have hA := hB.alloced (.cells #[.int .u8 (y.toNat : Int)] e)
  have hBA := HB.alloc hbase (.cells #[.int .u8 (y.toNat : Int)] e)
  refine wpList_append_arg (W.alloc (.cells #[.int .u8 (y.toNat : Int)] e)) hgd s x t ho e i0 (.int .u8 0) 1 1 ht hi hz0 hz1 hz2 rfl (by decide)
    b 0 l.length cap (l.map fun c => .int .u8 (c.toNat : Int)) hs (by simp) (fun j u hj => ?_) ⟨W.heap.size, 0, none⟩ 1 1 [.int .u8 (y.toNat : Int)] hx rfl
    (World.news_of_block (cs := #[.int .u8 (y.toNat : Int)]) (t := e) (fr := (0, 0)) (heap_alloc_new W _)) (by simp [Value.oneCell']) (fun hr j hj => ?_) (by simp only [maxLen]; omega) (by omega) (fun hr => ?_) (fun hr v' w' hown hg => ?_)
  · have hj' : j < l.length := by
      rcases Nat.lt_or_ge j l.length with h1 | h1
      · exact h1
      · simp [List.getElem?_eq_none h1] at hj
    rw [Nat.zero_add, hA.cell j hj']
    simpa [hj'] using hj
  · have hj0 : j = 0 := by simpa using hj
    subst hj0
    have e0 : 0 + l.length * 1 + 0 = l.length := by omega
    rw [e0]
    exact ⟨hA.there _ (by omega), hA.free _ (by omega)⟩
  · have e0 : 0 + l.length * 1 = l.length := by omega
    rw [e0]
    exact h b cap _ hb (hA.push y (by omega)) (hBA.setCell hb _) (by simp [World.setCells]; omega)
  · have hbelow : Below base w0 w' := hBA.grown hg (by simp; omega) (fun k hk => by cases hk)
    obtain ⟨b1, cap1, rfl, hb1, hB1⟩ := BB.of_own (l := l ++ [y]) (by simpa using hown) (by omega)
    have hsz := hg.size
    simp at hsz hb1
    exact h b1 cap1 w' (by omega) hB1 hbelow (by omega)
end

end Go.Proofs.YtdpbklckeamjpaaDoor.Byt
