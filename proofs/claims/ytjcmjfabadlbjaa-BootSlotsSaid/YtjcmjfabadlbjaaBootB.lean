/- What boot.next, written, Boot and Torn answer, step by step. Walks alone. -/
import Derived.Test.YtjcmjfabadlbjaaBoot

namespace Go.Proofs.Ytjcmjfabadlbjaa.Boot
open Go.RowKit Go.Proofs.YtjcmjfabadlbjaaW.PrintWords Go.Proofs.YtjcmjfabadlbjaaW.PrintLast Go.Proofs.YtjcmjfabadlbjaaW.PrintMore Go.Proofs.Ytjcmjfabadlbjaa.PS3 Go.Proofs.Ytjcmjfabadlbjaa.Byt Go.Proofs.Ytjcmjfabadlbjaa.Slot
attribute [local go_sem] max2_int min2_int max_two min_two max_three min_three max_four min_four   -- for this text's walks alone

theorem getF_cases (l : List UInt8) : getF l = (0, 300) ∨ ∃ c, In c ∧ getF l = (c, 0) := by
  unfold getF
  by_cases h : l.length = 16 ∧ putL (low4 l) = l
  · rw [if_pos h]; exact .inr ⟨_, low4_range l, rfl⟩
  · rw [if_neg h]; exact .inl rfl

/-- The count behind a disk's. -/
def nextF (a b : ByteArray) : Int × Int :=
  if (countF a b).2 = 0 then (if (countF a b).1 = 4294967295 then (0, 402) else ((countF a b).1 + 1, 0)) else (0, (countF a b).2)

theorem countF_cases (a b : ByteArray) : countF a b = (0, 400) ∨ countF a b = (0, 401) ∨ ∃ c, In c ∧ countF a b = (c, 0) := by
  unfold countF upTo
  by_cases hm : mayB a b = true
  · rw [if_pos hm]
    rcases getF_cases a.data.toList with h1 | ⟨c, hc, h1⟩ <;> rcases getF_cases b.data.toList with h2 | ⟨d, hd, h2⟩
    · rw [h1, h2]; simp
    · rw [h1, h2]; unfold In at hd
      right; right
      refine ⟨d, hd, ?_⟩
      simp only [show ¬ ((300 : Int) = 0) by decide, if_false, if_true]
      rw [if_pos (by omega : (-1 : Int) < d), if_neg (by omega)]
    · rw [h1, h2]; unfold In at hc
      right; right
      refine ⟨c, hc, ?_⟩
      simp only [show ¬ ((300 : Int) = 0) by decide, if_false, if_true]
      rw [if_pos (by omega : (-1 : Int) < c), if_neg (by omega)]
    · rw [h1, h2]; unfold In at hc hd
      right; right
      simp only [if_true]
      rw [if_pos (by omega : -1 < c)]
      by_cases h3 : c < d
      · rw [if_pos h3, if_neg (by omega)]; exact ⟨d, hd, rfl⟩
      · rw [if_neg h3, if_neg (by omega)]; exact ⟨c, hc, rfl⟩
  · rw [if_neg hm]; exact .inl rfl

set_option maxHeartbeats 4000000 in
set_option maxRecDepth 100000 in
theorem next_calls (a b : ByteArray) (r1 r2 : Int) (h : nextF a b = (r1, r2)) (w : World) :
    Calls Try.prog 35 #[.agg #[.string a, .string b]] w fun e w' => e = .returned (.tuple #[.int .i64 r1, .int .i64 r2]) ∧ Below w.heap.size w w' := by
  have hb : ∀ w1, Below (w.alloc (.cells #[.string a, .string b] 45)).heap.size (w.alloc (.cells #[.string a, .string b] 45)) w1 → Below w.heap.size w w1 := fun w1 h => (boxed h).2.2
  replace hb := Aside0.mk hb
  unfold nextF at h
  generalize hc : countF a b = q at h
  obtain ⟨x, e⟩ := q
  have hc' := Aside0.mk hc
  clear hc
  simp only at h
  by_cases h0 : e = 0
  · rw [if_pos h0] at h
    subst h0
    by_cases h1 : x = 4294967295
    · rw [if_pos h1] at h
      injection h with h2 h3
      subst h1 h2 h3
      go_enter Try.func35, Try.ntmps35
      go_wp2_with (go_at_call 21; (with_reducible refine (count_calls a b _ _ hc'.out _).mono ?_); rintro e w1 ⟨rfl, hb1⟩; have HB := Aside0.mk (hb.out _ hb1); clear hb1)
      go_ret2
      exact ⟨rfl, HB.out⟩
    · rw [if_neg h1] at h
      have hx : In x := by
        rcases countF_cases a b with h4 | h4 | ⟨c, hc, h4⟩
        · rw [h4] at hc'; have := hc'.out; simp at this
        · rw [h4] at hc'; have := hc'.out; simp at this
        · rw [h4] at hc'; have := hc'.out; injection this with h5 h6; rw [← h5]; exact hc
      obtain ⟨x0, x1⟩ := hx
      injection h with h2 h3
      subst h2 h3
      have c1 : (x == 4294967295) = false := beq_eq_false_iff_ne.mpr h1
      clear h1
      go_enter Try.func35, Try.ntmps35
      go_wp2_with (go_at_call 21; (with_reducible refine (count_calls a b _ _ hc'.out _).mono ?_); rintro e w1 ⟨rfl, hb1⟩; have HB := Aside0.mk (hb.out _ hb1); clear hb1)
      go_ret2
      exact ⟨rfl, HB.out⟩
  · rw [if_neg h0] at h
    injection h with h2 h3
    subst h2 h3
    have c1 : (e == 0) = false := beq_eq_false_iff_ne.mpr h0
    have c2 : (e != 0) = true := bne_iff_ne.mpr h0
    clear h0
    go_enter Try.func35, Try.ntmps35
    go_wp2_with (go_at_call 21; (with_reducible refine (count_calls a b _ _ hc'.out _).mono ?_); rintro e w1 ⟨rfl, hb1⟩; have HB := Aside0.mk (hb.out _ hb1); clear hb1)
    go_ret2
    exact ⟨rfl, HB.out⟩

theorem frozen_below {w w1 : World} (h : Below w.heap.size w w1) {a : Addr} {v : Value} (hc : w.cell? a = some v) (hf : w.frozen? a = false) : w1.frozen? a = false := (h.frozen (World.block_lt_of_cell? w a hc)).trans hf

/-- Two boxes, behind a call. -/
theorem boxed2 {w w1 : World} {a b c d : ByteArray} (hb : Below ((w.alloc (.cells #[.string a, .string b] 45)).alloc (.cells #[.string c, .string d] 45)).heap.size ((w.alloc (.cells #[.string a, .string b] 45)).alloc (.cells #[.string c, .string d] 45)) w1) :
    (w1.cell? ⟨w.heap.size, 0, none⟩ = some (.string a) ∧ w1.cell? ⟨w.heap.size, 1, none⟩ = some (.string b) ∧ w1.cell? ⟨w.heap.size + 1, 0, none⟩ = some (.string c) ∧ w1.cell? ⟨w.heap.size + 1, 1, none⟩ = some (.string d)) ∧
    (w1.frozen? ⟨w.heap.size, 0, none⟩ = false ∧ w1.frozen? ⟨w.heap.size, 1, none⟩ = false ∧ w1.frozen? ⟨w.heap.size + 1, 0, none⟩ = false ∧ w1.frozen? ⟨w.heap.size + 1, 1, none⟩ = false) ∧
    Below w.heap.size w w1 := by
  have h1 : w1.heap[w.heap.size]? = some (.cells #[.string a, .string b] 45 (0, 0)) := by
    rw [hb.block w.heap.size (by simp; omega), heap_alloc_old _ _ (by simp), heap_alloc_new]
  have h2 : w1.heap[w.heap.size + 1]? = some (.cells #[.string c, .string d] 45 (0, 0)) := by
    rw [hb.block (w.heap.size + 1) (by simp)]
    have := heap_alloc_new (w.alloc (.cells #[.string a, .string b] 45)) (.cells #[.string c, .string d] 45)
    rwa [show (w.alloc (.cells #[.string a, .string b] 45)).heap.size = w.heap.size + 1 by simp] at this
  refine ⟨⟨?_, ?_, ?_, ?_⟩, ⟨?_, ?_, ?_, ?_⟩, ?_⟩
  · simp [World.cell?, h1]
  · simp [World.cell?, h1]
  · simp [World.cell?, h2]
  · simp [World.cell?, h2]
  · simp [World.frozen?, h1]
  · simp [World.frozen?, h1]
  · simp [World.frozen?, h2]
  · simp [World.frozen?, h2]
  · exact below_then (below_alloc (below_alloc (Below.refl w.heap.size w) _) _) (by simp; omega) hb

/-- A disk whose slot of a count was written up to a byte. -/
def writtenF (a b : ByteArray) (n k : Int) : ByteArray × ByteArray :=
  if n % 2 = 0 then ((tornF a (putF n).1 k).1, b) else (a, (tornF b (putF n).1 k).1)

set_option maxHeartbeats 4000000 in
set_option maxRecDepth 100000 in
theorem written_calls (a b : ByteArray) (n k : Int) (r1 r2 : ByteArray) (h : writtenF a b n k = (r1, r2)) (hn : 0 ≤ n) (w : World) :
    Calls Try.prog 36 #[.agg #[.string a, .string b], .int .i64 n, .int .i64 k] w fun e w' => e = .returned (.agg #[.string r1, .string r2]) ∧ Below w.heap.size w w' := by
  unfold writtenF at h
  generalize hp : putF n = p at h
  obtain ⟨s, e⟩ := p
  have hput := put_calls n
  rw [hp] at hput
  replace hput := Aside0.mk hput
  clear hp
  have hm : n.tmod 2 = n % 2 := Int.tmod_eq_emod_of_nonneg hn
  by_cases h0 : n % 2 = 0
  · rw [if_pos h0] at h
    generalize ht : tornF a s k = q at h
    obtain ⟨t, f⟩ := q
    injection h with h2 h3
    subst h2 h3
    rw [h0] at hm
    replace ht := Aside0.mk ht
    go_enter Try.func36, Try.ntmps36
    go_wp2_with (first
      | (go_at_call 13; (with_reducible refine (hput.out _).mono ?_); rintro e w1 ⟨rfl, hb1⟩; obtain ⟨⟨d0, d1, d2, d3⟩, ⟨f0, f1, f2, f3⟩, hb2⟩ := boxed2 hb1; have HB := Aside0.mk hb2; clear hb1 hb2)
      | (go_at_call 17; (with_reducible refine (torn_calls a s k t f ht.out _).mono ?_); rintro e w2 ⟨rfl, ⟨nd, rfl⟩⟩))
    exact bodyPost_ret (v := .agg #[.string t, .string b]) (by simp [results, Try.results36, go_sem, d2, d3]) rfl ⟨rfl, by repeat (first | exact HB.out | (refine Below.setCell ?_ (by simp) _) | apply pw_below_drewN)⟩
  · have h1 : n % 2 = 1 := by omega
    rw [if_neg h0] at h
    generalize ht : tornF b s k = q at h
    obtain ⟨t, f⟩ := q
    injection h with h2 h3
    subst h2 h3
    rw [h1] at hm
    replace ht := Aside0.mk ht
    clear h0
    go_enter Try.func36, Try.ntmps36
    go_wp2_with (first
      | (go_at_call 13; (with_reducible refine (hput.out _).mono ?_); rintro e w1 ⟨rfl, hb1⟩; obtain ⟨⟨d0, d1, d2, d3⟩, ⟨f0, f1, f2, f3⟩, hb2⟩ := boxed2 hb1; have HB := Aside0.mk hb2; clear hb1 hb2)
      | (go_at_call 17; (with_reducible refine (torn_calls b s k t f ht.out _).mono ?_); rintro e w2 ⟨rfl, ⟨nd, rfl⟩⟩))
    exact bodyPost_ret (v := .agg #[.string a, .string t]) (by simp [results, Try.results36, go_sem, d2, d3]) rfl ⟨rfl, by repeat (first | exact HB.out | (refine Below.setCell ?_ (by simp) _) | apply pw_below_drewN)⟩

/-- What a boot makes of a disk. -/
def bootF (a b : ByteArray) (k : Int) : (ByteArray × ByteArray) × Int × Int :=
  if (nextF a b).2 = 0 then (writtenF a b (nextF a b).1 k, (nextF a b).1, 0) else ((⟨#[]⟩, ⟨#[]⟩), 0, (nextF a b).2)

theorem nextF_cases (a b : ByteArray) : (∃ e, e ≠ 0 ∧ nextF a b = (0, e)) ∨ ∃ c, 1 ≤ c ∧ c ≤ 4294967295 ∧ nextF a b = (c, 0) := by
  unfold nextF
  rcases countF_cases a b with h | h | ⟨c, hc, h⟩
  · rw [h]; exact .inl ⟨400, by decide, by simp⟩
  · rw [h]; exact .inl ⟨401, by decide, by simp⟩
  · rw [h]
    unfold In at hc
    simp only [if_true]
    by_cases h1 : c = 4294967295
    · rw [if_pos h1]; exact .inl ⟨402, by decide, rfl⟩
    · rw [if_neg h1]; exact .inr ⟨c + 1, by omega, by omega, rfl⟩

set_option maxHeartbeats 4000000 in
set_option maxRecDepth 100000 in
theorem boot_calls (a b r1 r2 : ByteArray) (x e : Int) (h : bootF a b 16 = ((r1, r2), x, e)) (w : World) :
    Calls Try.prog 23 #[.agg #[.string a, .string b]] w fun e' w' => e' = .returned (.tuple #[.agg #[.string r1, .string r2], .int .i64 x, .int .i64 e]) ∧ Below w.heap.size w w' := by
  unfold bootF at h
  rcases nextF_cases a b with ⟨f, hf, hn⟩ | ⟨c, hc0, hc1, hn⟩
  · rw [hn] at h
    simp only [if_neg hf] at h
    injection h with h1 h2
    injection h1 with h3 h4
    injection h2 with h5 h6
    subst h3 h4 h5 h6
    have c1 : (f == 0) = false := beq_eq_false_iff_ne.mpr hf
    have c2 : (f != 0) = true := bne_iff_ne.mpr hf
    replace hn := Aside0.mk hn
    clear hf
    go_enter Try.func23, Try.ntmps23
    go_wp2_with (go_at_call 35; (with_reducible refine (next_calls a b _ _ hn.out _).mono ?_); rintro e w1 ⟨rfl, hb1⟩; obtain ⟨⟨d0, d1, d2, d3⟩, ⟨f0, f1, f2, f3⟩, hb2⟩ := boxed2 hb1; have HB := Aside0.mk hb2; clear hb1 hb2)
    exact bodyPost_ret (v := .tuple #[.agg #[.string ⟨#[]⟩, .string ⟨#[]⟩], .int .i64 0, .int .i64 f]) (by simp [results, Try.results23, go_sem, d2, d3]) rfl ⟨rfl, by repeat (first | exact HB.out | (refine Below.setCell ?_ (by simp) _) | apply pw_below_drewN)⟩
  · rw [hn] at h
    simp only [if_true] at h
    injection h with h1 h2
    injection h2 with h5 h6
    subst h5 h6
    replace hn := Aside0.mk hn
    replace h1 := Aside0.mk h1
    go_enter Try.func23, Try.ntmps23
    go_wp2_with (first
      | (go_at_call 35; (with_reducible refine (next_calls a b _ _ hn.out _).mono ?_); rintro e w1 ⟨rfl, hb1⟩; obtain ⟨⟨d0, d1, d2, d3⟩, ⟨f0, f1, f2, f3⟩, hb2⟩ := boxed2 hb1; have HB := Aside0.mk hb2; clear hb1 hb2)
      | (go_at_call 36; (with_reducible refine (written_calls a b c 16 r1 r2 h1.out (by omega) _).mono ?_); rintro e w2 ⟨rfl, hb1⟩; replace f2 := frozen_below hb1 d2 f2; replace f3 := frozen_below hb1 d3 f3; replace d2 := pw_cell_below hb1 d2; replace d3 := pw_cell_below hb1 d3; have n0_ := Aside0.mk (below_step HB.out hb1); clear HB hb1 d0 d1 f0 f1; have HB := n0_; clear n0_))
    exact bodyPost_ret (v := .tuple #[.agg #[.string r1, .string r2], .int .i64 c, .int .i64 0]) (by simp [results, Try.results23, go_sem, d2, d3]) rfl ⟨rfl, by repeat (first | exact HB.out | (refine Below.setCell ?_ (by simp) _) | apply pw_below_drewN)⟩

end Go.Proofs.Ytjcmjfabadlbjaa.Boot
