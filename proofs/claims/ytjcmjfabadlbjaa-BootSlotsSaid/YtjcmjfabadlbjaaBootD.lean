/- What the reference's BootTorn, Boot and TornBoot answer, step by step. Walks alone. -/
import Derived.Test.YtjcmjfabadlbjaaBootC
import Derived.Test.YtjcmjfabadlbjaaForms
namespace Go.Proofs.Ytjcmjfabadlbjaa.Boot
open Go.RowKit Go.Proofs.YtjcmjfabadlbjaaW.PrintWords Go.Proofs.YtjcmjfabadlbjaaW.PrintLast Go.Proofs.YtjcmjfabadlbjaaW.PrintMore Go.Proofs.Ytjcmjfabadlbjaa.PS3 Go.Proofs.Ytjcmjfabadlbjaa.Byt Go.Proofs.Ytjcmjfabadlbjaa.Slot

set_option maxHeartbeats 4000000 in
set_option maxRecDepth 100000 in
theorem bootTornRef_calls (a b : ByteArray) (k : Int) (r1 r2 : ByteArray) (x' e' : Int) (h : bootF a b k = ((r1, r2), x', e')) (w : World) :
    Calls Try.prog 37 #[.agg #[.string a, .string b], .int .i64 k] w fun e w' => e = .returned (.tuple #[.agg #[.string r1, .string r2], .int .i64 x', .int .i64 e']) ∧ Below w.heap.size w w' := by
  have hcases := countF_cases a b
  unfold bootF nextF at h
  generalize hc : countF a b = q at h hcases
  obtain ⟨x, e⟩ := q
  replace hc := Aside0.mk hc
  simp only at h
  by_cases h0 : e = 0
  · subst h0
    simp only [if_true] at h
    by_cases h1 : x = 4294967295
    · subst h1
      simp only [if_true, show ¬ ((402 : Int) = 0) by decide, if_false] at h
      injection h with h2 h3; injection h2 with h4 h5; injection h3 with h6 h7
      subst h4 h5 h6 h7
      clear hcases
      go_enter Try.func37, Try.ntmps37
      go_wp2_with (go_at_call 22; (with_reducible refine (countRef_calls a b _ _ hc.out _).mono ?_); rintro e w1 ⟨rfl, hb1⟩; obtain ⟨⟨d0, d1, d2, d3⟩, ⟨f0, f1, f2, f3⟩, hb2⟩ := boxed2 hb1; have HB := Aside0.mk hb2; clear hb1 hb2)
      exact bodyPost_ret (v := .tuple #[.agg #[.string ⟨#[]⟩, .string ⟨#[]⟩], .int .i64 0, .int .i64 402]) (by simp [results, Try.results37, go_sem, d2, d3]) rfl ⟨rfl, by repeat (first | exact HB.out | (refine Below.setCell ?_ (by simp) _) | apply pw_below_drewN)⟩

    · simp only [if_neg h1, if_true] at h
      have hx : In x := by
        rcases hcases with h4 | h4 | ⟨c, hc, h4⟩
        · injection h4 with h5 h6; exact absurd h6 (by decide)
        · injection h4 with h5 h6; exact absurd h6 (by decide)
        · injection h4 with h5 h6; rw [h5]; exact hc
      obtain ⟨x0, x1⟩ := hx
      clear hcases
      injection h with h2 h3; injection h3 with h6 h7
      subst h6 h7
      have c1 : (x == 4294967295) = false := beq_eq_false_iff_ne.mpr h1
      unfold writtenF at h2
      generalize hp : putF (x + 1) = p at h2
      obtain ⟨s, e⟩ := p
      have hput := putRef_calls (x + 1)
      rw [hp] at hput
      replace hput := Aside0.mk hput
      clear hp h1
      have hand := and1 (x + 1)
      by_cases h8 : (x + 1) % 2 = 0
      · rw [if_pos h8] at h2
        rw [h8] at hand
        generalize ht : tornF a s k = q at h2
        obtain ⟨t, f⟩ := q
        injection h2 with h3 h4
        subst h3 h4
        replace ht := Aside0.mk ht
        clear h8
        go_enter Try.func37, Try.ntmps37
        go_wp2_with (first
          | (go_at_call 22; (with_reducible refine (countRef_calls a b _ _ hc.out _).mono ?_); rintro e w1 ⟨rfl, hb1⟩; obtain ⟨⟨d0, d1, d2, d3⟩, ⟨f0, f1, f2, f3⟩, hb2⟩ := boxed2 hb1; have HB := Aside0.mk hb2; clear hb1 hb2)
          | (go_at_call 14; (with_reducible refine (hput.out _).mono ?_); rintro e w2 ⟨rfl, hb1⟩; replace f0 := frozen_below hb1 d0 f0; replace f1 := frozen_below hb1 d1 f1; replace f2 := frozen_below hb1 d2 f2; replace f3 := frozen_below hb1 d3 f3; replace d0 := pw_cell_below hb1 d0; replace d1 := pw_cell_below hb1 d1; replace d2 := pw_cell_below hb1 d2; replace d3 := pw_cell_below hb1 d3; have n0_ := Aside0.mk (below_step HB.out hb1); clear HB hb1; have HB := n0_; clear n0_)
          | (go_at_call 18; (with_reducible refine (tornRef_calls a s k t f ht.out _).mono ?_); rintro e w3 ⟨rfl, ⟨nd, rfl⟩⟩))
        exact bodyPost_ret (v := .tuple #[.agg #[.string t, .string b], .int .i64 (x + 1), .int .i64 0]) (by simp [results, Try.results37, go_sem, d2, d3]) rfl ⟨rfl, by repeat (first | exact HB.out | (refine Below.setCell ?_ (by simp) _) | apply pw_below_drewN)⟩
  
      · rw [if_neg h8] at h2
        rw [show (x + 1) % 2 = 1 by omega] at hand
        generalize ht : tornF b s k = q at h2
        obtain ⟨t, f⟩ := q
        injection h2 with h3 h4
        subst h3 h4
        replace ht := Aside0.mk ht
        clear h8
        go_enter Try.func37, Try.ntmps37
        go_wp2_with (first
          | (go_at_call 22; (with_reducible refine (countRef_calls a b _ _ hc.out _).mono ?_); rintro e w1 ⟨rfl, hb1⟩; obtain ⟨⟨d0, d1, d2, d3⟩, ⟨f0, f1, f2, f3⟩, hb2⟩ := boxed2 hb1; have HB := Aside0.mk hb2; clear hb1 hb2)
          | (go_at_call 14; (with_reducible refine (hput.out _).mono ?_); rintro e w2 ⟨rfl, hb1⟩; replace f0 := frozen_below hb1 d0 f0; replace f1 := frozen_below hb1 d1 f1; replace f2 := frozen_below hb1 d2 f2; replace f3 := frozen_below hb1 d3 f3; replace d0 := pw_cell_below hb1 d0; replace d1 := pw_cell_below hb1 d1; replace d2 := pw_cell_below hb1 d2; replace d3 := pw_cell_below hb1 d3; have n0_ := Aside0.mk (below_step HB.out hb1); clear HB hb1; have HB := n0_; clear n0_)
          | (go_at_call 18; (with_reducible refine (tornRef_calls b s k t f ht.out _).mono ?_); rintro e w3 ⟨rfl, ⟨nd, rfl⟩⟩))
        exact bodyPost_ret (v := .tuple #[.agg #[.string a, .string t], .int .i64 (x + 1), .int .i64 0]) (by simp [results, Try.results37, go_sem, d2, d3]) rfl ⟨rfl, by repeat (first | exact HB.out | (refine Below.setCell ?_ (by simp) _) | apply pw_below_drewN)⟩
  
  · simp only [if_neg h0] at h
    injection h with h2 h3; injection h2 with h4 h5; injection h3 with h6 h7
    subst h4 h5 h6 h7
    have c1 : (e == 0) = false := beq_eq_false_iff_ne.mpr h0
    have c2 : (e != 0) = true := bne_iff_ne.mpr h0
    clear h0 hcases
    go_enter Try.func37, Try.ntmps37
    go_wp2_with (go_at_call 22; (with_reducible refine (countRef_calls a b _ _ hc.out _).mono ?_); rintro e w1 ⟨rfl, hb1⟩; obtain ⟨⟨d0, d1, d2, d3⟩, ⟨f0, f1, f2, f3⟩, hb2⟩ := boxed2 hb1; have HB := Aside0.mk hb2; clear hb1 hb2)
    exact bodyPost_ret (v := .tuple #[.agg #[.string ⟨#[]⟩, .string ⟨#[]⟩], .int .i64 0, .int .i64 e]) (by simp [results, Try.results37, go_sem, d2, d3]) rfl ⟨rfl, by repeat (first | exact HB.out | (refine Below.setCell ?_ (by simp) _) | apply pw_below_drewN)⟩

set_option maxHeartbeats 4000000 in
set_option maxRecDepth 100000 in
theorem bootRef_calls (a b : ByteArray) (r1 r2 : ByteArray) (x e : Int) (h : bootF a b 16 = ((r1, r2), x, e)) (w : World) :
    Calls Try.prog 24 #[.agg #[.string a, .string b]] w fun e' w' => e' = .returned (.tuple #[.agg #[.string r1, .string r2], .int .i64 x, .int .i64 e]) ∧ Below w.heap.size w w' := by
  replace h := Aside0.mk h
  go_enter Try.func24, Try.ntmps24
  go_wp2_with (go_at_call 37; (with_reducible refine (bootTornRef_calls a b 16 r1 r2 x e h.out _).mono ?_); rintro e w1 ⟨rfl, hb1⟩; obtain ⟨⟨d0, d1, d2, d3⟩, ⟨f0, f1, f2, f3⟩, hb2⟩ := boxed2 hb1; have HB := Aside0.mk hb2; clear hb1 hb2)
  exact bodyPost_ret (v := .tuple #[.agg #[.string r1, .string r2], .int .i64 x, .int .i64 e]) (by simp [results, Try.results24, go_sem, d2, d3]) rfl ⟨rfl, by repeat (first | exact HB.out | (refine Below.setCell ?_ (by simp) _) | apply pw_below_drewN)⟩

theorem upTo_true (k : Int) (h0 : 0 ≤ k) (h1 : k ≤ 16) : watchwordref1_upTo.f k 0 16 = some true := by
  unfold watchwordref1_upTo.f; rw [if_pos (by omega)]; simp [h1]
theorem upTo_false (k : Int) (h : ¬ (0 ≤ k ∧ k ≤ 16)) : watchwordref1_upTo.f k 0 16 = some false := by
  unfold watchwordref1_upTo.f
  by_cases h0 : k ≥ 0
  · rw [if_pos h0]; simp; omega
  · rw [if_neg h0]

set_option maxHeartbeats 4000000 in
set_option maxRecDepth 100000 in
theorem tornBootRef_may (a b : ByteArray) (k : Int) (hm : mayB a b = false) (w : World) :
    Calls Try.prog 26 #[.agg #[.string a, .string b], .int .i64 k] w fun e' w' => e' = .returned (.tuple #[.agg #[.string ⟨#[]⟩, .string ⟨#[]⟩], .int .i64 400]) ∧ Below w.heap.size w w' := by
  replace hm := Aside0.mk hm
  go_enter Try.func26, Try.ntmps26
  go_wp2_with (go_at_call 28; (with_reducible refine (mayRef_calls a b false hm.out _).mono ?_); rintro e w1 ⟨rfl, hb1⟩; obtain ⟨⟨d0, d1, d2, d3⟩, ⟨f0, f1, f2, f3⟩, hb2⟩ := boxed2 hb1; have HB := Aside0.mk hb2; clear hb1 hb2)
  exact bodyPost_ret (v := .tuple #[.agg #[.string ⟨#[]⟩, .string ⟨#[]⟩], .int .i64 400]) (by simp [results, Try.results26, go_sem, d2, d3]) rfl ⟨rfl, by repeat (first | exact HB.out | (refine Below.setCell ?_ (by simp) _) | apply pw_below_drewN)⟩

set_option maxHeartbeats 4000000 in
set_option maxRecDepth 100000 in
theorem tornBootRef_out (a b : ByteArray) (k : Int) (hm : mayB a b = true) (hk : ¬ (0 ≤ k ∧ k ≤ 16)) (w : World) :
    Calls Try.prog 26 #[.agg #[.string a, .string b], .int .i64 k] w fun e' w' => e' = .returned (.tuple #[.agg #[.string ⟨#[]⟩, .string ⟨#[]⟩], .int .i64 400]) ∧ Below w.heap.size w w' := by
  replace hm := Aside0.mk hm
  have hu := Aside0.mk (upTo_false k hk)
  clear hk
  go_enter Try.func26, Try.ntmps26
  go_wp2_with (first
    | (go_at_call 28; (with_reducible refine (mayRef_calls a b true hm.out _).mono ?_); rintro e w1 ⟨rfl, hb1⟩; obtain ⟨⟨d0, d1, d2, d3⟩, ⟨f0, f1, f2, f3⟩, hb2⟩ := boxed2 hb1; have HB := Aside0.mk hb2; clear hb1 hb2)
    | (go_at_call 32; (with_reducible refine (watchwordref1_upTo.calls k 0 16 false _ hu.out).mono ?_); rintro e w' ⟨rfl, ⟨nd, rfl⟩⟩))
  exact bodyPost_ret (v := .tuple #[.agg #[.string ⟨#[]⟩, .string ⟨#[]⟩], .int .i64 400]) (by simp [results, Try.results26, go_sem, d2, d3]) rfl ⟨rfl, by repeat (first | exact HB.out | (refine Below.setCell ?_ (by simp) _) | apply pw_below_drewN)⟩

set_option maxHeartbeats 4000000 in
set_option maxRecDepth 100000 in
theorem tornBootRef_good (a b : ByteArray) (k : Int) (hm : mayB a b = true) (hk0 : 0 ≤ k) (hk1 : k ≤ 16) (r1 r2 : ByteArray) (x e : Int) (h : bootF a b k = ((r1, r2), x, e)) (w : World) :
    Calls Try.prog 26 #[.agg #[.string a, .string b], .int .i64 k] w fun e' w' => e' = .returned (.tuple #[.agg #[.string r1, .string r2], .int .i64 e]) ∧ Below w.heap.size w w' := by
  replace hm := Aside0.mk hm
  replace h := Aside0.mk h
  have hu := Aside0.mk (upTo_true k hk0 hk1)
  clear hk0 hk1
  go_enter Try.func26, Try.ntmps26
  go_wp2_with (first
    | (go_at_call 28; (with_reducible refine (mayRef_calls a b true hm.out _).mono ?_); rintro e w1 ⟨rfl, hb1⟩; obtain ⟨⟨d0, d1, d2, d3⟩, ⟨f0, f1, f2, f3⟩, hb2⟩ := boxed2 hb1; have HB := Aside0.mk hb2; clear hb1 hb2)
    | (go_at_call 32; (with_reducible refine (watchwordref1_upTo.calls k 0 16 true _ hu.out).mono ?_); rintro e w' ⟨rfl, ⟨nd, rfl⟩⟩)
    | (go_at_call 37; (with_reducible refine (bootTornRef_calls a b k r1 r2 x e h.out _).mono ?_); rintro e w2 ⟨rfl, hb1⟩; replace f0 := frozen_below hb1 d0 f0; replace f1 := frozen_below hb1 d1 f1; replace f2 := frozen_below hb1 d2 f2; replace f3 := frozen_below hb1 d3 f3; replace d0 := pw_cell_below hb1 d0; replace d1 := pw_cell_below hb1 d1; replace d2 := pw_cell_below hb1 d2; replace d3 := pw_cell_below hb1 d3; have hz : w.heap.size + 1 < w2.heap.size := World.block_lt_of_cell? _ _ d2; have n0_ := Aside0.mk (below_step (pw_below_drewN HB.out _) hb1); clear HB hb1; have HB := n0_; clear n0_))
  exact bodyPost_ret (v := .tuple #[.agg #[.string r1, .string r2], .int .i64 e]) (by simp [results, Try.results26, go_sem, d2, d3, hz]) rfl ⟨rfl, by repeat (first | exact HB.out | (refine Below.setCell ?_ (by simp) _) | (refine Below.setCell ?_ (by simp; omega) _) | (refine Below.alloc ?_ (by simp; omega) _) | apply pw_below_drewN)⟩

theorem tornBootRef_calls (a b : ByteArray) (k : Int) (r1 r2 : ByteArray) (e : Int) (h : tornBF a b k = ((r1, r2), e)) (w : World) :
    Calls Try.prog 26 #[.agg #[.string a, .string b], .int .i64 k] w fun e' w' => e' = .returned (.tuple #[.agg #[.string r1, .string r2], .int .i64 e]) ∧ Below w.heap.size w w' := by
  unfold tornBF at h
  by_cases hm : mayB a b = true
  · by_cases hk : 0 ≤ k ∧ k ≤ 16
    · rw [if_pos ⟨hm, hk⟩] at h
      injection h with h1 h2
      refine tornBootRef_good a b k hm hk.1 hk.2 r1 r2 (bootF a b k).2.1 e ?_ w
      rw [← h1, ← h2]
    · rw [if_neg (fun h => hk h.2)] at h
      injection h with h1 h2; injection h1 with h3 h4; subst h2 h3 h4
      exact tornBootRef_out a b k hm hk w
  · rw [if_neg (fun h => hm h.1)] at h
    injection h with h1 h2; injection h1 with h3 h4; subst h2 h3 h4
    exact tornBootRef_may a b k (Bool.eq_false_iff.mpr hm) w

end Go.Proofs.Ytjcmjfabadlbjaa.Boot
