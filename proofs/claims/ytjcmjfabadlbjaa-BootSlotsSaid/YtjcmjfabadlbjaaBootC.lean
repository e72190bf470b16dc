/- What boot.Torn and the reference's Count, BootTorn, Boot and TornBoot answer, step by step. Walks alone. -/
import Derived.Test.YtjcmjfabadlbjaaBootB
namespace Go.Proofs.Ytjcmjfabadlbjaa.Boot
open Go.RowKit Go.Proofs.YtjcmjfabadlbjaaW.PrintWords Go.Proofs.YtjcmjfabadlbjaaW.PrintLast Go.Proofs.YtjcmjfabadlbjaaW.PrintMore Go.Proofs.Ytjcmjfabadlbjaa.PS3 Go.Proofs.Ytjcmjfabadlbjaa.Byt Go.Proofs.Ytjcmjfabadlbjaa.Slot
attribute [local go_sem] max2_int min2_int max_two min_two max_three min_three max_four min_four   -- for this text's walks alone

/-- A boot of which so much of the slot lasts. -/
def tornBF (a b : ByteArray) (k : Int) : (ByteArray × ByteArray) × Int :=
  if mayB a b = true ∧ 0 ≤ k ∧ k ≤ 16 then ((bootF a b k).1, (bootF a b k).2.2) else ((⟨#[]⟩, ⟨#[]⟩), 400)

set_option maxHeartbeats 4000000 in
set_option maxRecDepth 100000 in
theorem torn_may (a b : ByteArray) (k : Int) (hm : mayB a b = false) (w : World) :
    Calls Try.prog 25 #[.agg #[.string a, .string b], .int .i64 k] w fun e' w' => e' = .returned (.tuple #[.agg #[.string ⟨#[]⟩, .string ⟨#[]⟩], .int .i64 400]) ∧ Below w.heap.size w w' := by
  replace hm := Aside0.mk hm
  go_enter Try.func25, Try.ntmps25
  go_wp2_with (go_at_call 27; (with_reducible refine (may_calls a b false hm.out _).mono ?_); rintro e w1 ⟨rfl, hb1⟩; obtain ⟨⟨d0, d1, d2, d3⟩, ⟨f0, f1, f2, f3⟩, hb2⟩ := boxed2 hb1; have HB := Aside0.mk hb2; clear hb1 hb2)
  exact bodyPost_ret (v := .tuple #[.agg #[.string ⟨#[]⟩, .string ⟨#[]⟩], .int .i64 400]) (by simp [results, Try.results25, go_sem, d2, d3]) rfl ⟨rfl, by repeat (first | exact HB.out | (refine Below.setCell ?_ (by simp) _) | apply pw_below_drewN)⟩

set_option maxHeartbeats 4000000 in
set_option maxRecDepth 100000 in
theorem torn_low (a b : ByteArray) (k : Int) (hm : mayB a b = true) (hk : k < 0) (w : World) :
    Calls Try.prog 25 #[.agg #[.string a, .string b], .int .i64 k] w fun e' w' => e' = .returned (.tuple #[.agg #[.string ⟨#[]⟩, .string ⟨#[]⟩], .int .i64 400]) ∧ Below w.heap.size w w' := by
  replace hm := Aside0.mk hm
  have c1 : decide (k < 0) = true := decide_eq_true hk
  clear hk
  go_enter Try.func25, Try.ntmps25
  go_wp2_with (go_at_call 27; (with_reducible refine (may_calls a b true hm.out _).mono ?_); rintro e w1 ⟨rfl, hb1⟩; obtain ⟨⟨d0, d1, d2, d3⟩, ⟨f0, f1, f2, f3⟩, hb2⟩ := boxed2 hb1; have HB := Aside0.mk hb2; clear hb1 hb2)
  exact bodyPost_ret (v := .tuple #[.agg #[.string ⟨#[]⟩, .string ⟨#[]⟩], .int .i64 400]) (by simp [results, Try.results25, go_sem, d2, d3]) rfl ⟨rfl, by repeat (first | exact HB.out | (refine Below.setCell ?_ (by simp) _) | apply pw_below_drewN)⟩

set_option maxHeartbeats 4000000 in
set_option maxRecDepth 100000 in
theorem torn_high (a b : ByteArray) (k : Int) (hm : mayB a b = true) (hk : 16 < k) (w : World) :
    Calls Try.prog 25 #[.agg #[.string a, .string b], .int .i64 k] w fun e' w' => e' = .returned (.tuple #[.agg #[.string ⟨#[]⟩, .string ⟨#[]⟩], .int .i64 400]) ∧ Below w.heap.size w w' := by
  replace hm := Aside0.mk hm
  have c1 : decide (k < 0) = false := decide_eq_false (by omega)
  have c2 : decide ((16 : Int) < k) = true := decide_eq_true hk
  clear hk
  go_enter Try.func25, Try.ntmps25
  go_wp2_with (go_at_call 27; (with_reducible refine (may_calls a b true hm.out _).mono ?_); rintro e w1 ⟨rfl, hb1⟩; obtain ⟨⟨d0, d1, d2, d3⟩, ⟨f0, f1, f2, f3⟩, hb2⟩ := boxed2 hb1; have HB := Aside0.mk hb2; clear hb1 hb2)
  exact bodyPost_ret (v := .tuple #[.agg #[.string ⟨#[]⟩, .string ⟨#[]⟩], .int .i64 400]) (by simp [results, Try.results25, go_sem, d2, d3]) rfl ⟨rfl, by repeat (first | exact HB.out | (refine Below.setCell ?_ (by simp) _) | apply pw_below_drewN)⟩

set_option maxHeartbeats 4000000 in
set_option maxRecDepth 100000 in
theorem torn_good (a b : ByteArray) (k : Int) (hm : mayB a b = true) (hk0 : 0 ≤ k) (hk1 : k ≤ 16) (r1 r2 : ByteArray) (x e : Int) (h : bootF a b k = ((r1, r2), x, e)) (w : World) :
    Calls Try.prog 25 #[.agg #[.string a, .string b], .int .i64 k] w fun e' w' => e' = .returned (.tuple #[.agg #[.string r1, .string r2], .int .i64 e]) ∧ Below w.heap.size w w' := by
  replace hm := Aside0.mk hm
  have c3 : decide (k < 0) = false := decide_eq_false (by omega)
  have c4 : decide ((16 : Int) < k) = false := decide_eq_false (by omega)
  unfold bootF at h
  rcases nextF_cases a b with ⟨f, hf, hn⟩ | ⟨c, hc0, hc1, hn⟩
  · rw [hn] at h
    simp only [if_neg hf] at h
    injection h with h1 h2
    injection h1 with h3 h4
    injection h2 with h5 h6
    subst h3 h4 h5 h6
    have c1 : (f == 0) = false := beq_eq_false_iff_ne.mpr hf
    have c2 : (f != 0) = true := bne_iff_ne.mpr hf
    replace hn := Aside0.mk hn
    clear hf
    go_enter Try.func25, Try.ntmps25
    go_wp2_with (first
      | (go_at_call 27; (with_reducible refine (may_calls a b true hm.out _).mono ?_); rintro e w1 ⟨rfl, hb1⟩; obtain ⟨⟨d0, d1, d2, d3⟩, ⟨f0, f1, f2, f3⟩, hb2⟩ := boxed2 hb1; have HB := Aside0.mk hb2; clear hb1 hb2)
      | (go_at_call 35; (with_reducible refine (next_calls a b _ _ hn.out _).mono ?_); rintro e w2 ⟨rfl, hb1⟩; replace f2 := frozen_below hb1 d2 f2; replace f3 := frozen_below hb1 d3 f3; replace d2 := pw_cell_below hb1 d2; replace d3 := pw_cell_below hb1 d3; have n0_ := Aside0.mk (below_step HB.out hb1); clear HB hb1 d0 d1; have HB := n0_; clear n0_))
    exact bodyPost_ret (v := .tuple #[.agg #[.string ⟨#[]⟩, .string ⟨#[]⟩], .int .i64 f]) (by simp [results, Try.results25, go_sem, d2, d3]) rfl ⟨rfl, by repeat (first | exact HB.out | (refine Below.setCell ?_ (by simp) _) | apply pw_below_drewN)⟩

  · rw [hn] at h
    simp only [if_true] at h
    injection h with h1 h2
    injection h2 with h5 h6
    subst h5 h6
    replace hn := Aside0.mk hn
    replace h1 := Aside0.mk h1
    go_enter Try.func25, Try.ntmps25
    go_wp2_with (first
      | (go_at_call 27; (with_reducible refine (may_calls a b true hm.out _).mono ?_); rintro e w1 ⟨rfl, hb1⟩; obtain ⟨⟨d0, d1, d2, d3⟩, ⟨f0, f1, f2, f3⟩, hb2⟩ := boxed2 hb1; have HB := Aside0.mk hb2; clear hb1 hb2)
      | (go_at_call 35; (with_reducible refine (next_calls a b _ _ hn.out _).mono ?_); rintro e w2 ⟨rfl, hb1⟩; replace f2 := frozen_below hb1 d2 f2; replace f3 := frozen_below hb1 d3 f3; replace d0 := pw_cell_below hb1 d0; replace d1 := pw_cell_below hb1 d1; replace d2 := pw_cell_below hb1 d2; replace d3 := pw_cell_below hb1 d3; have n0_ := Aside0.mk (below_step HB.out hb1); clear HB hb1 f0 f1; have HB := n0_; clear n0_)
      | (go_at_call 36; (with_reducible refine (written_calls a b c k r1 r2 h1.out (by omega) _).mono ?_); rintro e w3 ⟨rfl, hb1⟩; replace f2 := frozen_below hb1 d2 f2; replace f3 := frozen_below hb1 d3 f3; replace d2 := pw_cell_below hb1 d2; replace d3 := pw_cell_below hb1 d3; have n0_ := Aside0.mk (below_step HB.out hb1); clear HB hb1 d0 d1; have HB := n0_; clear n0_))
    exact bodyPost_ret (v := .tuple #[.agg #[.string r1, .string r2], .int .i64 0]) (by simp [results, Try.results25, go_sem, d2, d3]) rfl ⟨rfl, by repeat (first | exact HB.out | (refine Below.setCell ?_ (by simp) _) | apply pw_below_drewN)⟩

theorem tornB_calls (a b : ByteArray) (k : Int) (r1 r2 : ByteArray) (e : Int) (h : tornBF a b k = ((r1, r2), e)) (w : World) :
    Calls Try.prog 25 #[.agg #[.string a, .string b], .int .i64 k] w fun e' w' => e' = .returned (.tuple #[.agg #[.string r1, .string r2], .int .i64 e]) ∧ Below w.heap.size w w' := by
  unfold tornBF at h
  by_cases hm : mayB a b = true
  · by_cases hk0 : k < 0
    · rw [if_neg (by omega)] at h
      injection h with h1 h2; injection h1 with h3 h4; subst h2 h3 h4
      exact torn_low a b k hm hk0 w
    · by_cases hk1 : 16 < k
      · rw [if_neg (by omega)] at h
        injection h with h1 h2; injection h1 with h3 h4; subst h2 h3 h4
        exact torn_high a b k hm hk1 w
      · rw [if_pos ⟨hm, by omega, by omega⟩] at h
        injection h with h1 h2
        refine torn_good a b k hm (by omega) (by omega) r1 r2 (bootF a b k).2.1 e ?_ w
        rw [← h1, ← h2]
  · rw [if_neg (fun h => hm h.1)] at h
    injection h with h1 h2; injection h1 with h3 h4; subst h2 h3 h4
    exact torn_may a b k (Bool.eq_false_iff.mpr hm) w

set_option maxHeartbeats 4000000 in
set_option maxRecDepth 100000 in
theorem countRef_bad (a b : ByteArray) (hm : mayB a b = false) (w : World) :
    Calls Try.prog 22 #[.agg #[.string a, .string b]] w fun e w' => e = .returned (.tuple #[.int .i64 0, .int .i64 400]) ∧ Below w.heap.size w w' := by
  replace hm := Aside0.mk hm
  go_enter Try.func22, Try.ntmps22
  go_wp2_with (go_at_call 28; (with_reducible refine (mayRef_calls a b false hm.out _).mono ?_); rintro e w1 ⟨rfl, hb1⟩; obtain ⟨d0, d1, hb2⟩ := boxed hb1; have HB := Aside0.mk hb2; clear hb1 hb2)
  go_ret2
  exact ⟨rfl, HB.out⟩

set_option maxHeartbeats 4000000 in
set_option maxRecDepth 100000 in
theorem countRef_none (a b : ByteArray) (hm : mayB a b = true) (hx : getF a.data.toList = (0, 300)) (hy : getF b.data.toList = (0, 300)) (w : World) :
    Calls Try.prog 22 #[.agg #[.string a, .string b]] w fun e w' => e = .returned (.tuple #[.int .i64 0, .int .i64 401]) ∧ Below w.heap.size w w' := by
  replace hm := Aside0.mk hm
  replace hx := Aside0.mk hx
  replace hy := Aside0.mk hy
  go_enter Try.func22, Try.ntmps22
  go_wp2_with (first
    | (go_at_call 28; (with_reducible refine (mayRef_calls a b true hm.out _).mono ?_); rintro e w1 ⟨rfl, hb1⟩; obtain ⟨d0, d1, hb2⟩ := boxed hb1; have HB := Aside0.mk hb2; clear hb1 hb2)
    | (go_at_call 16; first
        | ((with_reducible refine (getRef_calls a _ _ hx.out _).mono ?_); rintro e w2 ⟨rfl, hb1⟩; replace d0 := pw_cell_below hb1 d0; replace d1 := pw_cell_below hb1 d1; have n0_ := Aside0.mk (below_step HB.out hb1); clear HB hb1; have HB := n0_; clear n0_)
        | ((with_reducible refine (getRef_calls b _ _ hy.out _).mono ?_); rintro e w3 ⟨rfl, hb1⟩; replace d0 := pw_cell_below hb1 d0; replace d1 := pw_cell_below hb1 d1; have n0_ := Aside0.mk (below_step HB.out hb1); clear HB hb1; have HB := n0_; clear n0_)))
  all_goals (go_ret2; exact ⟨rfl, HB.out⟩)

set_option maxHeartbeats 4000000 in
set_option maxRecDepth 100000 in
theorem countRef_second (a b : ByteArray) (hm : mayB a b = true) (hx : getF a.data.toList = (0, 300)) (d : Int) (hd : In d) (hy : getF b.data.toList = (d, 0)) (w : World) :
    Calls Try.prog 22 #[.agg #[.string a, .string b]] w fun e w' => e = .returned (.tuple #[.int .i64 (if 0 < d then d else 0), .int .i64 0]) ∧ Below w.heap.size w w' := by
  replace hm := Aside0.mk hm
  replace hx := Aside0.mk hx
  replace hy := Aside0.mk hy
  replace hd := Aside0.mk hd
  go_enter Try.func22, Try.ntmps22
  go_wp2_with (first
    | (go_at_call 28; (with_reducible refine (mayRef_calls a b true hm.out _).mono ?_); rintro e w1 ⟨rfl, hb1⟩; obtain ⟨d0, d1, hb2⟩ := boxed hb1; have HB := Aside0.mk hb2; clear hb1 hb2)
    | (go_at_call 16; first
        | ((with_reducible refine (getRef_calls a _ _ hx.out _).mono ?_); rintro e w2 ⟨rfl, hb1⟩; replace d0 := pw_cell_below hb1 d0; replace d1 := pw_cell_below hb1 d1; have n0_ := Aside0.mk (below_step HB.out hb1); clear HB hb1; have HB := n0_; clear n0_)
        | ((with_reducible refine (getRef_calls b _ _ hy.out _).mono ?_); rintro e w3 ⟨rfl, hb1⟩; replace d0 := pw_cell_below hb1 d0; replace d1 := pw_cell_below hb1 d1; have n0_ := Aside0.mk (below_step HB.out hb1); clear HB hb1; have HB := n0_; clear n0_)))
  all_goals (go_ret2; exact ⟨rfl, HB.out⟩)

set_option maxHeartbeats 4000000 in
set_option maxRecDepth 100000 in
theorem countRef_first (a b : ByteArray) (hm : mayB a b = true) (c : Int) (hc : In c) (hx : getF a.data.toList = (c, 0)) (hy : getF b.data.toList = (0, 300)) (w : World) :
    Calls Try.prog 22 #[.agg #[.string a, .string b]] w fun e w' => e = .returned (.tuple #[.int .i64 (if c < 0 then 0 else c), .int .i64 0]) ∧ Below w.heap.size w w' := by
  replace hm := Aside0.mk hm
  replace hx := Aside0.mk hx
  replace hy := Aside0.mk hy
  replace hc := Aside0.mk hc
  go_enter Try.func22, Try.ntmps22
  go_wp2_with (first
    | (go_at_call 28; (with_reducible refine (mayRef_calls a b true hm.out _).mono ?_); rintro e w1 ⟨rfl, hb1⟩; obtain ⟨d0, d1, hb2⟩ := boxed hb1; have HB := Aside0.mk hb2; clear hb1 hb2)
    | (go_at_call 16; first
        | ((with_reducible refine (getRef_calls a _ _ hx.out _).mono ?_); rintro e w2 ⟨rfl, hb1⟩; replace d0 := pw_cell_below hb1 d0; replace d1 := pw_cell_below hb1 d1; have n0_ := Aside0.mk (below_step HB.out hb1); clear HB hb1; have HB := n0_; clear n0_)
        | ((with_reducible refine (getRef_calls b _ _ hy.out _).mono ?_); rintro e w3 ⟨rfl, hb1⟩; replace d0 := pw_cell_below hb1 d0; replace d1 := pw_cell_below hb1 d1; have n0_ := Aside0.mk (below_step HB.out hb1); clear HB hb1; have HB := n0_; clear n0_)))
  all_goals (go_ret2; exact ⟨rfl, HB.out⟩)

set_option maxHeartbeats 4000000 in
set_option maxRecDepth 100000 in
theorem countRef_both (a b : ByteArray) (hm : mayB a b = true) (c d : Int) (hx : getF a.data.toList = (c, 0)) (hy : getF b.data.toList = (d, 0)) (w : World) :
    Calls Try.prog 22 #[.agg #[.string a, .string b]] w fun e w' => e = .returned (.tuple #[.int .i64 (if c < d then d else c), .int .i64 0]) ∧ Below w.heap.size w w' := by
  replace hm := Aside0.mk hm
  replace hx := Aside0.mk hx
  replace hy := Aside0.mk hy
  go_enter Try.func22, Try.ntmps22
  go_wp2_with (first
    | (go_at_call 28; (with_reducible refine (mayRef_calls a b true hm.out _).mono ?_); rintro e w1 ⟨rfl, hb1⟩; obtain ⟨d0, d1, hb2⟩ := boxed hb1; have HB := Aside0.mk hb2; clear hb1 hb2)
    | (go_at_call 16; first
        | ((with_reducible refine (getRef_calls a _ _ hx.out _).mono ?_); rintro e w2 ⟨rfl, hb1⟩; replace d0 := pw_cell_below hb1 d0; replace d1 := pw_cell_below hb1 d1; have n0_ := Aside0.mk (below_step HB.out hb1); clear HB hb1; have HB := n0_; clear n0_)
        | ((with_reducible refine (getRef_calls b _ _ hy.out _).mono ?_); rintro e w3 ⟨rfl, hb1⟩; replace d0 := pw_cell_below hb1 d0; replace d1 := pw_cell_below hb1 d1; have n0_ := Aside0.mk (below_step HB.out hb1); clear HB hb1; have HB := n0_; clear n0_)))
  all_goals (go_ret2; exact ⟨rfl, HB.out⟩)

theorem countRef_calls (a b : ByteArray) (r1 r2 : Int) (h : countF a b = (r1, r2)) (w : World) :
    Calls Try.prog 22 #[.agg #[.string a, .string b]] w fun e w' => e = .returned (.tuple #[.int .i64 r1, .int .i64 r2]) ∧ Below w.heap.size w w' := by
  unfold countF upTo at h
  by_cases hm : mayB a b = true
  · rw [if_pos hm] at h
    rcases getF_cases a.data.toList with h1 | ⟨c, hc, h1⟩ <;> rcases getF_cases b.data.toList with h2 | ⟨d, hd, h2⟩
    · rw [h1, h2] at h
      simp at h
      obtain ⟨h3, h4⟩ := h
      subst h3 h4
      exact countRef_none a b hm h1 h2 w
    · rw [h1, h2] at h
      have hd' := hd
      unfold In at hd'
      simp only [show ¬ ((300 : Int) = 0) by decide, if_false, if_true] at h
      rw [if_pos (by omega : (-1 : Int) < d), if_neg (by omega)] at h
      injection h with h3 h4
      subst h3 h4
      have := countRef_second a b hm h1 d hd h2 w
      rwa [show (if 0 < d then d else 0) = d by split <;> omega] at this
    · rw [h1, h2] at h
      have hc' := hc
      unfold In at hc'
      simp only [show ¬ ((300 : Int) = 0) by decide, if_false, if_true] at h
      rw [if_pos (by omega : (-1 : Int) < c), if_neg (by omega)] at h
      injection h with h3 h4
      subst h3 h4
      have := countRef_first a b hm c hc h1 h2 w
      rwa [show (if c < 0 then 0 else c) = c by split <;> omega] at this
    · rw [h1, h2] at h
      unfold In at hc hd
      simp only [if_true] at h
      rw [if_pos (by omega : (-1 : Int) < c)] at h
      have := countRef_both a b hm c d h1 h2 w
      by_cases h3 : c < d
      · rw [if_pos h3, if_neg (by omega)] at h
        rw [if_pos h3] at this
        injection h with h4 h5
        subst h4 h5
        exact this
      · rw [if_neg h3, if_neg (by omega)] at h
        rw [if_neg h3] at this
        injection h with h4 h5
        subst h4 h5
        exact this
  · rw [if_neg hm] at h
    injection h with h1 h2
    subst h1 h2
    exact countRef_bad a b (Bool.eq_false_iff.mpr hm) w

end Go.Proofs.Ytjcmjfabadlbjaa.Boot
