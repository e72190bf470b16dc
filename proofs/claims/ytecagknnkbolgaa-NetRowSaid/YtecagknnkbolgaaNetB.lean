/- The document's Send, step by step; both in one form. -/
import Derived.Test.YtecagknnkbolgaaNetA
namespace Go.Proofs.Ytecagknnkbolgaa.NetW
open Go.RowKit Go.Proofs.YtecagknnkbolgaaW.PrintWords Go.Proofs.YtecagknnkbolgaaW.PrintLast Go.Proofs.YtecagknnkbolgaaW.PrintMore Go.Proofs.Ytecagknnkbolgaa.PNets

theorem rmay_eq (m : S31) : watchwordref18_MsgMay.f m.f0 m.f1 m.f2 = some (mayF m) := by
  unfold watchwordref18_MsgMay.f watchwordref18_routerMay.f watchwordref18_upTo.f mayF
  by_cases h0 : m.f0 ≥ 1 <;> by_cases h1 : m.f0 ≤ 4 <;> by_cases h2 : m.f1 ≥ 1 <;> by_cases h3 : m.f1 ≤ 4 <;> by_cases h4 : m.f0 = m.f1 <;> by_cases h5 : (m.f2.size : Int) ≥ 1 <;> by_cases h6 : (m.f2.size : Int) ≤ 556 <;> simp [h0, h1, h2, h3, h4, h5, h6] <;> omega

theorem rmay_val (m : S31) (b : Bool) (h : mayF m = b) (w : World) : Calls Try.prog 20 #[.agg #[.int .i64 m.f0, .int .i64 m.f1, .string m.f2]] w fun e w' => e = .returned (.bool b) ∧ Below w.heap.size w w' :=
  watchwordref18_MsgMay.calls m.f0 m.f1 m.f2 b w (by rw [rmay_eq, h])

set_option maxHeartbeats 4000000 in
set_option maxRecDepth 100000 in
theorem rsend_form (W : World) (g : Nat) (m : S31) (hm : mayF m = false) :
    Calls Try.prog 10 #[.pointer (some ⟨g, 0, none⟩), val m] W fun e W' => e = .returned (.int .i64 2400) ∧ Below W.heap.size W W' := by
  replace hm := Aside0.mk hm
  unfold val
  go_enter Try.func10, Try.ntmps10
  go_wp2_with (go_at_call 20; (with_reducible refine (rmay_val m false hm.out _).mono ?_); rintro e w1 ⟨rfl, hb1⟩)
  go_ret
  exact ⟨rfl, (box3 hb1 (by simp)).2⟩

set_option maxHeartbeats 4000000 in
set_option maxRecDepth 100000 in
theorem rsend_full (w0 W : World) (g : Nat) (v : Value) (L : List S31) (m : S31) (hN : Net 28 w0 W g v L) (hm : mayF m = true) (hl : 64 ≤ L.length) :
    Calls Try.prog 10 #[.pointer (some ⟨g, 0, none⟩), val m] W fun e W' => e = .returned (.int .i64 2401) ∧ Below W.heap.size W W' := by
  obtain ⟨A, c, rfl, hc⟩ := hN.form
  have d1 : decide ((64 : Int) ≤ (L.length : Int)) = true := decide_eq_true (by omega)
  replace hN := Aside0.mk hN
  replace hm := Aside0.mk hm
  clear hl hc
  unfold val
  go_enter Try.func10, Try.ntmps10
  go_wp2_with (go_at_call 20; (with_reducible refine (rmay_val m true hm.out _).mono ?_); rintro e w1 ⟨rfl, hb1⟩; have p0 := ((hN.out.below (below_alloc (Below.refl _ _) _)).below hb1).cell; have HB := Aside0.mk (box3 hb1 (by simp)).2; clear hb1)
  go_ret
  exact ⟨rfl, HB.out⟩

set_option maxHeartbeats 4000000 in
set_option maxRecDepth 100000 in
theorem rsend_good (w0 W : World) (g : Nat) (v : Value) (L : List S31) (m : S31) (hN : Net 28 w0 W g v L) (hB : Below w0.heap.size w0 W) (hm : mayF m = true) (hl : L.length < 64) :
    Calls Try.prog 10 #[.pointer (some ⟨g, 0, none⟩), val m] W fun e W' => e = .returned (.int .i64 0) ∧ ∃ v', Net 28 w0 W' g v' (L ++ [m]) ∧ Below w0.heap.size w0 W' ∧ Kept W W' (fun k => k = g ∨ some k = v.ownBlock) ∧ (v'.ownBlock = v.ownBlock ∨ ∃ b, v'.ownBlock = some b ∧ W.heap.size ≤ b) := by
  obtain ⟨A, c, rfl, hc⟩ := hN.form
  have d1 : decide ((64 : Int) ≤ (L.length : Int)) = false := decide_eq_false (by omega)
  replace hN := Aside0.mk hN
  replace hm := Aside0.mk hm
  replace hB := Aside0.mk hB
  replace hl := Aside0.mk hl
  clear hc
  unfold val
  go_enter Try.func10, Try.ntmps10
  go_wp2_with (go_at_call 20; (with_reducible refine (rmay_val m true hm.out _).mono ?_); rintro e w1 ⟨rfl, hb1⟩; have hN1 := (hN.out.below (below_alloc (Below.refl _ _) _)).below hb1; have p0 := hN1.cell; have f0 := hN1.free; obtain ⟨⟨q0, q1, q2⟩, HB⟩ := box3 hb1 (by simp); replace HB := Aside0.mk HB; replace hN1 := Aside0.mk hN1; clear hb1)
  obtain ⟨h0, inner, hown, hr⟩ := hN1.out.row
  have hinn : Aside0 (inner.length = L.length * 3) := ⟨hown.1⟩
  have lg : g < w1.heap.size := blk_lt hN1.out.blk
  have lb := World.block_lt_of_cell? _ _ q0
  have hvg : (Value.slice A L.length c).ownBlock ≠ some g := fun e => Kd.R_ne hN1.out.row hN1.out.blk (by decide) e.symm
  have hbase : w0.heap.size ≤ w1.heap.size := Nat.le_trans hN1.out.ge (Nat.le_of_lt lg)
  obtain ⟨i0, hi0, hz0, hz1, hz2⟩ := info_parts info31m
  go_region_law
    ((refine step_append_lies _ (by rfl) _ _ _ (by rfl) w0.heap.size 31 i0 _ 3 32 Try.underlying22 hi0 hz0 hz1 hz2 rfl (by omega) (.slice A L.length c) L.length inner (by rfl) ((hown.alloc _).drew)
        ⟨w1.heap.size, 0, none⟩ 1 1 [.int .i64 m.f0, .int .i64 m.f1, .string m.f2] (by rfl) (by rfl) (World.news_of_block (cs := #[.int .i64 m.f0, .int .i64 m.f1, .string m.f2]) (t := 31) (fr := (0, 0)) (heap_alloc_new w1 _)) (by simp [Value.oneCell'])
        (by omega) (by have := hl.out; unfold maxLen; omega) (by have := hl.out; omega) (by simp; omega) (w1.heap.size + 1) (by simp) ?_; intro gg cap w2 hown1 hgrow hat hlt; have hblk2 := (hgrow.block g (by simp; omega) (Ne.symm hvg)).trans ((heap_alloc_old w1 _ lg).trans hN1.out.blk); have c2 : w2.cell? ⟨g, 0, none⟩ = some (.slice A L.length c) := (blk_cell hblk2 0).trans rfl; have f2 : w2.frozen? ⟨g, 0, none⟩ = false := blk_free hblk2; replace hblk2 := Aside0.mk hblk2; replace hown1 := Aside0.mk hown1; replace hgrow := Aside0.mk hgrow; replace hat := Aside0.mk hat; replace hlt := Aside0.mk hlt))
  all_goals
    have he := append_end (v' := .slice (some ⟨gg, 0, none⟩) (L.length + 1) cap) (m := m) (by decide) hN1.out (below_step hB.out HB.out (hB.out.size)) hr hgrow.out rfl hown1.out hat.out hvg
    replace he := Aside0.mk he
    go_wp2
    go_ret
    obtain ⟨e1, e2, e3, e4⟩ := he.out
    exact ⟨rfl, _, e1, e2, (Kept.of_below HB.out _).then_ e3 (fun k hk => .inl hk), e4.imp id (fun ⟨b, h1, h2⟩ => ⟨b, h1, Nat.le_trans HB.out.size h2⟩)⟩

/-- What a call on a net at block g, its row v, leaves: the row L' at g, and what is kept. -/
def After (T : Nat) (w0 W : World) (g : Nat) (v : Value) (L' : List S31) (W' : World) : Prop :=
  ∃ v', Net T w0 W' g v' L' ∧ Below w0.heap.size w0 W' ∧ Kept W W' (fun k => k = g ∨ some k = v.ownBlock) ∧ (v'.ownBlock = v.ownBlock ∨ ∃ b, v'.ownBlock = some b ∧ W.heap.size ≤ b)

theorem After.same {T : Nat} {w0 W W' : World} {g : Nat} {v : Value} {L : List S31} (hN : Net T w0 W g v L) (hB : Below w0.heap.size w0 W) (hb : Below W.heap.size W W') : After T w0 W g v L W' :=
  ⟨v, hN.below hb, below_step hB hb hB.size, Kept.of_below hb _, .inl rfl⟩

theorem send_calls (w0 W : World) (g : Nat) (v : Value) (L : List S31) (m : S31) (hN : Net 52 w0 W g v L) (hB : Below w0.heap.size w0 W) (hl : L.length ≤ 64) :
    Calls Try.prog 9 #[.pointer (some ⟨g, 0, none⟩), val m] W fun e W' => e = .returned (.int .i64 (sendF L m).2) ∧ After 52 w0 W g v (sendF L m).1 W' := by
  unfold sendF
  by_cases hm : mayF m = true
  · by_cases h64 : L.length ≥ 64
    · rw [if_pos hm, if_pos h64]
      exact (send_full w0 W g v L m hN hm (by omega)).mono fun e w' h => ⟨h.1, .same hN hB h.2⟩
    · rw [if_pos hm, if_neg h64]
      exact send_good w0 W g v L m hN hB hm (by omega)
  · rw [if_neg hm]
    exact (send_form W g m (Bool.eq_false_iff.2 hm)).mono fun e w' h => ⟨h.1, .same hN hB h.2⟩

theorem rsend_calls (w0 W : World) (g : Nat) (v : Value) (L : List S31) (m : S31) (hN : Net 28 w0 W g v L) (hB : Below w0.heap.size w0 W) :
    Calls Try.prog 10 #[.pointer (some ⟨g, 0, none⟩), val m] W fun e W' => e = .returned (.int .i64 (sendF L m).2) ∧ After 28 w0 W g v (sendF L m).1 W' := by
  unfold sendF
  by_cases hm : mayF m = true
  · by_cases h64 : L.length ≥ 64
    · rw [if_pos hm, if_pos h64]
      exact (rsend_full w0 W g v L m hN hm (by omega)).mono fun e w' h => ⟨h.1, .same hN hB h.2⟩
    · rw [if_pos hm, if_neg h64]
      exact rsend_good w0 W g v L m hN hB hm (by omega)
  · rw [if_neg hm]
    exact (rsend_form W g m (Bool.eq_false_iff.2 hm)).mono fun e w' h => ⟨h.1, .same hN hB h.2⟩

end Go.Proofs.Ytecagknnkbolgaa.NetW
