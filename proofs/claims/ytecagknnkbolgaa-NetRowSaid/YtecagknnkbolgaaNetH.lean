/- The document's Take. -/
import Derived.Test.YtecagknnkbolgaaNetG
namespace Go.Proofs.Ytecagknnkbolgaa.NetW
open Go.RowKit Go.Proofs.YtecagknnkbolgaaW.PrintWords Go.Proofs.YtecagknnkbolgaaW.PrintLast Go.Proofs.YtecagknnkbolgaaW.PrintMore Go.Proofs.Ytecagknnkbolgaa.PNets

theorem slice_form {W : World} {b : Nat} {ok : Nat → Prop} {v : Value} {L : List S31} (h : Kd.R k31 31 W b ok v L) : ∃ A n c, v = .slice A n c := by
  obtain ⟨A, c, e⟩ := Kd.R_slice h
  exact ⟨A, _, c, e⟩

theorem grown_fresh {Wm w1 w2 : World} {v : Value} (hb1 : Below Wm.heap.size Wm w1) (hg : w1.grownBy w2 v.ownBlock) (hat : v.ownBlock = (Value.slice none 0 0).ownBlock ∨ ∃ b, v.ownBlock = some b ∧ Wm.heap.size ≤ b) : Below Wm.heap.size Wm w2 :=
  ⟨hg.os.trans hb1.os, hg.tape.trans hb1.tape, hg.output.trans hb1.output, Nat.le_trans hb1.size hg.size, fun k hk => (hg.block k (Nat.lt_of_lt_of_le hk hb1.size) (fun e => by
    rcases hat with h | ⟨b, h, hb⟩
    · rw [h] at e
      cases e
    · rw [h] at e
      have := Option.some.inj e
      omega)).trans (hb1.block k hk)⟩

/-- What a call on a net at block g, its row v, leaves; a row may be gone (nil). -/
def Left (T : Nat) (w0 W : World) (g : Nat) (v : Value) (L' : List S31) (W' : World) : Prop :=
  ∃ v', Net T w0 W' g v' L' ∧ Below w0.heap.size w0 W' ∧ Kept W W' (fun k => k = g ∨ some k = v.ownBlock) ∧ (∀ b, v'.ownBlock = some b → v.ownBlock = some b ∨ W.heap.size ≤ b)

theorem After.left {T : Nat} {w0 W W' : World} {g : Nat} {v : Value} {L' : List S31} (h : After T w0 W g v L' W') : Left T w0 W g v L' W' := by
  obtain ⟨v', h1, h2, h3, h4⟩ := h
  refine ⟨v', h1, h2, h3, fun b hb => ?_⟩
  rcases h4 with e | ⟨b', e, hl⟩
  · exact .inl (e ▸ hb)
  · rw [e] at hb
    exact .inr (Option.some.inj hb ▸ hl)

theorem rtake_end {w0 W Wm w1 w2 : World} {g : Nat} {L L' : List S31} {v v1 v2 : Value} (hBm : Below W.heap.size W Wm) (hsz : W.heap.size < Wm.heap.size) (hB : Below w0.heap.size w0 W) (hg : g < W.heap.size) (hN2 : Net 28 w0 w2 g v L) (hb1 : Below Wm.heap.size Wm w1) (hb12 : Below Wm.heap.size Wm w2)
    (hat : v1.ownBlock = (Value.slice none 0 0).ownBlock ∨ ∃ b, v1.ownBlock = some b ∧ Wm.heap.size ≤ b) (hat2 : v2.ownBlock = v1.ownBlock ∨ ∃ b, v2.ownBlock = some b ∧ w1.heap.size ≤ b)
    (ho2 : Kd.R k31 31 w2 w0.heap.size (fun _ => True) v2 L') (a b c : Value) :
    Left 28 w0 W g v L' ((((w2.setCell ⟨g, 0, none⟩ v2).setCell ⟨W.heap.size, 0, none⟩ a).setCell ⟨W.heap.size, 1, none⟩ b).setCell ⟨W.heap.size, 2, none⟩ c) := by
  have hfr : ∀ b, v2.ownBlock = some b → Wm.heap.size ≤ b := fun b e => by
    rcases hat2 with h | ⟨b', h, hl⟩
    · rw [h] at e
      rcases hat with h | ⟨b', h, hl⟩
      · rw [h] at e
        cases e
      · rw [h] at e
        exact Option.some.inj e ▸ hl
    · rw [h] at e
      exact Option.some.inj e ▸ Nat.le_trans hb1.size hl
  have hg0 : some g ≠ v2.ownBlock := Kd.R_ne ho2 hN2.blk (by decide)
  have hb4 : some W.heap.size ≠ v2.ownBlock := fun e => by
    have := hfr _ e.symm
    omega
  have hN4 : Net 28 w0 (w2.setCell ⟨g, 0, none⟩ v2) g v2 L' := ⟨setCell_heap w2 g 0 _ 28 (0, 0) v2 hN2.blk, hN2.ge, R_other ho2 hg0 0 v2⟩
  have hbw : w0.heap.size ≤ W.heap.size := hB.size
  have hB2 : Below w0.heap.size w0 w2 := below_step (below_step hB hBm hbw) hb12 (Nat.le_trans hbw hBm.size)
  refine ⟨v2, ((hN4.other (by omega) hb4 0 a).other (by omega) hb4 1 b).other (by omega) hb4 2 c, (((hB2.setCell (p := ⟨g, 0, none⟩) hN2.ge v2).setCell (p := ⟨W.heap.size, 0, none⟩) hbw a).setCell (p := ⟨W.heap.size, 1, none⟩) hbw b).setCell (p := ⟨W.heap.size, 2, none⟩) hbw c, ?_, fun b e => .inr (Nat.le_trans hBm.size (hfr b e))⟩
  have hK : Kept W w2 (fun k => k = g ∨ some k = v.ownBlock) := (Kept.of_below hBm _).then_ (Kept.of_below hb12 (fun k => k = g ∨ some k = v.ownBlock)) (fun k hk => .inl hk)
  exact (((hK.setCell (p := ⟨g, 0, none⟩) (.inl (.inl rfl)) v2).setCell (p := ⟨W.heap.size, 0, none⟩) (.inr (Nat.le_refl _)) a).setCell (p := ⟨W.heap.size, 1, none⟩) (.inr (Nat.le_refl _)) b).setCell (p := ⟨W.heap.size, 2, none⟩) (.inr (Nat.le_refl _)) c

set_option maxHeartbeats 4000000 in
set_option maxRecDepth 100000 in
theorem rtake_none (w0 W : World) (g : Nat) (v : Value) (L : List S31) (k : Int) (hN : Net 28 w0 W g v L) (hb : ¬ (0 ≤ k ∧ k < L.length)) :
    Calls Try.prog 12 #[.pointer (some ⟨g, 0, none⟩), .int .i64 k] W fun e W' => e = .returned (.tuple #[val z31, .int .i64 2402]) ∧ Below W.heap.size W W' := by
  obtain ⟨A, c, rfl, hc⟩ := hN.form
  have p0 := (hN.below (below_alloc (Below.refl _ _) (.cells #[.int .i64 0, .int .i64 0, .string ⟨#[]⟩] 31))).cell
  clear hN
  by_cases h0 : 0 ≤ k
  · have d0 : decide (k < 0) = false := decide_eq_false (by omega)
    have d1 : decide ((L.length : Int) ≤ k) = true := decide_eq_true (by omega)
    clear hb h0 hc
    go_enter Try.func12, Try.ntmps12
    go_wp2
    exact bodyPost_ret (v := .tuple #[val z31, .int .i64 2402]) (by simp [results, Try.results12, go_sem, val, z31]) rfl ⟨rfl, below_alloc (Below.refl _ _) _⟩
  · have d0 : decide (k < 0) = true := decide_eq_true (by omega)
    clear hb h0 hc
    go_enter Try.func12, Try.ntmps12
    go_wp2
    exact bodyPost_ret (v := .tuple #[val z31, .int .i64 2402]) (by simp [results, Try.results12, go_sem, val, z31]) rfl ⟨rfl, below_alloc (Below.refl _ _) _⟩

set_option maxHeartbeats 4000000 in
set_option maxRecDepth 100000 in
theorem rtake_good (w0 W : World) (g : Nat) (v : Value) (L : List S31) (k : Nat) (hN : Net 28 w0 W g v L) (hB : Below w0.heap.size w0 W) (hk : k < L.length) (h1000 : L.length ≤ 1000) :
    Calls Try.prog 12 #[.pointer (some ⟨g, 0, none⟩), .int .i64 k] W fun e W' => e = .returned (.tuple #[val (rd_T31 L k), .int .i64 0]) ∧ Left 28 w0 W g v (L.eraseIdx k) W' := by
  obtain ⟨gr, c, rfl, hgr⟩ := Kd.R_form hN.row (by omega)
  have hgl : gr < W.heap.size := Kd.R_lt hN.row gr rfl
  obtain ⟨-, hcc, hC⟩ := Kd.R_reads' hN.row
  obtain ⟨ad, had, c0, c1, c2⟩ := at_T31 hC k (by omega) (by omega)
  obtain rfl : (⟨gr, 0, none⟩ : Addr) = ad := Option.some.inj had
  have ea : Addr.add ⟨gr, 0, none⟩ ((k : Int).toNat * 3) = ⟨gr, k * 3, none⟩ := by
    simp [Addr.add]
    try omega
  rw [ea] at c0 c1 c2
  clear ea
  have k0 : (0 : Int) ≤ (k : Int) := by omega
  have k1 : (k : Int) < (L.length : Int) := by omega
  have k2 : (k : Int) ≤ (c : Int) := by omega
  have k3 : (0 : Int) ≤ (k : Int) + 1 := by omega
  have k4 : (k : Int) + 1 ≤ (L.length : Int) := by omega
  have k5 : (L.length : Int) ≤ (c : Int) := by omega
  have d0 : decide ((k : Int) < 0) = false := decide_eq_false (by omega)
  have d1 : decide ((L.length : Int) ≤ (k : Int)) = false := decide_eq_false (by omega)
  have kw : IntKind.i64.wrap ((k : Int) + 1) = (k : Int) + 1 := by rw [IntKind.wrap_i64]; omega
  have hBx := below_alloc (Below.refl W.heap.size W) (.cells #[.int .i64 0, .int .i64 0, .string ⟨#[]⟩] 31)
  have p0 := (hN.below hBx).cell
  replace c0 := pw_cell_below hBx c0
  replace c1 := pw_cell_below hBx c1
  replace c2 := pw_cell_below hBx c2
  have hz := blk_lt hN.blk
  replace hN := Aside0.mk hN
  replace hB := Aside0.mk hB
  replace hBx := Aside0.mk hBx
  replace hC := Aside0.mk hC
  have hBm := below_alloc2 hBx.out (by simp) (.cells #[.int .i64 (rd_T31 L k).f0, .int .i64 (rd_T31 L k).f1, .string (rd_T31 L k).f2] 31)
  have hNm := Aside0.mk (hN.out.below hBm)
  have hXm := Aside0.mk ((Box.new W 0 0 ⟨#[]⟩).alloc (.cells #[.int .i64 (rd_T31 L k).f0, .int .i64 (rd_T31 L k).f1, .string (rd_T31 L k).f2] 31))
  have hMm := Aside0.mk (Box.new (W.alloc (.cells #[.int .i64 0, .int .i64 0, .string ⟨#[]⟩] 31)) (rd_T31 L k).f0 (rd_T31 L k).f1 (rd_T31 L k).f2)
  rw [show (W.alloc (.cells #[.int .i64 0, .int .i64 0, .string ⟨#[]⟩] 31)).heap.size = W.heap.size + 1 by simp] at hMm
  have hCm := Aside0.mk (Kd.C_below hC.out hBm)
  have hBw := Aside0.mk (below_step hB.out hBm hB.out.size)
  replace hBm := Aside0.mk hBm
  have hNil := Aside0.mk (Kd.R_nil k31 31 ((W.alloc (.cells #[.int .i64 0, .int .i64 0, .string ⟨#[]⟩] 31)).alloc (.cells #[.int .i64 (rd_T31 L k).f0, .int .i64 (rd_T31 L k).f1, .string (rd_T31 L k).f2] 31)) w0.heap.size (fun _ => True))
  have lk : (L.take k).length = k := by rw [List.length_take]; omega
  replace lk := Aside0.mk lk
  go_enter Try.func12, Try.ntmps12
  go_wp2_with (first
    | ((with_reducible refine gate_builtin (b := .append) (xs := #[.tmp 27, .tmp 33]) rfl ?_); at_builtin; refine Kd.R_append_rows k31 (w0 := w0) w0.heap.size rfl (.tmp 27) (.tmp 33) 22 31 (.agg #[.int .i64 0, .int .i64 0, .string ⟨#[]⟩]) 32 rfl Try.underlying22 info31m rfl (by decide) (by decide) (.slice none 0 0) [] (L.take k) _ k c (fun _ => True) (fun _ => False) rfl rfl hNil.out (by have := Kd.C_take hCm.out (m := k) (by omega); rw [lk.out] at this; exact this) (fun x cs h => k31_KM x cs h) (fun _ hk => hk.elim) (fun _ _ => trivial) hBw.out hBw.out.size (by simp; omega) ?_; intro v1 w1 ho hb hgr hat; have hb1 := Below.mk hgr.os hgr.tape hgr.output hgr.size (fun k hk => hgr.block k hk (by simp [Value.ownBlock])); clear hgr; obtain ⟨A1, n1, e1, rfl⟩ := slice_form ho; have hN1 := hNm.out.below hb1; replace p0 := hN1.cell; replace ho := Aside0.mk ho; replace hb := Aside0.mk hb; replace hat := Aside0.mk hat; replace hb1 := Aside0.mk hb1; clear hN1)
    | ((with_reducible refine gate_builtin (b := .append) (xs := #[.tmp 35, .tmp 42]) rfl ?_); at_builtin; refine Kd.R_append_rows k31 (w0 := w0) w0.heap.size rfl (.tmp 35) (.tmp 42) 22 31 (.agg #[.int .i64 0, .int .i64 0, .string ⟨#[]⟩]) 32 rfl Try.underlying22 info31m rfl (by decide) (by decide) (.slice A1 n1 e1) (L.take k) (L.drop (k + 1)) (if c = k + 1 then some ⟨gr, 0, none⟩ else some ⟨gr, (k + 1) * 3, none⟩) (L.length - (k + 1)) (c - (k + 1)) (fun _ => True) (fun _ => False) rfl rfl (by simpa using ho.out) (by rw [tail_at]; have := Kd.C_drop (Kd.C_below hCm.out hb1.out) (m := k + 1) (c := c) (by omega) hcc; rw [List.length_drop] at this; exact this) (fun x cs h => k31_KM x cs h) (fun _ hk => hk.elim) (fun _ _ => trivial) hb.out hb.out.size (by rw [lk.out]; omega) ?_; intro v2 w2 ho2 hb2 hgr2 hat2; replace ho2 := Aside0.mk ho2; replace hb2 := Aside0.mk hb2; have hb12 := grown_fresh hb1.out hgr2 hat.out; clear hgr2; obtain ⟨A2, n2, e2, rfl⟩ := slice_form ho2.out; have hN2 := hNm.out.below hb12; have q0 := hN2.cell; have qf := hN2.free; have hX4 := (hXm.out.below hb12).far (g := g) (by omega) 0 (.slice A2 n2 e2); have hM4 := (hMm.out.below hb12).far (g := g) (by simp; omega) 0 (.slice A2 n2 e2); have m0 := hM4.c0; have m1 := hM4.c1; have m2 := hM4.c2; have x0 := hX4.c0; have x1 := hX4.c1; have x2 := hX4.c2; have f0 := hX4.free 0; have f1 := hX4.free 1; have f2 := hX4.free 2; have hX5 := hX4.store (rd_T31 L k).f0 (rd_T31 L k).f1 (rd_T31 L k).f2; have s0 := hX5.c0; have s1 := hX5.c1; have s2 := hX5.c2; replace hat2 := Aside0.mk hat2; replace hN2 := Aside0.mk hN2; replace hb12 := Aside0.mk hb12; clear hX4 hM4 hX5 p0))
  all_goals
    have hL : L.take k ++ L.drop (k + 1) = L.eraseIdx k := (List.eraseIdx_eq_take_drop_succ L k).symm
    have hE := rtake_end hBm.out (by simp; omega) hB.out hz hN2.out hb1.out hb12.out hat.out hat2.out ho2.out (.int .i64 (rd_T31 L k).f0) (.int .i64 (rd_T31 L k).f1) (.string (rd_T31 L k).f2)
    rw [hL] at hE
    replace hE := Aside0.mk hE
    exact bodyPost_ret (v := .tuple #[val (rd_T31 L k), .int .i64 0]) (by simp [results, Try.results12, go_sem, s0, s1, s2, val]) rfl ⟨rfl, hE.out⟩

theorem rtake_calls (w0 W : World) (g : Nat) (v : Value) (L : List S31) (k : Int) (hN : Net 28 w0 W g v L) (hB : Below w0.heap.size w0 W) (h1000 : L.length ≤ 1000) :
    Calls Try.prog 12 #[.pointer (some ⟨g, 0, none⟩), .int .i64 k] W fun e W' => e = .returned (.tuple #[val (takeF L k).2.1, .int .i64 (takeF L k).2.2]) ∧ Left 28 w0 W g v (takeF L k).1 W' := by
  unfold takeF
  by_cases h : 0 ≤ k ∧ k < L.length
  · rw [if_pos h]
    obtain ⟨n, rfl⟩ := Int.eq_ofNat_of_zero_le h.1
    exact rtake_good w0 W g v L n hN hB (by omega) h1000
  · rw [if_neg h]
    exact (rtake_none w0 W g v L k hN h).mono fun e w' h => ⟨h.1, (After.same hN hB h.2).left⟩

end Go.Proofs.Ytecagknnkbolgaa.NetW
