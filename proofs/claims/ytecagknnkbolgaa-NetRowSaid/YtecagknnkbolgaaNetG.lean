/- Take: the package's, step by step. -/
import Derived.Test.YtecagknnkbolgaaNetF
namespace Go.Proofs.Ytecagknnkbolgaa.NetW
open Go.RowKit Go.Proofs.YtecagknnkbolgaaW.PrintWords Go.Proofs.YtecagknnkbolgaaW.PrintLast Go.Proofs.YtecagknnkbolgaaW.PrintMore Go.Proofs.Ytecagknnkbolgaa.PNets

def takeF (L : List S31) (k : Int) : List S31 × S31 × Int := if 0 ≤ k ∧ k < L.length then (L.eraseIdx k.toNat, rd_T31 L k, 0) else (L, z31, 2402)

/-- A message in a variable: block b. -/
structure Box (W : World) (b : Nat) (x y : Int) (s : ByteArray) : Prop where mk :: (out : W.heap[b]? = some (.cells #[.int .i64 x, .int .i64 y, .string s] 31 (0, 0)))
theorem Box.c0 {W : World} {b : Nat} {x y : Int} {s : ByteArray} (h : Box W b x y s) : W.cell? ⟨b, 0, none⟩ = some (.int .i64 x) := by simp [World.cell?, h.out]
theorem Box.c1 {W : World} {b : Nat} {x y : Int} {s : ByteArray} (h : Box W b x y s) : W.cell? ⟨b, 1, none⟩ = some (.int .i64 y) := by simp [World.cell?, h.out]
theorem Box.c2 {W : World} {b : Nat} {x y : Int} {s : ByteArray} (h : Box W b x y s) : W.cell? ⟨b, 2, none⟩ = some (.string s) := by simp [World.cell?, h.out]
theorem Box.free {W : World} {b : Nat} {x y : Int} {s : ByteArray} (h : Box W b x y s) (j : Nat) : W.frozen? ⟨b, j, none⟩ = false := by simp [World.frozen?, h.out]
theorem Box.lt {W : World} {b : Nat} {x y : Int} {s : ByteArray} (h : Box W b x y s) : b < W.heap.size := (Array.getElem?_eq_some_iff.1 h.out).1
theorem Box.below {W W' : World} {b : Nat} {x y : Int} {s : ByteArray} (h : Box W b x y s) (hb : Below W.heap.size W W') : Box W' b x y s := ⟨(hb.block b h.lt).trans h.out⟩
theorem Box.new (W : World) (x y : Int) (s : ByteArray) : Box (W.alloc (.cells #[.int .i64 x, .int .i64 y, .string s] 31)) W.heap.size x y s := ⟨heap_alloc_new W _⟩
theorem Box.alloc {W : World} {b : Nat} {x y : Int} {s : ByteArray} (h : Box W b x y s) (o : Obj) : Box (W.alloc o) b x y s := ⟨(heap_alloc_old W o h.lt).trans h.out⟩
theorem Box.store {W : World} {b : Nat} {x y : Int} {s : ByteArray} (h : Box W b x y s) (x' y' : Int) (s' : ByteArray) : Box (((W.setCell ⟨b, 0, none⟩ (.int .i64 x')).setCell ⟨b, 1, none⟩ (.int .i64 y')).setCell ⟨b, 2, none⟩ (.string s')) b x' y' s' :=
  ⟨setCell_heap _ b 2 _ 31 (0, 0) _ (setCell_heap _ b 1 _ 31 (0, 0) _ (setCell_heap W b 0 _ 31 (0, 0) _ h.out))⟩
theorem Box.below_new {W W' : World} {x y : Int} {s : ByteArray} (hb : Below (W.alloc (.cells #[.int .i64 x, .int .i64 y, .string s] 31)).heap.size (W.alloc (.cells #[.int .i64 x, .int .i64 y, .string s] 31)) W') : Box W' W.heap.size x y s ∧ Below W.heap.size W W' :=
  ⟨(Box.new W x y s).below hb, (box3 hb (by simp)).2⟩

set_option maxHeartbeats 4000000 in
set_option maxRecDepth 100000 in
theorem take_none (w0 W : World) (g : Nat) (v : Value) (L : List S31) (k : Int) (hN : Net 52 w0 W g v L) (hb : (decide (0 ≤ k) && decide (k < (L.length : Int))) = false) :
    Calls Try.prog 11 #[.pointer (some ⟨g, 0, none⟩), .int .i64 k] W fun e W' => e = .returned (.tuple #[val z31, .int .i64 2402]) ∧ Below W.heap.size W W' := by
  replace hN := Aside0.mk hN
  replace hb := Aside0.mk hb
  go_enter Try.func11, Try.ntmps11
  go_wp2_with (go_at_call 21; (with_reducible refine (has_calls w0 _ g v L k false (hN.out.below (below_alloc (Below.refl _ _) _)) hb.out).mono ?_); rintro e w2 ⟨rfl, hb1⟩; obtain ⟨hX, hB⟩ := Box.below_new hb1; have c0 := hX.c0; have c1 := hX.c1; have c2 := hX.c2; have f0 := hX.free 0; have f1 := hX.free 1; have f2 := hX.free 2; have hz := hX.lt; have hS := hX.store 0 0 ⟨#[]⟩; have s0 := hS.c0; have s1 := hS.c1; have s2 := hS.c2; have hB2 := Aside0.mk (((hB.setCell (p := ⟨W.heap.size, 0, none⟩) (Nat.le_refl _) (.int .i64 0)).setCell (p := ⟨W.heap.size, 1, none⟩) (Nat.le_refl _) (.int .i64 0)).setCell (p := ⟨W.heap.size, 2, none⟩) (Nat.le_refl _) (.string ⟨#[]⟩)); clear hX hS hb1 hB)
  exact bodyPost_ret (v := .tuple #[val z31, .int .i64 2402]) (by simp [results, Try.results11, go_sem, s0, s1, s2, val, z31]) rfl ⟨rfl, hB2.out⟩

theorem Box.grown {W W' : World} {b gr : Nat} {x y : Int} {s : ByteArray} (h : Box W b x y s) (hg : W.grownBy W' (some gr)) (hne : b ≠ gr) : Box W' b x y s :=
  ⟨(hg.block b h.lt (fun e => hne (Option.some.inj e))).trans h.out⟩
theorem Box.far {W : World} {b g : Nat} {x y : Int} {s : ByteArray} (h : Box W b x y s) (hne : b ≠ g) (j : Nat) (u : Value) : Box (W.setCell ⟨g, j, none⟩ u) b x y s :=
  ⟨(Below.heap_setCell W ⟨g, j, none⟩ u b hne).trans h.out⟩

theorem below_alloc2 {n : Nat} {w W : World} (h : Below n w W) (hn : n ≤ W.heap.size) (o : Obj) : Below n w (W.alloc o) := h.alloc hn o
theorem R_other {W : World} {base b : Nat} {v : Value} {L : List S31} (h : Kd.R k31 31 W base (fun _ => True) v L) (hne : some b ≠ v.ownBlock) (j : Nat) (u : Value) : Kd.R k31 31 (W.setCell ⟨b, j, none⟩ u) base (fun _ => True) v L :=
  Kd.R_mono (Kd.R_far (p := ⟨b, j, none⟩) (Kd.R_far1 h rfl hne) (fun _ hk => hk.2) u) (fun _ hk => hk.1)
theorem Net.other {T : Nat} {w0 W : World} {g b : Nat} {v : Value} {L : List S31} (h : Net T w0 W g v L) (hg : g ≠ b) (hne : some b ≠ v.ownBlock) (j : Nat) (u : Value) : Net T w0 (W.setCell ⟨b, j, none⟩ u) g v L :=
  ⟨(Below.heap_setCell W ⟨b, j, none⟩ u g hg).trans h.blk, h.ge, R_other h.row hne j u⟩

set_option maxHeartbeats 4000000 in
set_option maxRecDepth 100000 in
theorem take_good (w0 W : World) (g : Nat) (v : Value) (L : List S31) (k : Nat) (hN : Net 52 w0 W g v L) (hB : Below w0.heap.size w0 W) (hk : k < L.length) (h1000 : L.length ≤ 1000) :
    Calls Try.prog 11 #[.pointer (some ⟨g, 0, none⟩), .int .i64 k] W fun e W' => e = .returned (.tuple #[val (rd_T31 L k), .int .i64 0]) ∧ After 52 w0 W g v (L.eraseIdx k) W' := by
  obtain ⟨gr, c, rfl, hgr⟩ := Kd.R_form hN.row (by omega)
  have hgl : gr < W.heap.size := Kd.R_lt hN.row gr rfl
  have hgg : g ≠ gr := fun e => Kd.R_ne hN.row hN.blk (by decide) (by rw [e]; rfl)
  obtain ⟨-, -, hC⟩ := Kd.R_reads' hN.row
  obtain ⟨ad, had, c0, c1, c2⟩ := at_T31 hC k (by omega) (by omega)
  obtain rfl : (⟨gr, 0, none⟩ : Addr) = ad := Option.some.inj had
  have ea : Addr.add ⟨gr, 0, none⟩ ((k : Int).toNat * 3) = ⟨gr, k * 3, none⟩ := by
    simp [Addr.add]
    try omega
  rw [ea] at c0 c1 c2
  clear ea
  have hb : (decide ((0 : Int) ≤ (k : Int)) && decide ((k : Int) < (L.length : Int))) = true := by simp; omega
  have k0 := eq_true (show (0 : Int) ≤ (k : Int) by omega)
  have k1 := eq_true (show (k : Int) < (L.length : Int) by omega)
  have kw : IntKind.i64.wrap ((k : Int) + 1) = (k : Int) + 1 := by rw [IntKind.wrap_i64]; omega
  replace hN := Aside0.mk hN
  replace hB := Aside0.mk hB
  replace hb := Aside0.mk hb
  clear hC
  go_enter Try.func11, Try.ntmps11
  go_wp2_with (first
    | (go_at_call 21; (with_reducible refine (has_calls w0 _ g _ L k true (hN.out.below (below_alloc (Below.refl _ _) _)) hb.out).mono ?_); rintro e w2 ⟨rfl, hb1⟩; obtain ⟨hX, hB2⟩ := Box.below_new hb1; have p0 := (hN.out.below hB2).cell; replace c0 := pw_cell_below hB2 c0; replace c1 := pw_cell_below hB2 c1; replace c2 := pw_cell_below hB2 c2; have hz := blk_lt (hN.out.below hB2).blk; have hzb := hX.lt; replace hX := Aside0.mk hX; replace hB2 := Aside0.mk hB2; clear hb1)
    | (go_at_call 22; (with_reducible refine (delete_calls w0 _ w0.heap.size gr L.length c k L (Kd.R_alloc (Kd.R_below hN.out.row hB2.out) _) hk (below_alloc2 (below_step hB.out hB2.out hB.out.size) (Nat.le_trans hB.out.size hB2.out.size) _) (Nat.le_trans (Nat.le_trans hB.out.size hB2.out.size) (by simp))).mono ?_)
       rintro e w3 ⟨rfl, hR3, hB3, hg3⟩
       have hblk3 := (hg3.block g (by simp; omega) (fun e => hgg (Option.some.inj e))).trans ((heap_alloc_old w2 (.cells #[.int .i64 (rd_T31 L k).f0, .int .i64 (rd_T31 L k).f1, .string (rd_T31 L k).f2] 31) hz).trans (hN.out.below hB2.out).blk)
       have q0 : w3.cell? ⟨g, 0, none⟩ = some (.slice (some ⟨gr, 0, none⟩) L.length c) := (blk_cell hblk3 0).trans rfl
       have qf : w3.frozen? ⟨g, 0, none⟩ = false := blk_free hblk3
       have hX4 := ((hX.out.alloc (.cells #[.int .i64 (rd_T31 L k).f0, .int .i64 (rd_T31 L k).f1, .string (rd_T31 L k).f2] 31)).grown hg3 (by omega)).far (by have := blk_lt hN.out.blk; omega) 0 (.slice (some ⟨gr, 0, none⟩) (L.length - 1) c) (g := g)
       have hM4 := ((Box.new w2 (rd_T31 L k).f0 (rd_T31 L k).f1 (rd_T31 L k).f2).grown hg3 (by omega)).far (by omega) 0 (.slice (some ⟨gr, 0, none⟩) (L.length - 1) c) (g := g)
       have m0 := hM4.c0
       have m1 := hM4.c1
       have m2 := hM4.c2
       have x0 := hX4.c0
       have x1 := hX4.c1
       have x2 := hX4.c2
       have f0 := hX4.free 0
       have f1 := hX4.free 1
       have f2 := hX4.free 2
       have hX5 := hX4.store (rd_T31 L k).f0 (rd_T31 L k).f1 (rd_T31 L k).f2
       have s0 := hX5.c0
       have s1 := hX5.c1
       have s2 := hX5.c2
       replace hR3 := Aside0.mk hR3
       replace hB3 := Aside0.mk hB3
       replace hg3 := Aside0.mk hg3
       replace hblk3 := Aside0.mk hblk3
       clear hX4 hM4 hX5))
  have hlen : (L.eraseIdx k).length = L.length - 1 := by rw [List.length_eraseIdx_of_lt hk]
  have hb4 : (some W.heap.size : Option Nat) ≠ (Value.slice (some ⟨gr, 0, none⟩) (L.length - 1) c).ownBlock := fun e => by have := Option.some.inj e; simp at this; omega
  have hgl2 := blk_lt hN.out.blk
  have hg0 : (some g : Option Nat) ≠ (Value.slice (some ⟨gr, 0, none⟩) (L.length - 1) c).ownBlock := fun e => by have := Option.some.inj e; simp at this; omega
  have hN4 : Net 52 w0 (w3.setCell ⟨g, 0, none⟩ (.slice (some ⟨gr, 0, none⟩) (L.length - 1) c)) g (.slice (some ⟨gr, 0, none⟩) (L.length - 1) c) (L.eraseIdx k) := ⟨setCell_heap w3 g 0 _ 52 (0, 0) (.slice (some ⟨gr, 0, none⟩) (L.length - 1) c) hblk3.out, hN.out.ge, R_other hR3.out hg0 0 (.slice (some ⟨gr, 0, none⟩) (L.length - 1) c)⟩
  have hN7 := Aside0.mk (((hN4.other (by omega) hb4 0 (.int .i64 (rd_T31 L k).f0)).other (by omega) hb4 1 (.int .i64 (rd_T31 L k).f1)).other (by omega) hb4 2 (.string (rd_T31 L k).f2))
  have hbw : w0.heap.size ≤ W.heap.size := hB.out.size
  have hB7 := Aside0.mk ((((hB3.out.setCell (p := ⟨g, 0, none⟩) hN.out.ge (.slice (some ⟨gr, 0, none⟩) (L.length - 1) c)).setCell (p := ⟨W.heap.size, 0, none⟩) hbw (.int .i64 (rd_T31 L k).f0)).setCell (p := ⟨W.heap.size, 1, none⟩) hbw (.int .i64 (rd_T31 L k).f1)).setCell (p := ⟨W.heap.size, 2, none⟩) hbw (.string (rd_T31 L k).f2))
  have hK3 : Kept W w3 (fun i => i = g ∨ some i = (Value.slice (some ⟨gr, 0, none⟩) L.length c).ownBlock) := Kept.of_grown hg3.out ((Kept.of_below hB2.out _).alloc _) (fun i hi => .inl (.inr hi.symm))
  have hK7 := Aside0.mk ((((hK3.setCell (p := ⟨g, 0, none⟩) (.inl (.inl rfl)) (.slice (some ⟨gr, 0, none⟩) (L.length - 1) c)).setCell (p := ⟨W.heap.size, 0, none⟩) (.inr (Nat.le_refl _)) (.int .i64 (rd_T31 L k).f0)).setCell (p := ⟨W.heap.size, 1, none⟩) (.inr (Nat.le_refl _)) (.int .i64 (rd_T31 L k).f1)).setCell (p := ⟨W.heap.size, 2, none⟩) (.inr (Nat.le_refl _)) (.string (rd_T31 L k).f2))
  exact bodyPost_ret (v := .tuple #[val (rd_T31 L k), .int .i64 0]) (by simp [results, Try.results11, go_sem, s0, s1, s2, val]) rfl ⟨rfl, _, hN7.out, hB7.out, hK7.out, .inl rfl⟩

theorem take_calls (w0 W : World) (g : Nat) (v : Value) (L : List S31) (k : Int) (hN : Net 52 w0 W g v L) (hB : Below w0.heap.size w0 W) (h1000 : L.length ≤ 1000) :
    Calls Try.prog 11 #[.pointer (some ⟨g, 0, none⟩), .int .i64 k] W fun e W' => e = .returned (.tuple #[val (takeF L k).2.1, .int .i64 (takeF L k).2.2]) ∧ After 52 w0 W g v (takeF L k).1 W' := by
  unfold takeF
  by_cases h : 0 ≤ k ∧ k < L.length
  · rw [if_pos h]
    obtain ⟨n, rfl⟩ := Int.eq_ofNat_of_zero_le h.1
    have := take_good w0 W g v L n hN hB (by omega) h1000
    exact this
  · rw [if_neg h]
    have hb : (decide (0 ≤ k) && decide (k < (L.length : Int))) = false := by
      rw [← Bool.not_eq_true, Bool.and_eq_true, decide_eq_true_eq, decide_eq_true_eq]
      exact h
    exact (take_none w0 W g v L k hN hb).mono fun e w' h => ⟨h.1, .same hN hB h.2⟩

end Go.Proofs.Ytecagknnkbolgaa.NetW
