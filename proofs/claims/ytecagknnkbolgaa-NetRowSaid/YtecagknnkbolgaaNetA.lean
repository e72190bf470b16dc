/- A net in memory; the package's Send, step by step. -/
import Derived.Test.YtecagknnkbolgaaPNetsx
import Derived.Deep.RegionHeld3
import Derived.Deep.RegionLaw
import Derived.Deep.AppendLies
import Derived.Test.YtecagknnkbolgaaWApart
import Derived.Test.YtecagknnkbolgaaWKept
namespace Go.Proofs.Ytecagknnkbolgaa.NetW
open Go.RowKit Go.Proofs.YtecagknnkbolgaaW.PrintWords Go.Proofs.YtecagknnkbolgaaW.PrintLast Go.Proofs.YtecagknnkbolgaaW.PrintMore Go.Proofs.Ytecagknnkbolgaa.PNets

/-- A net (a struct of type T: 52 the package's, 28 the document's) at block g; its row v holds L. -/
structure Net (T : Nat) (w0 W : World) (g : Nat) (v : Value) (L : List S31) : Prop where
  blk : W.heap[g]? = some (.cells #[v] T (0, 0))
  ge : w0.heap.size ≤ g
  row : Kd.R k31 31 W w0.heap.size (fun _ => True) v L

theorem blk_free {W : World} {g : Nat} {cs : Array Value} {t : TypeId} (h : W.heap[g]? = some (.cells cs t (0, 0))) {j : Nat} : W.frozen? ⟨g, j, none⟩ = false := by simp [World.frozen?, h]

/-- May a message be? -/
def mayF (m : S31) : Bool := decide (1 ≤ m.f0 ∧ m.f0 ≤ 4 ∧ 1 ≤ m.f1 ∧ m.f1 ≤ 4 ∧ m.f0 ≠ m.f1 ∧ 1 ≤ m.f2.size ∧ m.f2.size ≤ 556)
def val (m : S31) : Value := .agg #[.int .i64 m.f0, .int .i64 m.f1, .string m.f2]
def sendF (L : List S31) (m : S31) : List S31 × Int := if mayF m = true then (if L.length ≥ 64 then (L, 2401) else (L ++ [m], 0)) else (L, 2400)

theorem info31m : (Try.prog.info? 31).map (fun i => (i.zero, i.size, i.bytes)) = some (some (.agg #[.int .i64 0, .int .i64 0, .string ⟨#[]⟩]), 3, 32) := by kernel_rfl

theorem may_eq (m : S31) : net_may.f m.f0 m.f1 m.f2 = some (mayF m) := by
  unfold net_may.f lsa_Router.f mayF
  by_cases h0 : m.f0 ≥ 1 <;> by_cases h1 : m.f0 ≤ 4 <;> by_cases h2 : m.f1 ≥ 1 <;> by_cases h3 : m.f1 ≤ 4 <;> by_cases h4 : m.f0 = m.f1 <;> by_cases h5 : (m.f2.size : Int) ≥ 1 <;> by_cases h6 : (m.f2.size : Int) ≤ 556 <;> simp [h0, h1, h2, h3, h4, h5, h6] <;> omega

theorem may_calls (m : S31) (w : World) : Calls Try.prog 19 #[val m] w fun e w' => e = .returned (.bool (mayF m)) ∧ Below w.heap.size w w' :=
  net_may.calls m.f0 m.f1 m.f2 (mayF m) w (may_eq m)

theorem below_step {n : Nat} {w w1 w2 : World} (h : Below n w w1) (h2 : Below w1.heap.size w1 w2) (hn : n ≤ w1.heap.size) : Below n w w2 :=
  ⟨h2.os.trans h.os, h2.tape.trans h.tape, h2.output.trans h.output, Nat.le_trans h.size h2.size, fun k hk => (h2.block k (Nat.lt_of_lt_of_le hk hn)).trans (h.block k hk)⟩

theorem Net.below {T : Nat} {w0 W W' : World} {g : Nat} {v : Value} {L : List S31} (h : Net T w0 W g v L) (hb : Below W.heap.size W W') : Net T w0 W' g v L :=
  ⟨(hb.block g (blk_lt h.blk)).trans h.blk, h.ge, Kd.R_below h.row hb⟩
theorem Net.form {T : Nat} {w0 W : World} {g : Nat} {v : Value} {L : List S31} (h : Net T w0 W g v L) : ∃ A c, v = .slice A L.length c ∧ L.length ≤ c := by
  obtain ⟨A, c, h1, h2, _⟩ := Kd.R_reads h.row
  exact ⟨A, c, h1, h2⟩
theorem Net.cell {T : Nat} {w0 W : World} {g : Nat} {v : Value} {L : List S31} (h : Net T w0 W g v L) : W.cell? ⟨g, 0, none⟩ = some v := (blk_cell h.blk 0).trans rfl
theorem Net.free {T : Nat} {w0 W : World} {g : Nat} {v : Value} {L : List S31} (h : Net T w0 W g v L) : W.frozen? ⟨g, 0, none⟩ = false := by simp [World.frozen?, h.blk]

theorem may_val (m : S31) (b : Bool) (h : mayF m = b) (w : World) : Calls Try.prog 19 #[.agg #[.int .i64 m.f0, .int .i64 m.f1, .string m.f2]] w fun e w' => e = .returned (.bool b) ∧ Below w.heap.size w w' := h ▸ may_calls m w

/-- A call's variable of a message. -/
theorem box3 {W W1 : World} {a b : Int} {s : ByteArray} {n : Nat} (hb : Below n (W.alloc (.cells #[.int .i64 a, .int .i64 b, .string s] 31)) W1) (hn : W.heap.size < n) :
    (W1.cell? ⟨W.heap.size, 0, none⟩ = some (.int .i64 a) ∧ W1.cell? ⟨W.heap.size, 1, none⟩ = some (.int .i64 b) ∧ W1.cell? ⟨W.heap.size, 2, none⟩ = some (.string s)) ∧ Below W.heap.size W W1 := by
  have h1 : W1.heap[W.heap.size]? = some (.cells #[.int .i64 a, .int .i64 b, .string s] 31 (0, 0)) := (hb.block _ hn).trans (heap_alloc_new W _)
  refine ⟨⟨by simp [World.cell?, h1], by simp [World.cell?, h1], by simp [World.cell?, h1]⟩, ?_⟩
  have h2 := below_alloc (Below.refl W.heap.size W) (.cells #[.int .i64 a, .int .i64 b, .string s] 31)
  exact ⟨hb.os.trans h2.os, hb.tape.trans h2.tape, hb.output.trans h2.output, Nat.le_trans h2.size hb.size, fun k hk => (hb.block k (Nat.lt_trans hk hn)).trans (h2.block k hk)⟩

theorem setCell_heap (W : World) (b j : Nat) (C : Array Value) (e : TypeId) (fr : Nat × Nat) (v : Value) (h : W.heap[b]? = some (.cells C e fr)) :
    (W.setCell ⟨b, j, none⟩ v).heap[b]? = some (.cells (C.setIfInBounds j v) e fr) := by
  unfold World.setCell
  simp only
  rw [Array.getElem?_modify, if_pos rfl, h]
  simp

/-- What stands behind an append to a net's row. -/
theorem append_end {T : Nat} {w0 W1 W2 : World} {g : Nat} {v v' : Value} {L : List S31} {m : S31} {inner : List Value} {o : Obj} {gg n cap : Nat} (hT : ∀ q, q ∈ 31 :: k31.E → q ≠ T) (hN : Net T w0 W1 g v L) (hB : Below w0.heap.size w0 W1)
    (hr : Reps (k31.M W1 w0.heap.size (fun k => True ∧ some k ≠ v.ownBlock)) k31.sz L inner) (hgrow : ((W1.alloc o).drew).grownBy W2 v.ownBlock)
    (hv' : v' = .slice (some ⟨gg, 0, none⟩) n cap)
    (hown : W2.ownsRow w0.heap.size 31 k31.sz v' (L.length + 1) (inner ++ [.int .i64 m.f0, .int .i64 m.f1, .string m.f2])) (hat : v.ownBlock = some gg ∨ gg = W1.heap.size + 1) (hvg : v.ownBlock ≠ some g) :
    Net T w0 (W2.setCell ⟨g, 0, none⟩ v') g v' (L ++ [m]) ∧ Below w0.heap.size w0 (W2.setCell ⟨g, 0, none⟩ v') ∧ Kept W1 (W2.setCell ⟨g, 0, none⟩ v') (fun k => k = g ∨ some k = v.ownBlock) ∧ (v'.ownBlock = v.ownBlock ∨ ∃ b, v'.ownBlock = some b ∧ W1.heap.size ≤ b) := by
  have hg1 : W1.grownBy W2 v.ownBlock := ⟨hgrow.os, hgrow.tape, hgrow.output, Nat.le_trans (show W1.heap.size ≤ (W1.alloc o).heap.size by simp) hgrow.size, fun k hk hn => (hgrow.block k (by show k < (W1.alloc o).heap.size; simp; omega) hn).trans (heap_alloc_old W1 o hk)⟩
  have hat' : v'.ownBlock = v.ownBlock ∨ ∃ b, v'.ownBlock = some b ∧ W1.heap.size ≤ b := by
    subst hv'
    rcases hat with h | h
    · exact .inl (by rw [h]; rfl)
    · exact .inr ⟨gg, rfl, by omega⟩
  have hrow : Kd.R k31 31 W2 w0.heap.size (fun _ => True) v' (L ++ [m]) := Kd.R_appended (fun _ _ => trivial) hr (k31_mkM W1 w0.heap.size (fun _ => False) m) (fun _ h => h.elim) (fun _ _ => trivial) hown hg1 hat'
  have hblk : W2.heap[g]? = some (.cells #[v] T (0, 0)) := (hg1.block g (blk_lt hN.blk) (Ne.symm hvg)).trans hN.blk
  have hBr := Kd.R_base hN.row
  have hB2 : Below w0.heap.size w0 W2 := ⟨hg1.os.trans hB.os, hg1.tape.trans hB.tape, hg1.output.trans hB.output, Nat.le_trans hB.size hg1.size, fun k hk => (hg1.block k (Nat.lt_of_lt_of_le hk hB.size) (fun e => by have := hBr k e.symm; omega)).trans (hB.block k hk)⟩
  refine ⟨⟨setCell_heap W2 g 0 _ T (0, 0) v' hblk, hN.ge, Kd.R_set hrow hblk hT 0 v'⟩, hB2.setCell (p := ⟨g, 0, none⟩) hN.ge v', ?_, hat'⟩
  exact (Kept.of_grown hg1 (Kept.refl W1 _) (fun k h => .inl (.inr h.symm))).setCell (p := ⟨g, 0, none⟩) (.inl (.inl rfl)) v'

set_option maxHeartbeats 4000000 in
set_option maxRecDepth 100000 in
theorem send_nil (W : World) (m : S31) :
    Calls Try.prog 9 #[.pointer none, val m] W fun e W' => e = .returned (.int .i64 1) ∧ Below W.heap.size W W' := by
  unfold val
  go_enter Try.func9, Try.ntmps9
  go_wp2_with fail
  go_ret
  exact ⟨rfl, below_alloc (Below.refl _ _) _⟩

set_option maxHeartbeats 4000000 in
set_option maxRecDepth 100000 in
theorem send_form (W : World) (g : Nat) (m : S31) (hm : mayF m = false) :
    Calls Try.prog 9 #[.pointer (some ⟨g, 0, none⟩), val m] W fun e W' => e = .returned (.int .i64 2400) ∧ Below W.heap.size W W' := by
  replace hm := Aside0.mk hm
  unfold val
  go_enter Try.func9, Try.ntmps9
  go_wp2_with (go_at_call 19; (with_reducible refine (may_val m false hm.out _).mono ?_); rintro e w1 ⟨rfl, hb1⟩)
  go_ret
  exact ⟨rfl, (box3 hb1 (by simp)).2⟩

set_option maxHeartbeats 4000000 in
set_option maxRecDepth 100000 in
theorem send_full (w0 W : World) (g : Nat) (v : Value) (L : List S31) (m : S31) (hN : Net 52 w0 W g v L) (hm : mayF m = true) (hl : L.length = 64) :
    Calls Try.prog 9 #[.pointer (some ⟨g, 0, none⟩), val m] W fun e W' => e = .returned (.int .i64 2401) ∧ Below W.heap.size W W' := by
  obtain ⟨A, c, rfl, hc⟩ := hN.form
  rw [hl] at hN
  replace hN := Aside0.mk hN
  replace hm := Aside0.mk hm
  clear hl hc
  unfold val
  go_enter Try.func9, Try.ntmps9
  go_wp2_with (go_at_call 19; (with_reducible refine (may_val m true hm.out _).mono ?_); rintro e w1 ⟨rfl, hb1⟩; have p0 := ((hN.out.below (below_alloc (Below.refl _ _) _)).below hb1).cell; have HB := Aside0.mk (box3 hb1 (by simp)).2; clear hb1)
  go_ret
  exact ⟨rfl, HB.out⟩

set_option maxHeartbeats 4000000 in
set_option maxRecDepth 100000 in
theorem send_good (w0 W : World) (g : Nat) (v : Value) (L : List S31) (m : S31) (hN : Net 52 w0 W g v L) (hB : Below w0.heap.size w0 W) (hm : mayF m = true) (hl : L.length < 64) :
    Calls Try.prog 9 #[.pointer (some ⟨g, 0, none⟩), val m] W fun e W' => e = .returned (.int .i64 0) ∧ ∃ v', Net 52 w0 W' g v' (L ++ [m]) ∧ Below w0.heap.size w0 W' ∧ Kept W W' (fun k => k = g ∨ some k = v.ownBlock) ∧ (v'.ownBlock = v.ownBlock ∨ ∃ b, v'.ownBlock = some b ∧ W.heap.size ≤ b) := by
  obtain ⟨A, c, rfl, hc⟩ := hN.form
  have d1 : ((L.length : Int) == 64) = false := beq_eq_false_iff_ne.mpr (by omega)
  replace hN := Aside0.mk hN
  replace hm := Aside0.mk hm
  replace hB := Aside0.mk hB
  replace hl := Aside0.mk hl
  clear hc
  unfold val
  go_enter Try.func9, Try.ntmps9
  go_wp2_with (go_at_call 19; (with_reducible refine (may_val m true hm.out _).mono ?_); rintro e w1 ⟨rfl, hb1⟩; have hN1 := (hN.out.below (below_alloc (Below.refl _ _) _)).below hb1; have p0 := hN1.cell; have f0 := hN1.free; obtain ⟨⟨q0, q1, q2⟩, HB⟩ := box3 hb1 (by simp); replace HB := Aside0.mk HB; replace hN1 := Aside0.mk hN1; clear hb1)
  obtain ⟨h0, inner, hown, hr⟩ := hN1.out.row
  have hinn : Aside0 (inner.length = L.length * 3) := ⟨hown.1⟩
  have lg : g < w1.heap.size := blk_lt hN1.out.blk
  have lb := World.block_lt_of_cell? _ _ q0
  have hvg : (Value.slice A L.length c).ownBlock ≠ some g := fun e => Kd.R_ne hN1.out.row hN1.out.blk (by decide) e.symm
  have hbase : w0.heap.size ≤ w1.heap.size := Nat.le_trans hN1.out.ge (Nat.le_of_lt lg)
  obtain ⟨i0, hi0, hz0, hz1, hz2⟩ := info_parts info31m
  go_region_law
    ((refine step_append_lies _ (by rfl) _ _ _ (by rfl) w0.heap.size 31 i0 _ 3 32 Try.underlying22 hi0 hz0 hz1 hz2 rfl (by omega) (.slice A L.length c) L.length inner (by rfl) ((hown.alloc _).drew)
        ⟨w1.heap.size, 0, none⟩ 1 1 [.int .i64 m.f0, .int .i64 m.f1, .string m.f2] (by rfl) (by rfl) (World.news_of_block (cs := #[.int .i64 m.f0, .int .i64 m.f1, .string m.f2]) (t := 31) (fr := (0, 0)) (heap_alloc_new w1 _)) (by simp [Value.oneCell'])
        (by omega) (by have := hl.out; unfold maxLen; omega) (by have := hl.out; omega) (by simp; omega) (w1.heap.size + 1) (by simp) ?_; intro gg cap w2 hown1 hgrow hat hlt; have hblk2 := (hgrow.block g (by simp; omega) (Ne.symm hvg)).trans ((heap_alloc_old w1 _ lg).trans hN1.out.blk); have c2 : w2.cell? ⟨g, 0, none⟩ = some (.slice A L.length c) := (blk_cell hblk2 0).trans rfl; have f2 : w2.frozen? ⟨g, 0, none⟩ = false := blk_free hblk2; replace hblk2 := Aside0.mk hblk2; replace hown1 := Aside0.mk hown1; replace hgrow := Aside0.mk hgrow; replace hat := Aside0.mk hat; replace hlt := Aside0.mk hlt))
  all_goals
    have he := append_end (v' := .slice (some ⟨gg, 0, none⟩) (L.length + 1) cap) (m := m) (by decide) hN1.out (below_step hB.out HB.out (hB.out.size)) hr hgrow.out rfl hown1.out hat.out hvg
    replace he := Aside0.mk he
    go_wp2
    go_ret
    obtain ⟨e1, e2, e3, e4⟩ := he.out
    exact ⟨rfl, _, e1, e2, (Kept.of_below HB.out _).then_ e3 (fun k hk => .inl hk), e4.imp id (fun ⟨b, h1, h2⟩ => ⟨b, h1, Nat.le_trans HB.out.size h2⟩)⟩

end Go.Proofs.Ytecagknnkbolgaa.NetW
