/- slices.Delete of one message. -/
import Derived.Test.YtecagknnkbolgaaNetD
import Derived.Lib.SliceRun
import Derived.Deep.RegionLaw
namespace Go.Proofs.Ytecagknnkbolgaa.NetW
open Go.RowKit Go.Proofs.YtecagknnkbolgaaW.PrintWords Go.Proofs.YtecagknnkbolgaaW.PrintLast Go.Proofs.YtecagknnkbolgaaW.PrintMore Go.Proofs.Ytecagknnkbolgaa.PNets

def zeros3 : List Value := [.int .i64 0, .int .i64 0, .string ⟨#[]⟩]

theorem run_clear1 (W : World) (ty : TypeId) (b o c : Nat) (hc : ∀ j, j < 3 → (W.cell? ⟨b, o + j, none⟩).isSome = true) (hf : ∀ j, j < 3 → W.frozen? ⟨b, o + j, none⟩ = false) :
    (Builtin.clear_ #[22] ty #[.slice (some ⟨b, o, none⟩) 1 c]).run Try.prog W = .ok (.tuple #[]) (W.setCells b o zeros3) := by
  have hv : ∀ W, (zeroValue 31).run Try.prog W = .ok (.agg #[.int .i64 0, .int .i64 0, .string ⟨#[]⟩]) W := fun W => by
    kernel_rfl
  have hzc : (Builtin.zeroCells (Value.agg #[.int .i64 0, .int .i64 0, .string ⟨#[]⟩]).cells 1).toList = zeros3 := by kernel_rfl
  have hst := run_storeCells_cells (P := Try.prog) b o zeros3 0 W (fun j hj => by have : j < 3 := hj; simpa using hc j this) (fun j hj => by have : j < 3 := hj; simpa using hf j this) (by intro v hv'; simp [zeros3] at hv'; rcases hv' with rfl | rfl <;> rfl)
  simp only [Nat.add_zero] at hst
  simp [Builtin.clear_, run_underlying Try.underlying22, hv, hzc, hst]

theorem R_beyond {W : World} {base g n c j : Nat} {L : List S31} (h : Kd.R k31 31 W base (fun _ => True) (.slice (some ⟨g, 0, none⟩) n c) L) (hj : n * 3 ≤ j) (u : Value) :
    Kd.R k31 31 (W.setCell ⟨g, j, none⟩ u) base (fun _ => True) (.slice (some ⟨g, 0, none⟩) n c) L := by
  obtain ⟨hn, -, -⟩ := Kd.R_reads' h
  obtain ⟨h0, inner, ⟨hi, hown⟩, hr⟩ := h
  subst hn
  refine ⟨fun _ _ => trivial, inner, ⟨hi, ?_⟩, ?_⟩
  · rcases hown with ⟨hv, _⟩ | ⟨g', cap, cur, hv, hb, hg, hle, hm, hs, ht⟩
    · cases hv
    · injection hv with hA h2 h3
      injection hA with hA
      injection hA with hA
      subst hA h3
      refine .inr ⟨g, c, _, rfl, hb, setCell_heap W g j cur 31 (0, 0) u hg, hle, hm, by simpa using hs, ?_⟩
      rw [Array.toList_setIfInBounds, List.take_set_of_le (show L.length * k31.sz ≤ j from hj)]
      exact ht
  · exact ⟨hr.1, fun i p hp => by have h := k31_openM (hr.2 i p hp); rw [h]; exact k31_mkM _ _ _ p⟩

theorem R_room {W : World} {base g n c j : Nat} {L : List S31} (h : Kd.R k31 31 W base (fun _ => True) (.slice (some ⟨g, 0, none⟩) n c) L) (hj : j < c * 3) :
    (W.cell? ⟨g, j, none⟩).isSome = true ∧ W.frozen? ⟨g, j, none⟩ = false := by
  obtain ⟨h0, inner, ⟨hi, hown⟩, hr⟩ := h
  rcases hown with ⟨hv, _⟩ | ⟨g', cap, cur, hv, hb, hg, hle, hm, hs, ht⟩
  · cases hv
  · injection hv with hA h2 h3
    injection hA with hA
    injection hA with hA
    subst hA h3
    have hs' : cur.size = c * 3 := hs
    refine ⟨?_, blk_free hg⟩
    simp [World.cell?, hg]
    omega

theorem grown_set {W w1 : World} {g : Nat} (h : W.grownBy w1 (some g)) (j : Nat) (u : Value) : W.grownBy (w1.setCell ⟨g, j, none⟩ u) (some g) :=
  ⟨h.os, h.tape, h.output, Nat.le_trans h.size (show w1.heap.size ≤ (w1.setCell ⟨g, j, none⟩ u).heap.size by simp [World.setCell]), fun k hk hn => (Below.heap_setCell w1 ⟨g, j, none⟩ u k (fun e => hn (by rw [e]))).trans (h.block k hk hn)⟩

theorem delete_end {w0 W w1 : World} {base g q c : Nat} {L : List S31} (hR : Kd.R k31 31 w1 base (fun _ => True) (.slice (some ⟨g, 0, none⟩) q c) L) (hB : Below base w0 w1) (hg : W.drew.grownBy w1 (some g)) (hbg : base ≤ g) :
    Kd.R k31 31 (w1.setCells g (q * 3) zeros3) base (fun _ => True) (.slice (some ⟨g, 0, none⟩) q c) L ∧ Below base w0 (w1.setCells g (q * 3) zeros3) ∧ W.grownBy (w1.setCells g (q * 3) zeros3) (some g) := by
  have hg0 : W.grownBy w1 (some g) := ⟨hg.os, hg.tape, hg.output, hg.size, hg.block⟩
  show Kd.R k31 31 (((w1.setCell ⟨g, q * 3, none⟩ (.int .i64 0)).setCell ⟨g, q * 3 + 1, none⟩ (.int .i64 0)).setCell ⟨g, q * 3 + 1 + 1, none⟩ (.string ⟨#[]⟩)) base _ _ L ∧ Below base w0 (((w1.setCell ⟨g, q * 3, none⟩ (.int .i64 0)).setCell ⟨g, q * 3 + 1, none⟩ (.int .i64 0)).setCell ⟨g, q * 3 + 1 + 1, none⟩ (.string ⟨#[]⟩)) ∧ W.grownBy (((w1.setCell ⟨g, q * 3, none⟩ (.int .i64 0)).setCell ⟨g, q * 3 + 1, none⟩ (.int .i64 0)).setCell ⟨g, q * 3 + 1 + 1, none⟩ (.string ⟨#[]⟩)) (some g)
  exact ⟨R_beyond (R_beyond (R_beyond hR (Nat.le_refl _) _) (by omega) _) (by omega) _, ((hB.setCell (p := ⟨g, q * 3, none⟩) hbg _).setCell (p := ⟨g, q * 3 + 1, none⟩) hbg _).setCell (p := ⟨g, q * 3 + 1 + 1, none⟩) hbg _, grown_set (grown_set (grown_set hg0 _ _) _ _) _ _⟩

theorem tail_at (g c k : Nat) : (if c = k + 1 then some (⟨g, 0, none⟩ : Addr) else some ⟨g, (k + 1) * 3, none⟩) = if c = k + 1 then some ⟨g, 0, none⟩ else (some (⟨g, 0, none⟩ : Addr)).map (·.add ((k + 1) * k31.sz)) := by
  split
  · rfl
  · show some _ = some (Addr.add ⟨g, 0, none⟩ ((k + 1) * 3))
    simp [Addr.add]

set_option maxHeartbeats 4000000 in
set_option maxRecDepth 100000 in
theorem delete_calls (w0 W : World) (base g n c k : Nat) (L : List S31) (hR : Kd.R k31 31 W base (fun _ => True) (.slice (some ⟨g, 0, none⟩) n c) L) (hk : k < n) (hB : Below base w0 W) (hbase : base ≤ W.heap.size) :
    Calls Try.prog 22 #[.slice (some ⟨g, 0, none⟩) n c, .int .i64 k, .int .i64 ((k : Int) + 1)] W fun e W' => e = .returned (.slice (some ⟨g, 0, none⟩) (n - 1) c) ∧ Kd.R k31 31 W' base (fun _ => True) (.slice (some ⟨g, 0, none⟩) (n - 1) c) (L.eraseIdx k) ∧ Below base w0 W' ∧ W.grownBy W' (some g) := by
  obtain ⟨hn, hc, hC⟩ := Kd.R_reads' hR
  subst hn
  have i1 : (0 : Int) ≤ (k : Int) := by omega
  have i2 : (k : Int) ≤ (k : Int) + 1 := by omega
  have i3 : (k : Int) + 1 ≤ (L.length : Int) := by omega
  have i4 : (L.length : Int) ≤ (c : Int) := by omega
  have i5 : (0 : Int) ≤ (k : Int) + 1 := by omega
  have i6 : (k : Int) ≤ (c : Int) := by omega
  have i7 : (k : Int) + 1 ≤ (c : Int) := by omega
  have e1 : ((k : Int) == (k : Int) + 1) = false := beq_eq_false_iff_ne.mpr (by omega)
  replace hR := Aside0.mk hR
  replace hB := Aside0.mk hB
  clear hC
  go_enter Try.func22, Try.ntmps22
  go_wp2
  go_region_law
    ((refine Kd.R_delete_step k31 (w0 := w0) (g := g) (n := L.length) (c := c) (k := k) (xs := L) (ok := fun _ => True) base (by rfl) _ _ 22 31 (by rfl) Try.underlying22 (by kernel_rfl) (by rfl) (by rfl) (tail_at g c k) rfl (Kd.R_drew hR.out) hk (below_drew hB.out) hbase ?_; intro w1 hR1 hB1 hg1; replace hR1 := Aside0.mk hR1; replace hB1 := Aside0.mk hB1; replace hg1 := Aside0.mk hg1))
  obtain ⟨q, hq⟩ : ∃ q, L.length = q + 1 := ⟨L.length - 1, by omega⟩
  have hqc : q < c := by omega
  have hcl := fun ty => run_clear1 w1 ty g (q * 3) (c - q) (fun j hj => (R_room hR1.out (by omega)).1) (fun j hj => (R_room hR1.out (by omega)).2)
  have j0 : L.length - 1 = q := by omega
  rw [j0] at *
  have j1 : (0 : Int) ≤ (q : Int) := by omega
  have j2 : (q : Int) ≤ (L.length : Int) := by omega
  have j3 : (c = q) = False := eq_false (by omega)
  have j4 : L.length - q = 1 := by omega
  have hF := delete_end hR1.out hB1.out hg1.out (Kd.R_base hR.out g rfl)
  rw [show L.length - 1 = q by omega] at hF
  replace hF := Aside0.mk hF
  clear hR1 hB1 hg1
  go_wp2
  all_goals
    go_ret
    first | exact ⟨rfl, hF.out⟩ | (have hck : c = k + 1 := by assumption
                                   subst hck
                                   exact ⟨rfl, hF.out⟩)

end Go.Proofs.Ytecagknnkbolgaa.NetW
