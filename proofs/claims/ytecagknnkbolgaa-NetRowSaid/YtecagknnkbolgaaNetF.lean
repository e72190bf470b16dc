/- The document's Copy. -/
import Derived.Test.YtecagknnkbolgaaNetE
namespace Go.Proofs.Ytecagknnkbolgaa.NetW
open Go.RowKit Go.Proofs.YtecagknnkbolgaaW.PrintWords Go.Proofs.YtecagknnkbolgaaW.PrintLast Go.Proofs.YtecagknnkbolgaaW.PrintMore Go.Proofs.Ytecagknnkbolgaa.PNets

set_option maxHeartbeats 4000000 in
set_option maxRecDepth 100000 in
theorem rcopy_calls (w0 W : World) (g : Nat) (v : Value) (L : List S31) (k : Int) (hN : Net 28 w0 W g v L) (hB : Below w0.heap.size w0 W) :
    Calls Try.prog 14 #[.pointer (some ⟨g, 0, none⟩), .int .i64 k] W fun e W' => e = .returned (.int .i64 (copyF L k).2) ∧ After 28 w0 W g v (copyF L k).1 W' := by
  obtain ⟨A, c, rfl, hc⟩ := hN.form
  have p0 := hN.cell
  unfold copyF
  by_cases h0 : 0 ≤ k
  · have d0 : decide (k < 0) = false := decide_eq_false (by omega)
    by_cases h1 : k < L.length
    · have d1 : decide ((L.length : Int) ≤ k) = false := decide_eq_false (by omega)
      rw [if_pos ⟨h0, h1⟩]
      obtain ⟨-, -, hC⟩ := Kd.R_reads' hN.row
      obtain ⟨ad, rfl, c0, c1, c2⟩ := at_T31 hC k h0 h1
      have hs := Aside0.mk (fun n => rsend_raw w0 (W.drewN n) g _ L (rd_T31 L k) (hN.below (pw_below_drewN (Below.refl _ _) n)) (below_step hB (pw_below_drewN (Below.refl _ _) n) hB.size))
      have hs0 := Aside0.mk (rsend_raw w0 W g _ L (rd_T31 L k) hN hB)
      generalize sendF L (rd_T31 L k) = q at *
      clear hC hc hN hB
      replace h0 := eq_true h0
      replace h1 := eq_true h1
      go_enter Try.func14, Try.ntmps14
      go_wp2_with (go_at_call 10; first
        | ((with_reducible refine hs0.out.mono ?_); rintro e w1 ⟨rfl, ha⟩; replace ha := Aside0.mk ha)
        | ((with_reducible refine (hs.out _).mono ?_); rintro e w1 ⟨rfl, ha⟩; replace ha := Aside0.mk (After.then_ (pw_below_drewN (Below.refl _ _) _) ha)))
      go_ret
      exact ⟨rfl, ha.out⟩
    · have d1 : decide ((L.length : Int) ≤ k) = true := decide_eq_true (by omega)
      rw [if_neg (fun h => h1 h.2)]
      have hs := Aside0.mk (After.same hN hB (Below.refl _ _))
      clear hN hB hc
      go_enter Try.func14, Try.ntmps14
      go_wp2
      go_ret
      exact ⟨rfl, hs.out⟩
  · have d0 : decide (k < 0) = true := decide_eq_true (by omega)
    rw [if_neg (fun h => h0 h.1)]
    have hs := Aside0.mk (After.same hN hB (Below.refl _ _))
    clear hN hB hc
    go_enter Try.func14, Try.ntmps14
    go_wp2
    go_ret
    exact ⟨rfl, hs.out⟩

end Go.Proofs.Ytecagknnkbolgaa.NetW
