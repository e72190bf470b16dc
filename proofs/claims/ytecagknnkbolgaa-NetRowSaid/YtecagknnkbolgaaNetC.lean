/- Copy: the package's and the document's, step by step. -/
import Derived.Test.YtecagknnkbolgaaNetB
namespace Go.Proofs.Ytecagknnkbolgaa.NetW
open Go.RowKit Go.Proofs.YtecagknnkbolgaaW.PrintWords Go.Proofs.YtecagknnkbolgaaW.PrintLast Go.Proofs.YtecagknnkbolgaaW.PrintMore Go.Proofs.Ytecagknnkbolgaa.PNets

def copyF (L : List S31) (k : Int) : List S31 × Int := if 0 ≤ k ∧ k < L.length then sendF L (rd_T31 L k) else (L, 2402)

theorem send_raw (w0 W : World) (g : Nat) (v : Value) (L : List S31) (m : S31) (hN : Net 52 w0 W g v L) (hB : Below w0.heap.size w0 W) (hl : L.length ≤ 64) :
    Calls Try.prog 9 #[.pointer (some ⟨g, 0, none⟩), .agg #[.int .i64 m.f0, .int .i64 m.f1, .string m.f2]] W fun e W' => e = .returned (.int .i64 (sendF L m).2) ∧ After 52 w0 W g v (sendF L m).1 W' := send_calls w0 W g v L m hN hB hl
theorem rsend_raw (w0 W : World) (g : Nat) (v : Value) (L : List S31) (m : S31) (hN : Net 28 w0 W g v L) (hB : Below w0.heap.size w0 W) :
    Calls Try.prog 10 #[.pointer (some ⟨g, 0, none⟩), .agg #[.int .i64 m.f0, .int .i64 m.f1, .string m.f2]] W fun e W' => e = .returned (.int .i64 (sendF L m).2) ∧ After 28 w0 W g v (sendF L m).1 W' := rsend_calls w0 W g v L m hN hB

theorem After.then_ {T : Nat} {w0 W W1 W' : World} {g : Nat} {v : Value} {L' : List S31} (hb : Below W.heap.size W W1) (h : After T w0 W1 g v L' W') : After T w0 W g v L' W' := by
  obtain ⟨v', h1, h2, h3, h4⟩ := h
  exact ⟨v', h1, h2, (Kept.of_below hb _).then_ h3 (fun k hk => .inl hk), h4.imp id (fun ⟨b, e1, e2⟩ => ⟨b, e1, Nat.le_trans hb.size e2⟩)⟩

set_option maxHeartbeats 4000000 in
set_option maxRecDepth 100000 in
theorem has_calls (w0 W : World) (g : Nat) (v : Value) (L : List S31) (k : Int) (b : Bool) (hN : Net 52 w0 W g v L) (hb : (decide (0 ≤ k) && decide (k < (L.length : Int))) = b) :
    Calls Try.prog 21 #[.pointer (some ⟨g, 0, none⟩), .int .i64 k] W fun e W' => e = .returned (.bool b) ∧ Below W.heap.size W W' := by
  obtain ⟨A, c, rfl, hc⟩ := hN.form
  have p0 := hN.cell
  clear hN hc
  by_cases h0 : 0 ≤ k
  · have d0 : decide (0 ≤ k) = true := decide_eq_true h0
    by_cases h1 : k < L.length
    · have d1 : decide (k < (L.length : Int)) = true := decide_eq_true h1
      rw [d0, d1] at hb
      subst hb
      go_enter Try.func21, Try.ntmps21
      go_wp2
      go_ret
      exact ⟨rfl, by repeat (first | exact Below.refl _ _ | apply below_drew)⟩
    · have d1 : decide (k < (L.length : Int)) = false := decide_eq_false h1
      rw [d0, d1] at hb
      subst hb
      go_enter Try.func21, Try.ntmps21
      go_wp2
      go_ret
      exact ⟨rfl, by repeat (first | exact Below.refl _ _ | apply below_drew)⟩
  · have d0 : decide (0 ≤ k) = false := decide_eq_false h0
    rw [d0, Bool.false_and] at hb
    subst hb
    go_enter Try.func21, Try.ntmps21
    go_wp2
    go_ret
    exact ⟨rfl, by repeat (first | exact Below.refl _ _ | apply below_drew)⟩

set_option maxHeartbeats 4000000 in
set_option maxRecDepth 100000 in
theorem copy_calls (w0 W : World) (g : Nat) (v : Value) (L : List S31) (k : Int) (hN : Net 52 w0 W g v L) (hB : Below w0.heap.size w0 W) (hl : L.length ≤ 64) :
    Calls Try.prog 13 #[.pointer (some ⟨g, 0, none⟩), .int .i64 k] W fun e W' => e = .returned (.int .i64 (copyF L k).2) ∧ After 52 w0 W g v (copyF L k).1 W' := by
  obtain ⟨A, c, rfl, hc⟩ := hN.form
  have p0 := hN.cell
  unfold copyF
  by_cases h0 : 0 ≤ k
  · have d0 : decide (0 ≤ k) = true := decide_eq_true h0
    by_cases h1 : k < L.length
    · have d1 : decide (k < (L.length : Int)) = true := decide_eq_true h1
      have hbb : (decide (0 ≤ k) && decide (k < (L.length : Int))) = true := by rw [d0, d1]; rfl
      rw [if_pos ⟨h0, h1⟩]
      obtain ⟨-, -, hC⟩ := Kd.R_reads' hN.row
      obtain ⟨ad, rfl, c0, c1, c2⟩ := at_T31 hC k h0 h1
      have hs := fun W' (hb : Below W.heap.size W W') => send_raw w0 W' g _ L (rd_T31 L k) (hN.below hb) (below_step hB hb hB.size) hl
      replace hs := Aside0.mk hs
      replace hN := Aside0.mk hN
      replace hB := Aside0.mk hB
      replace hl := Aside0.mk hl
      generalize sendF L (rd_T31 L k) = q at *
      clear hC hc
      replace h0 := eq_true h0
      replace h1 := eq_true h1
      go_enter Try.func13, Try.ntmps13
      go_wp2_with (first
        | (go_at_call 21; (with_reducible refine (has_calls w0 _ g _ L k true hN.out hbb).mono ?_); rintro e w2 ⟨rfl, hb1⟩; replace p0 := pw_cell_below hb1 p0; replace c0 := pw_cell_below hb1 c0; replace c1 := pw_cell_below hb1 c1; replace c2 := pw_cell_below hb1 c2; replace hb1 := Aside0.mk hb1)
        | (go_at_call 9; (with_reducible refine (hs.out _ hb1.out).mono ?_); rintro e w1 ⟨rfl, ha⟩; replace ha := Aside0.mk (After.then_ hb1.out ha)))
      go_ret
      exact ⟨rfl, ha.out⟩
    · have d1 : decide (k < (L.length : Int)) = false := decide_eq_false h1
      have hbb : (decide (0 ≤ k) && decide (k < (L.length : Int))) = false := by rw [d0, d1]; rfl
      rw [if_neg (fun h => h1 h.2)]
      have hs := fun W' (hb : Below W.heap.size W W') => After.same hN hB hb
      replace hs := Aside0.mk hs
      replace hN := Aside0.mk hN
      clear hB hl hc
      go_enter Try.func13, Try.ntmps13
      go_wp2_with (go_at_call 21; (with_reducible refine (has_calls w0 _ g _ L k false hN.out hbb).mono ?_); rintro e w2 ⟨rfl, hb1⟩; replace hb1 := Aside0.mk hb1)
      go_ret
      exact ⟨rfl, hs.out _ hb1.out⟩
  · have d0 : decide (0 ≤ k) = false := decide_eq_false h0
    have hbb : (decide (0 ≤ k) && decide (k < (L.length : Int))) = false := by rw [d0, Bool.false_and]
    rw [if_neg (fun h => h0 h.1)]
    have hs := fun W' (hb : Below W.heap.size W W') => After.same hN hB hb
    replace hs := Aside0.mk hs
    replace hN := Aside0.mk hN
    clear hB hl hc
    go_enter Try.func13, Try.ntmps13
    go_wp2_with (go_at_call 21; (with_reducible refine (has_calls w0 _ g _ L k false hN.out hbb).mono ?_); rintro e w2 ⟨rfl, hb1⟩; replace hb1 := Aside0.mk hb1)
    go_ret
    exact ⟨rfl, hs.out _ hb1.out⟩

end Go.Proofs.Ytecagknnkbolgaa.NetW
