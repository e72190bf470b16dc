/- New; the first look of chapter 24's laws (awake) answers true: step by step. -/
import Derived.Test.YtecagknnkbolgaaNetI
namespace Go.Proofs.Ytecagknnkbolgaa.NetW
open Go.RowKit Go.Proofs.YtecagknnkbolgaaW.PrintWords Go.Proofs.YtecagknnkbolgaaW.PrintLast Go.Proofs.YtecagknnkbolgaaW.PrintMore Go.Proofs.Ytecagknnkbolgaa.PNets

theorem net_new {T : Nat} {w0 W : World} (hB : Below w0.heap.size w0 W) : Net T w0 (W.alloc (.cells #[.slice none 0 0] T)) W.heap.size (.slice none 0 0) [] :=
  ⟨heap_alloc_new W _, hB.size, Kd.R_nil _ _ _ _ _⟩

theorem One.new {T : Nat} {w0 W : World} {P : Nat → Prop} (hB : Below w0.heap.size w0 W) (hP : ∀ k, P k → k < W.heap.size) : One T w0 (W.alloc (.cells #[.slice none 0 0] T)) W.heap.size [] P :=
  ⟨_, net_new hB, below_alloc2 hB hB.size _, fun k hk => ⟨by have := hP k hk; simp; omega, by have := hP k hk; omega, fun e => by cases e⟩⟩

theorem Two.new {T T2 : Nat} {w0 W : World} {g : Nat} {L : List S31} {P : Nat → Prop} (h : One T w0 W g L P) : Two T T2 w0 (W.alloc (.cells #[.slice none 0 0] T2)) g W.heap.size L [] P := by
  obtain ⟨v, h1, h2, h3⟩ := h
  have hb := below_alloc (Below.refl W.heap.size W) (.cells #[.slice none 0 0] T2)
  exact ⟨v, _, h1.below hb, net_new h2, below_alloc2 h2 h2.size _, by have := h1.inside; omega, fun b e e' => (by cases e'), fun k hk => ⟨by have := (h3 k hk).1; simp; omega, (h3 k hk).2.1, by have := (h3 k hk).1; omega, (h3 k hk).2.2, fun e => by cases e⟩⟩

set_option maxHeartbeats 4000000 in
theorem new_calls (W : World) : Calls Try.prog 7 #[] W fun e W' => e = .returned (.pointer (some ⟨W.heap.size, 0, none⟩)) ∧ W' = W.alloc (.cells #[.slice none 0 0] 52) := by
  go_enter Try.func7, Try.ntmps7
  go_wp2
  go_ret
  exact ⟨rfl, rfl⟩

section calls
variable {w0 W : World} {g : Nat} {L : List S31} {P : Nat → Prop}
theorem send_k (h : One 52 w0 W g L P) (a b : Int) (s : ByteArray) (L' : List S31) (r : Int) (hs : sendF L ⟨a, b, s⟩ = (L', r)) (hl : L.length ≤ 64) :
    Calls Try.prog 9 #[.pointer (some ⟨g, 0, none⟩), .agg #[.int .i64 a, .int .i64 b, .string s]] W fun e W' => e = .returned (.int .i64 r) ∧ One 52 w0 W' g L' P ∧ Keep P W W' := by
  have := send1 h ⟨a, b, s⟩ hl
  rw [hs] at this
  exact this
theorem copy_k (h : One 52 w0 W g L P) (k : Int) (L' : List S31) (r : Int) (hs : copyF L k = (L', r)) (hl : L.length ≤ 64) :
    Calls Try.prog 13 #[.pointer (some ⟨g, 0, none⟩), .int .i64 k] W fun e W' => e = .returned (.int .i64 r) ∧ One 52 w0 W' g L' P ∧ Keep P W W' := by
  have := copy1 h k hl
  rw [hs] at this
  exact this
theorem take_k (h : One 52 w0 W g L P) (k : Int) (L' : List S31) (x y : Int) (s : ByteArray) (r : Int) (hs : takeF L k = (L', ⟨x, y, s⟩, r)) (hl : L.length ≤ 64) :
    Calls Try.prog 11 #[.pointer (some ⟨g, 0, none⟩), .int .i64 k] W fun e W' => e = .returned (.tuple #[.agg #[.int .i64 x, .int .i64 y, .string s], .int .i64 r]) ∧ One 52 w0 W' g L' P ∧ Keep P W W' := by
  have := take1 h k hl
  rw [hs] at this
  exact this
end calls

abbrev sx : ByteArray := ⟨#[120]⟩
abbrev mx_ : S31 := ⟨1, 2, sx⟩

/-- What the last region of 'awake' reads. -/
theorem SA_below {w W W' : World} {g g2 g6 : Nat} {P : Nat → Prop}
    (h : (W.cell? ⟨g2, 0, none⟩ = some (.int .i64 1) ∧ W.cell? ⟨g2, 1, none⟩ = some (.int .i64 2) ∧ W.cell? ⟨g2, 2, none⟩ = some (.string sx) ∧ W.cell? ⟨g6, 0, none⟩ = some (.int .i64 1) ∧ W.cell? ⟨g6, 1, none⟩ = some (.int .i64 2) ∧ W.cell? ⟨g6, 2, none⟩ = some (.string sx)) ∧ Aside0 (One 52 w W g [mx_] P)) (hb : Below W.heap.size W W') :
    (W'.cell? ⟨g2, 0, none⟩ = some (.int .i64 1) ∧ W'.cell? ⟨g2, 1, none⟩ = some (.int .i64 2) ∧ W'.cell? ⟨g2, 2, none⟩ = some (.string sx) ∧ W'.cell? ⟨g6, 0, none⟩ = some (.int .i64 1) ∧ W'.cell? ⟨g6, 1, none⟩ = some (.int .i64 2) ∧ W'.cell? ⟨g6, 2, none⟩ = some (.string sx)) ∧ Aside0 (One 52 w W' g [mx_] P) :=
  ⟨⟨pw_cell_below hb h.1.1, pw_cell_below hb h.1.2.1, pw_cell_below hb h.1.2.2.1, pw_cell_below hb h.1.2.2.2.1, pw_cell_below hb h.1.2.2.2.2.1, pw_cell_below hb h.1.2.2.2.2.2⟩, ⟨h.2.out.below hb⟩⟩
theorem SA_all {w W : World} {g g2 g6 : Nat} {P : Nat → Prop}
    (h : (W.cell? ⟨g2, 0, none⟩ = some (.int .i64 1) ∧ W.cell? ⟨g2, 1, none⟩ = some (.int .i64 2) ∧ W.cell? ⟨g2, 2, none⟩ = some (.string sx) ∧ W.cell? ⟨g6, 0, none⟩ = some (.int .i64 1) ∧ W.cell? ⟨g6, 1, none⟩ = some (.int .i64 2) ∧ W.cell? ⟨g6, 2, none⟩ = some (.string sx)) ∧ Aside0 (One 52 w W g [mx_] P)) :
    Calls Try.prog 15 #[.pointer (some ⟨g, 0, none⟩)] W fun e W' => ∃ A c, e = .returned (.slice A 1 c) ∧ 1 ≤ c ∧ (∀ W2, Below W'.heap.size W' W2 → Kd.C k31 W2 A 1 [mx_]) ∧ Below W.heap.size W W' :=
  (all1 h.2.out (by decide)).mono fun e w' h => by
    obtain ⟨v', rfl, hR, hb⟩ := h
    obtain ⟨A, c, rfl⟩ := Kd.R_slice hR
    obtain ⟨-, hc, hC⟩ := Kd.R_reads' hR
    exact ⟨A, c, rfl, hc, fun W2 h2 => Kd.C_below hC h2, hb⟩
theorem built1 (W : World) (a b : Int) (s : ByteArray) : Kd.C k31 (W.alloc (.cells #[.int .i64 a, .int .i64 b, .string s] 31)) (some ⟨W.heap.size, 0, none⟩) 1 [⟨a, b, s⟩] := by
  have h1 : (W.alloc (.cells #[.int .i64 a, .int .i64 b, .string s] 31)).heap[W.heap.size]? = some (.cells #[.int .i64 a, .int .i64 b, .string s] 31 (0, 0)) := heap_alloc_new W _
  refine ⟨rfl, by decide, fun _ => ⟨_, rfl, fun j p hj => ?_⟩⟩
  obtain ⟨rfl, rfl⟩ : j = 0 ∧ p = ⟨a, b, s⟩ := by
    rcases j with _ | j
    · exact ⟨rfl, (Option.some.inj hj).symm⟩
    · cases hj
  refine ⟨_, rfl, k31_mk _ _, fun i u hu => ?_⟩
  have : i < 3 := (List.getElem?_eq_some_iff.1 hu).1
  simp only [Addr.add, Nat.zero_mul, Nat.zero_add]
  rcases i with _ | _ | _ | i
  · cases hu
    exact (blk_cell h1 0).trans rfl
  · cases hu
    exact (blk_cell h1 1).trans rfl
  · cases hu
    exact (blk_cell h1 2).trans rfl
  · omega
theorem same1 {A0 A1 : Option Addr} {c0 c1 : Nat} {m : S31} {w : World} (h0 : Kd.C k31 w A0 1 [m]) (hc0 : 1 ≤ c0) (h1 : Kd.C k31 w A1 1 [m]) (hc1 : 1 ≤ c1) :
    Calls Try.prog 16 #[.slice A0 1 c0, .slice A1 1 c1] w fun e w' => e = .returned (.bool true) ∧ Below w.heap.size w w' := same_true (L := [m]) h0 hc0 h1 hc1 (by simp)
theorem nil_send (W : World) (a b : Int) (s : ByteArray) : Calls Try.prog 9 #[.pointer none, .agg #[.int .i64 a, .int .i64 b, .string s]] W fun e W' => e = .returned (.int .i64 1) ∧ Below W.heap.size W W' := send_nil W ⟨a, b, s⟩

set_option maxHeartbeats 4000000 in
set_option maxRecDepth 100000 in
theorem awake_calls (w : World) : Calls Try.prog 18 #[] w fun e w' => e = .returned (.bool true) ∧ Below w.heap.size w w' := by
  have e1 := Aside0.mk (show sendF [] mx_ = ([mx_], 0) by kernel_rfl)
  have e2 := Aside0.mk (show sendF [mx_] ⟨1, 1, sx⟩ = ([mx_], 2400) by kernel_rfl)
  have e3 := Aside0.mk (show copyF [mx_] 0 = ([mx_, mx_], 0) by kernel_rfl)
  have e4 := Aside0.mk (show takeF [mx_, mx_] 1 = ([mx_], mx_, 0) by kernel_rfl)
  have e5 := Aside0.mk (show takeF [mx_] 5 = ([mx_], z31, 2402) by kernel_rfl)
  go_enter Try.func18, Try.ntmps18
  go_wp2_with (first
    | (go_at_call 7; (with_reducible refine (new_calls _).mono ?_); rintro e w1 ⟨rfl, rfl⟩; have hS := Aside0.mk (One.new (T := 52) (P := fun _ => False) (Below.refl w.heap.size w) (fun _ h => h.elim)))
    | (go_at_call 9; (with_reducible refine (send_k (hS.out.alloc _) 1 2 sx _ _ e1.out (by decide)).mono ?_); rintro e w2 ⟨rfl, hS2, hk⟩; have hX := Aside0.mk ((Box.new _ 1 2 sx).keep hk (.inr rfl)); clear hS; have hS := Aside0.mk hS2; clear hS2 hk)
    | (go_at_call 9; (with_reducible refine (send_k hS.out 1 1 sx _ _ e2.out (by decide)).mono ?_); rintro e w3 ⟨rfl, hS2, hk⟩; replace hX := Aside0.mk (hX.out.keep hk (.inr rfl)); clear hS; have hS := Aside0.mk hS2; clear hS2 hk)
    | (go_at_call 13; (with_reducible refine (copy_k hS.out 0 _ _ e3.out (by decide)).mono ?_); rintro e w4 ⟨rfl, hS2, hk⟩; replace hX := Aside0.mk (hX.out.keep hk (.inr rfl)); clear hS; have hS := Aside0.mk hS2; clear hS2 hk)
    | (go_at_call 11; (with_reducible refine (take_k hS.out 1 _ 1 2 sx _ e4.out (by decide)).mono ?_); rintro e w5 ⟨rfl, hS2, hk⟩; replace hX := Aside0.mk (hX.out.keep hk (.inr rfl)); clear hS; have hS := Aside0.mk hS2; clear hS2 hk)
    | (go_at_call 11; (with_reducible refine (take_k (hS.out.alloc _) 5 _ 0 0 ⟨#[]⟩ _ e5.out (by decide)).mono ?_); rintro e w6 ⟨rfl, hS2, hk⟩; replace hX := Aside0.mk ((hX.out.alloc _).keep hk (.inl (.inr rfl))); have hY := Aside0.mk ((Box.new _ 1 2 sx).keep hk (.inr rfl)); clear hS; have hS := Aside0.mk (hS2.alloc (.cells #[.int .i64 0, .int .i64 0, .string ⟨#[]⟩] 31)); replace hX := Aside0.mk (hX.out.alloc (.cells #[.int .i64 0, .int .i64 0, .string ⟨#[]⟩] 31)); replace hY := Aside0.mk (hY.out.alloc (.cells #[.int .i64 0, .int .i64 0, .string ⟨#[]⟩] 31)); clear hS2 hk))
  have hS1 : ∃ P, One 52 w (w6.alloc (.cells #[.int .i64 0, .int .i64 0, .string ⟨#[]⟩] 31)) w.heap.size [mx_] P := ⟨_, hS.out⟩
  have hX1 := hX.out
  rw [show (w.alloc (.cells #[.slice none 0 0] 52)).heap.size = w.heap.size + 1 by simp] at hX1
  have hY1 := hY.out
  clear e1 e2 e3 e4 e5 hS hX hY
  generalize w6.alloc (.cells #[.int .i64 0, .int .i64 0, .string ⟨#[]⟩] 31) = W at *
  generalize w6.heap.size = g8 at *
  generalize w5.heap.size = g6 at *
  obtain ⟨P, hS1⟩ := hS1
  obtain ⟨gz, hg⟩ : ∃ gz, gz = w.heap.size := ⟨_, rfl⟩
  rw [← hg] at hS1 hX1 ⊢
  clear hg
  have hSA : (W.cell? ⟨gz + 1, 0, none⟩ = some (.int .i64 1) ∧ W.cell? ⟨gz + 1, 1, none⟩ = some (.int .i64 2) ∧ W.cell? ⟨gz + 1, 2, none⟩ = some (.string sx) ∧ W.cell? ⟨g6, 0, none⟩ = some (.int .i64 1) ∧ W.cell? ⟨g6, 1, none⟩ = some (.int .i64 2) ∧ W.cell? ⟨g6, 2, none⟩ = some (.string sx)) ∧ Aside0 (One 52 w W gz [mx_] P) := ⟨⟨hX1.c0, hX1.c1, hX1.c2, hY1.c0, hY1.c1, hY1.c2⟩, ⟨hS1⟩⟩
  clear hX1 hY1 hS1
  replace hSA := Aside0.mk hSA
  have eqm := eqA31
  go_region_held3 (fun W => (W.cell? ⟨gz + 1, 0, none⟩ = some (.int .i64 1) ∧ W.cell? ⟨gz + 1, 1, none⟩ = some (.int .i64 2) ∧ W.cell? ⟨gz + 1, 2, none⟩ = some (.string sx) ∧ W.cell? ⟨g6, 0, none⟩ = some (.int .i64 1) ∧ W.cell? ⟨g6, 1, none⟩ = some (.int .i64 2) ∧ W.cell? ⟨g6, 2, none⟩ = some (.string sx)) ∧ Aside0 (One 52 w W gz [mx_] P))
    (first | exact SA_below (by assumption) hb1 | exact SA_below (by assumption) (below_alloc (Below.refl _ _) _) | exact SA_below hSA.out (below_drew (Below.refl _ _)) | exact hSA.out)
    (first
      | (go_at_call 8; (with_reducible refine (num_below _ _).mono ?_); rintro e w' ⟨rfl, hb1⟩)
      | (go_at_call 15; (with_reducible refine (all_nil _).mono ?_); rintro e w' ⟨rfl, hb1⟩)
      | (go_at_call 15; (with_reducible refine (SA_all (by assumption)).mono ?_); rintro e w' ⟨A9, c9, rfl, hc9, hC9, hb1⟩)
      | (go_at_call 16; (with_reducible refine (same1 (m := mx_) (by first | exact hC9 _ (below_alloc (Below.refl _ _) _) | exact hC9 _ (Below.refl _ _)) hc9 (by first | exact built1 _ 1 2 sx | exact Kd.C_below (built1 _ 1 2 sx) hb1) (by decide)).mono ?_); rintro e w' ⟨rfl, hb1⟩)
      | (go_at_call 9; (with_reducible refine (nil_send _ 1 2 sx).mono ?_); rintro e w' ⟨rfl, hb1⟩))
  all_goals
    rename_i hHeld
    obtain ⟨v9, -, hB9, -⟩ := hHeld.2.out
    replace hB9 := Aside0.mk hB9
    clear hHeld hSA
    go_wp2
    go_ret
    exact ⟨rfl, hB9.out⟩

end Go.Proofs.Ytecagknnkbolgaa.NetW
