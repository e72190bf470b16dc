/- Boots's code, step by step: at every disk and place it answers true. -/
import Derived.Test.YtjcmjfabadlbjaaBootF
import Derived.Test.YtjcmjfabadlbjaaEqDisk
import Derived.Deep.RegionHeld3
namespace Go.Proofs.Ytjcmjfabadlbjaa.Boot
open Go.RowKit Go.Proofs.YtjcmjfabadlbjaaW.PrintWords Go.Proofs.YtjcmjfabadlbjaaW.PrintLast Go.Proofs.YtjcmjfabadlbjaaW.PrintMore Go.Proofs.Ytjcmjfabadlbjaa.PS3 Go.Proofs.Ytjcmjfabadlbjaa.Byt Go.Proofs.Ytjcmjfabadlbjaa.Slot

attribute [local go_sem high] eqA45

theorem keep_ten {w W w' : World} {g0 g3 g4 g5 g6 : Nat} {a b r1 r2 s1 s2 : ByteArray} (h : W.cell? ⟨g0, 0, none⟩ = some (.string a) ∧ W.cell? ⟨g0, 1, none⟩ = some (.string b) ∧ W.cell? ⟨g3, 0, none⟩ = some (.string r1) ∧ W.cell? ⟨g3, 1, none⟩ = some (.string r2) ∧ W.cell? ⟨g4, 0, none⟩ = some (.string r1) ∧ W.cell? ⟨g4, 1, none⟩ = some (.string r2) ∧ W.cell? ⟨g5, 0, none⟩ = some (.string s1) ∧ W.cell? ⟨g5, 1, none⟩ = some (.string s2) ∧ W.cell? ⟨g6, 0, none⟩ = some (.string s1) ∧ W.cell? ⟨g6, 1, none⟩ = some (.string s2) ∧ Aside0 (Below w.heap.size w W)) (hb : Below W.heap.size W w') : w'.cell? ⟨g0, 0, none⟩ = some (.string a) ∧ w'.cell? ⟨g0, 1, none⟩ = some (.string b) ∧ w'.cell? ⟨g3, 0, none⟩ = some (.string r1) ∧ w'.cell? ⟨g3, 1, none⟩ = some (.string r2) ∧ w'.cell? ⟨g4, 0, none⟩ = some (.string r1) ∧ w'.cell? ⟨g4, 1, none⟩ = some (.string r2) ∧ w'.cell? ⟨g5, 0, none⟩ = some (.string s1) ∧ w'.cell? ⟨g5, 1, none⟩ = some (.string s2) ∧ w'.cell? ⟨g6, 0, none⟩ = some (.string s1) ∧ w'.cell? ⟨g6, 1, none⟩ = some (.string s2) ∧ Aside0 (Below w.heap.size w w') := by
  obtain ⟨h0, h1, h2, h3, h4, h5, h6, h7, h8, h9, hB⟩ := h
  exact ⟨pw_cell_below hb h0, pw_cell_below hb h1, pw_cell_below hb h2, pw_cell_below hb h3, pw_cell_below hb h4, pw_cell_below hb h5, pw_cell_below hb h6, pw_cell_below hb h7, pw_cell_below hb h8, pw_cell_below hb h9, ⟨below_step hB.out hb⟩⟩
theorem keep_drew {w W : World} {g0 g3 g4 g5 g6 : Nat} {a b r1 r2 s1 s2 : ByteArray} (h : W.cell? ⟨g0, 0, none⟩ = some (.string a) ∧ W.cell? ⟨g0, 1, none⟩ = some (.string b) ∧ W.cell? ⟨g3, 0, none⟩ = some (.string r1) ∧ W.cell? ⟨g3, 1, none⟩ = some (.string r2) ∧ W.cell? ⟨g4, 0, none⟩ = some (.string r1) ∧ W.cell? ⟨g4, 1, none⟩ = some (.string r2) ∧ W.cell? ⟨g5, 0, none⟩ = some (.string s1) ∧ W.cell? ⟨g5, 1, none⟩ = some (.string s2) ∧ W.cell? ⟨g6, 0, none⟩ = some (.string s1) ∧ W.cell? ⟨g6, 1, none⟩ = some (.string s2) ∧ Aside0 (Below w.heap.size w W)) : W.drew.cell? ⟨g0, 0, none⟩ = some (.string a) ∧ W.drew.cell? ⟨g0, 1, none⟩ = some (.string b) ∧ W.drew.cell? ⟨g3, 0, none⟩ = some (.string r1) ∧ W.drew.cell? ⟨g3, 1, none⟩ = some (.string r2) ∧ W.drew.cell? ⟨g4, 0, none⟩ = some (.string r1) ∧ W.drew.cell? ⟨g4, 1, none⟩ = some (.string r2) ∧ W.drew.cell? ⟨g5, 0, none⟩ = some (.string s1) ∧ W.drew.cell? ⟨g5, 1, none⟩ = some (.string s2) ∧ W.drew.cell? ⟨g6, 0, none⟩ = some (.string s1) ∧ W.drew.cell? ⟨g6, 1, none⟩ = some (.string s2) ∧ Aside0 (Below w.heap.size w W.drew) := keep_ten h (below_drew (Below.refl _ _))

theorem num_below (n : Int) (w : World) : Calls Try.prog 19 #[.int .i64 n] w fun e w' => e = .returned (.int .i64 n) ∧ Below w.heap.size w w' :=
  (num_calls n w).mono fun _ _ h => ⟨h.1, h.2.below⟩

set_option maxHeartbeats 4000000 in
set_option maxRecDepth 100000 in
theorem boots_walk (a b : ByteArray) (k c1 c2 x e f : Int) (r1 r2 s1 s2 : ByteArray) (m : Bool) (e1 : countF a b = (c1, c2)) (e2 : bootF a b 16 = ((r1, r2), x, e)) (e3 : tornBF a b k = ((s1, s2), f)) (e4 : mayB a b = m) (w : World) :
    Calls Try.prog 8 #[.agg #[.string a, .string b], .int .i64 k] w fun e w' => e = .returned (.bool true) ∧ Below w.heap.size w w' := by
  replace e1 := Aside0.mk e1
  replace e2 := Aside0.mk e2
  replace e3 := Aside0.mk e3
  replace e4 := Aside0.mk e4
  go_enter Try.func8, Try.ntmps8
  go_wp2_with (first
    | (go_at_call 21; (with_reducible refine (count_calls a b _ _ e1.out _).mono ?_); rintro e w1 ⟨rfl, hb1⟩; obtain ⟨⟨p0, p1⟩, -, hb2⟩ := boxed1 hb1; have HB := Aside0.mk hb2; clear hb1 hb2)
    | (go_at_call 22; (with_reducible refine (countRef_calls a b _ _ e1.out _).mono ?_); rintro e w2 ⟨rfl, hb1⟩; replace p0 := pw_cell_below hb1 p0; replace p1 := pw_cell_below hb1 p1; have n0_ := Aside0.mk (below_step HB.out hb1); clear HB hb1; have HB := n0_; clear n0_)
    | (go_at_call 23; (with_reducible refine (boot_calls a b _ _ _ _ e2.out _).mono ?_); rintro e w3 ⟨rfl, hb1⟩; replace p0 := pw_cell_below hb1 p0; replace p1 := pw_cell_below hb1 p1; have hz := World.block_lt_of_cell? _ _ p0; have n0_ := Aside0.mk (below_step HB.out hb1); clear HB hb1; have HB := n0_; clear n0_)
    | (go_at_call 24; (with_reducible refine (bootRef_calls a b _ _ _ _ e2.out _).mono ?_); rintro e w4 ⟨rfl, hb1⟩; obtain ⟨⟨p2, p3⟩, -, -⟩ := boxed1 hb1; replace p0 := carry hb1 p0; replace p1 := carry hb1 p1; have hz := World.block_lt_of_cell? _ _ p0; have n0_ := Aside0.mk (below_box HB.out hb1); clear HB hb1; have HB := n0_; clear n0_)
    | (go_at_call 25; (with_reducible refine (tornB_calls a b k _ _ _ e3.out _).mono ?_); rintro e w5 ⟨rfl, hb1⟩; obtain ⟨⟨p4, p5⟩, -, -⟩ := boxed1 hb1; replace p0 := carry hb1 p0; replace p1 := carry hb1 p1; replace p2 := carry hb1 p2; replace p3 := carry hb1 p3; have hz := World.block_lt_of_cell? _ _ p0; have n0_ := Aside0.mk (below_box HB.out hb1); clear HB hb1; have HB := n0_; clear n0_)
    | (go_at_call 26; (with_reducible refine (tornBootRef_calls a b k _ _ _ e3.out _).mono ?_); rintro e w6 ⟨rfl, hb1⟩; obtain ⟨⟨p6, p7⟩, -, -⟩ := boxed1 hb1; replace p0 := carry hb1 p0; replace p1 := carry hb1 p1; replace p2 := carry hb1 p2; replace p3 := carry hb1 p3; replace p4 := carry hb1 p4; replace p5 := carry hb1 p5; have hz := World.block_lt_of_cell? _ _ p0; have n0_ := Aside0.mk (below_box HB.out hb1); clear HB hb1; have HB := n0_; clear n0_))
  have p8 : (w6.alloc (.cells #[.string s1, .string s2] 45)).cell? ⟨w6.heap.size, 0, none⟩ = some (.string s1) := by rw [World.cell?_alloc_mark]; rfl
  have p9 : (w6.alloc (.cells #[.string s1, .string s2] 45)).cell? ⟨w6.heap.size, 1, none⟩ = some (.string s2) := by rw [World.cell?_alloc_mark]; rfl
  replace p0 := (World.cell?_alloc_lt w6 (.cells #[.string s1, .string s2] 45) _ (World.block_lt_of_cell? _ _ p0)).trans p0
  replace p1 := (World.cell?_alloc_lt w6 (.cells #[.string s1, .string s2] 45) _ (World.block_lt_of_cell? _ _ p1)).trans p1
  replace p2 := (World.cell?_alloc_lt w6 (.cells #[.string s1, .string s2] 45) _ (World.block_lt_of_cell? _ _ p2)).trans p2
  replace p3 := (World.cell?_alloc_lt w6 (.cells #[.string s1, .string s2] 45) _ (World.block_lt_of_cell? _ _ p3)).trans p3
  replace p4 := (World.cell?_alloc_lt w6 (.cells #[.string s1, .string s2] 45) _ (World.block_lt_of_cell? _ _ p4)).trans p4
  replace p5 := (World.cell?_alloc_lt w6 (.cells #[.string s1, .string s2] 45) _ (World.block_lt_of_cell? _ _ p5)).trans p5
  replace p6 := (World.cell?_alloc_lt w6 (.cells #[.string s1, .string s2] 45) _ (World.block_lt_of_cell? _ _ p6)).trans p6
  replace p7 := (World.cell?_alloc_lt w6 (.cells #[.string s1, .string s2] 45) _ (World.block_lt_of_cell? _ _ p7)).trans p7
  replace HB := Aside0.mk (below_alloc HB.out (.cells #[.string s1, .string s2] 45))
  clear hz
  generalize w6.alloc (.cells #[.string s1, .string s2] 45) = W at *
  generalize w6.heap.size = g6 at *
  generalize w5.heap.size = g5 at *
  generalize w4.heap.size = g4 at *
  generalize w3.heap.size = g3 at *
  obtain ⟨g0, hg⟩ : ∃ g0, g0 = w.heap.size := ⟨_, rfl⟩
  rw [← hg] at p0 p1 ⊢
  clear hg
  go_region_held3 (fun W => W.cell? ⟨g0, 0, none⟩ = some (.string a) ∧ W.cell? ⟨g0, 1, none⟩ = some (.string b) ∧ W.cell? ⟨g3, 0, none⟩ = some (.string r1) ∧ W.cell? ⟨g3, 1, none⟩ = some (.string r2) ∧ W.cell? ⟨g4, 0, none⟩ = some (.string r1) ∧ W.cell? ⟨g4, 1, none⟩ = some (.string r2) ∧ W.cell? ⟨g5, 0, none⟩ = some (.string s1) ∧ W.cell? ⟨g5, 1, none⟩ = some (.string s2) ∧ W.cell? ⟨g6, 0, none⟩ = some (.string s1) ∧ W.cell? ⟨g6, 1, none⟩ = some (.string s2) ∧ Aside0 (Below w.heap.size w W))
    (first | exact keep_ten (by assumption) hb1 | exact ⟨p0, p1, p2, p3, p4, p5, p6, p7, p8, p9, HB⟩ | exact keep_drew ⟨p0, p1, p2, p3, p4, p5, p6, p7, p8, p9, HB⟩)
    (first | (go_at_call 19; (first | ((with_reducible refine (num_below c2 _).mono ?_); rintro e w' ⟨rfl, hb1⟩) | ((with_reducible refine (num_below e _).mono ?_); rintro e w' ⟨rfl, hb1⟩) | ((with_reducible refine (num_below f _).mono ?_); rintro e w' ⟨rfl, hb1⟩))) | (go_at_call 27; (with_reducible refine (may_calls a b m e4.out _).mono ?_); rintro e w' ⟨rfl, hb1⟩) | (go_at_call 28; (with_reducible refine (mayRef_calls a b m e4.out _).mono ?_); rintro e w' ⟨rfl, hb1⟩) | (go_at_call 29; (with_reducible refine (new_calls _).mono ?_); rintro e w' ⟨rfl, hb1⟩) | (go_at_call 30; (with_reducible refine (newDisk_calls _).mono ?_); rintro e w' ⟨rfl, hb1⟩) | (go_at_call 31; (with_reducible refine (awake_calls _).mono ?_); rintro e w' ⟨rfl, hb1⟩))
  rename_i hHeld
  have hB := hHeld.2.2.2.2.2.2.2.2.2.2
  clear hHeld p0 p1 p2 p3 p4 p5 p6 p7 p8 p9
  go_wp2
  go_ret
  exact ⟨rfl, hB.out⟩

theorem boots_calls (a b : ByteArray) (k : Int) (w : World) :
    Calls Try.prog 8 #[.agg #[.string a, .string b], .int .i64 k] w fun e w' => e = .returned (.bool true) ∧ Below w.heap.size w w' :=
  boots_walk a b k (countF a b).1 (countF a b).2 (bootF a b 16).2.1 (bootF a b 16).2.2 (tornBF a b k).2 (bootF a b 16).1.1 (bootF a b 16).1.2 (tornBF a b k).1.1 (tornBF a b k).1.2 (mayB a b) rfl rfl rfl rfl w

end Go.Proofs.Ytjcmjfabadlbjaa.Boot
