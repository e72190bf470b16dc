/- The first look of chapter 4's laws (awake) answers true: step by step. -/
import Derived.Test.YtjcmjfabadlbjaaBootE
namespace Go.Proofs.Ytjcmjfabadlbjaa.Boot
open Go.RowKit Go.Proofs.YtjcmjfabadlbjaaW.PrintWords Go.Proofs.YtjcmjfabadlbjaaW.PrintLast Go.Proofs.YtjcmjfabadlbjaaW.PrintMore Go.Proofs.Ytjcmjfabadlbjaa.PS3 Go.Proofs.Ytjcmjfabadlbjaa.Byt Go.Proofs.Ytjcmjfabadlbjaa.Slot

/-- A cell, behind a new block and a call. -/
theorem carry {w w1 : World} {o : Obj} {a : Addr} {v : Value} (hb : Below (w.alloc o).heap.size (w.alloc o) w1) (hc : w.cell? a = some v) : w1.cell? a = some v :=
  pw_cell_below hb ((World.cell?_alloc_lt _ _ _ (World.block_lt_of_cell? w a hc)).trans hc)
theorem carry_free {w w1 : World} {o : Obj} {a : Addr} {v : Value} (hb : Below (w.alloc o).heap.size (w.alloc o) w1) (hc : w.cell? a = some v) (hf : w.frozen? a = false) : w1.frozen? a = false := by
  have hlt := World.block_lt_of_cell? w a hc
  refine frozen_below hb ((World.cell?_alloc_lt _ _ _ hlt).trans hc) ?_
  rw [← hf]
  exact World.frozen?_of_block (heap_alloc_old w o hlt)
theorem below_box {w w1 w2 : World} {o : Obj} (h : Below w.heap.size w w1) (hb : Below (w1.alloc o).heap.size (w1.alloc o) w2) : Below w.heap.size w w2 :=
  below_step (h.alloc h.size o) hb

set_option maxHeartbeats 4000000 in
set_option maxRecDepth 100000 in
theorem awake_walk (a1 a2 b1 b2 c1 c2 : ByteArray) (e1 : countF newA newB = (0, 0)) (e2 : bootF newA newB 16 = ((a1, a2), 1, 0)) (e3 : bootF a1 a2 16 = ((b1, b2), 2, 0))
    (e4 : tornBF b1 b2 3 = ((c1, c2), 0)) (e5 : countF c1 c2 = (2, 0)) (e6 : countF ⟨#[]⟩ ⟨#[]⟩ = (0, 400)) (e7 : bootF newB newB 16 = ((⟨#[]⟩, ⟨#[]⟩), 0, 401)) (e8 : mayB newA newB = true) (w : World) :
    Calls Try.prog 31 #[] w fun e w' => e = .returned (.bool true) ∧ Below w.heap.size w w' := by
  replace e1 := Aside0.mk e1
  replace e2 := Aside0.mk e2
  replace e3 := Aside0.mk e3
  replace e4 := Aside0.mk e4
  replace e5 := Aside0.mk e5
  replace e6 := Aside0.mk e6
  replace e7 := Aside0.mk e7
  replace e8 := Aside0.mk e8
  go_enter Try.func31, Try.ntmps31
  go_wp2_with (first
    | (go_at_call 29; (with_reducible refine (new_calls _).mono ?_); rintro e w1 ⟨rfl, hb1⟩; have HB := Aside0.mk hb1; clear hb1)
    | (go_at_call 21; first
        | ((with_reducible refine (count_calls newA newB _ _ e1.out _).mono ?_); rintro e w2 ⟨rfl, hb1⟩; obtain ⟨⟨p0, p1⟩, -, -⟩ := boxed1 hb1; have n0_ := Aside0.mk (below_box HB.out hb1); clear HB hb1; have HB := n0_; clear n0_)
        | ((with_reducible refine (count_calls c1 c2 _ _ e5.out _).mono ?_); rintro e w6 ⟨rfl, hb1⟩; replace p0 := carry hb1 p0; replace p1 := carry hb1 p1; have n0_ := Aside0.mk (below_box HB.out hb1); clear HB hb1; have HB := n0_; clear n0_)
        | ((with_reducible refine (count_calls ⟨#[]⟩ ⟨#[]⟩ _ _ e6.out _).mono ?_); rintro e w7 ⟨rfl, hb1⟩; replace p0 := pw_cell_below hb1 p0; replace p1 := pw_cell_below hb1 p1; have hz := World.block_lt_of_cell? _ _ p0; have n0_ := Aside0.mk (below_step HB.out hb1); clear HB hb1; have HB := n0_; clear n0_))
    | (go_at_call 23; first
        | ((with_reducible refine (boot_calls newA newB _ _ _ _ e2.out _).mono ?_); rintro e w3 ⟨rfl, hb1⟩; replace p0 := pw_cell_below hb1 p0; replace p1 := pw_cell_below hb1 p1; have n0_ := Aside0.mk (below_step HB.out hb1); clear HB hb1; have HB := n0_; clear n0_)
        | ((with_reducible refine (boot_calls newB newB _ _ _ _ e7.out _).mono ?_); rintro e w8 ⟨rfl, hb1⟩; replace p0 := carry hb1 p0; replace p1 := carry hb1 p1; have hz := World.block_lt_of_cell? _ _ p0; have n0_ := Aside0.mk (below_box HB.out hb1); clear HB hb1; have HB := n0_; clear n0_)
        | ((with_reducible refine (boot_calls a1 a2 _ _ _ _ e3.out _).mono ?_); rintro e w4 ⟨rfl, hb1⟩; replace p0 := carry hb1 p0; replace p1 := carry hb1 p1; have n0_ := Aside0.mk (below_box HB.out hb1); clear HB hb1; have HB := n0_; clear n0_))
    | (go_at_call 25; (with_reducible refine (tornB_calls b1 b2 3 _ _ _ e4.out _).mono ?_); rintro e w5 ⟨rfl, hb1⟩; replace p0 := carry hb1 p0; replace p1 := carry hb1 p1; have n0_ := Aside0.mk (below_box HB.out hb1); clear HB hb1; have HB := n0_; clear n0_)
    | (go_at_call 27; (with_reducible refine (may_calls newA newB true e8.out _).mono ?_); rintro e w9 ⟨rfl, hb1⟩; have n0_ := Aside0.mk (below_box HB.out hb1); clear HB hb1; have HB := n0_; clear n0_)
    | (go_at_call 19; first
        | ((with_reducible refine (num_calls 0 _).mono ?_); rintro e w' ⟨rfl, ⟨nd, rfl⟩⟩)
        | ((with_reducible refine (num_calls 400 _).mono ?_); rintro e w' ⟨rfl, ⟨nd, rfl⟩⟩)
        | ((with_reducible refine (num_calls 401 _).mono ?_); rintro e w' ⟨rfl, ⟨nd, rfl⟩⟩)))
  go_ret
  exact ⟨rfl, pw_below_drewN HB.out _⟩

theorem awake_calls (w : World) : Calls Try.prog 31 #[] w fun e w' => e = .returned (.bool true) ∧ Below w.heap.size w w' :=
  awake_walk newA ⟨(putL 1).toArray⟩ ⟨(putL 2).toArray⟩ ⟨(putL 1).toArray⟩ (tornBF ⟨(putL 2).toArray⟩ ⟨(putL 1).toArray⟩ 3).1.1 (tornBF ⟨(putL 2).toArray⟩ ⟨(putL 1).toArray⟩ 3).1.2
    (by decide +kernel) (by decide +kernel) (by decide +kernel) (by decide +kernel) (by decide +kernel) (by decide +kernel) (by decide +kernel) (by decide +kernel) w

end Go.Proofs.Ytjcmjfabadlbjaa.Boot
