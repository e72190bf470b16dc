/- BootForms's code, step by step: disks that may not be, a lost one, a full one, places outside. -/
import Derived.Test.YtjcmjfabadlbjaaTornRow
namespace Go.Proofs.Ytjcmjfabadlbjaa.Boot
open Go.RowKit Go.Proofs.YtjcmjfabadlbjaaW.PrintWords Go.Proofs.YtjcmjfabadlbjaaW.PrintLast Go.Proofs.YtjcmjfabadlbjaaW.PrintMore Go.Proofs.Ytjcmjfabadlbjaa.PS3 Go.Proofs.Ytjcmjfabadlbjaa.Byt Go.Proofs.Ytjcmjfabadlbjaa.Slot

theorem mk16 (W : World) : (Instr.makeSlice 41 (.int .i64 16) (.int .i64 16)).run Try.prog W = .ok (.slice (some ⟨W.heap.size, 0, none⟩) 16 16) (W.alloc (.cells (madeCells #[.int .u8 0] 16) 5)) :=
  print_make_of (P := Try.prog) 41 5 (.int .u8 0) 1 Try.underlying41 (by kernel_rfl) rfl (by decide) 16 (by decide) W
theorem made16 : madeCells #[.int .u8 0] 16 = Array.replicate 16 (.int .u8 0) := by kernel_rfl
theorem cv16 (W : World) (g : Nat) (hg : W.heap.size = g) : (convert 41 9 (.slice (some ⟨g, 0, none⟩) 16 16)).run Try.prog (W.alloc (.cells (madeCells #[.int .u8 0] 16) 5)) = .ok (.string newB) (W.alloc (.cells (madeCells #[.int .u8 0] 16) 5)) := by
  subst hg
  rw [made16]
  exact (BB.alloc W (Array.replicate 16 (.int .u8 0)) 5 (List.replicate 16 0) (by simp) (fun j hj => by
    have hj' : j < 16 := by simpa using hj
    rw [List.getElem_replicate, Array.getElem?_replicate, if_pos hj']
    rfl)).string (P := Try.prog) 41 9 5 16 Try.underlying41 Try.underlying5 Try.underlying9

/-- A slot of the greatest count. -/
def fullB : ByteArray := ⟨(putL 4294967295).toArray⟩
theorem putFull (w : World) : Calls Try.prog 14 #[.int .i64 4294967295] w fun e w' => e = .returned (.tuple #[.string fullB, .int .i64 0]) ∧ Below w.heap.size w w' := by
  have := putRef_calls 4294967295 w
  rwa [putF_in 4294967295 (by unfold In; omega)] at this
theorem Var.set1 {W : World} {g : Nat} {a b : ByteArray} (h : Var W g a b) (d : ByteArray) : Var (W.setCell ⟨g, 1, none⟩ (.string d)) g a d :=
  ⟨setCell_heap W g 1 _ 45 (0, 0) (.string d) h.out⟩
theorem torn_out (k : Int) (h : k < 0 ∨ 16 < k) : tornBF newA newB k = ((⟨#[]⟩, ⟨#[]⟩), 400) := by
  unfold tornBF
  rw [if_neg (fun h2 => by omega)]

set_option maxHeartbeats 4000000 in
set_option maxRecDepth 100000 in
theorem forms_walk0 (n k d : Int) (w : World) (hq : (IntKind.u64.wrap n).tmod 5 = 0) (hd : wrap64 (1 + Go.bits .and .i64 k 1023) = d) (hd0 : 1 ≤ d) (hd1 : d ≤ 1024) :
    Calls Try.prog 10 #[.int .i64 n, .int .i64 k] w fun e w' => e = .returned (.bool true) ∧ Below w.heap.size w w' := by
  have e1 : Aside0 (bootF (newB.extract 1 newB.size) newB 16 = ((⟨#[]⟩, ⟨#[]⟩), 0, 400)) := ⟨by decide +kernel⟩
  have e2 : Aside0 (tornBF (newB.extract 1 newB.size) newB 3 = ((⟨#[]⟩, ⟨#[]⟩), 400)) := ⟨by decide +kernel⟩
  have e3 : Aside0 (tornBF newA newB (-d) = ((⟨#[]⟩, ⟨#[]⟩), 400)) := ⟨torn_out _ (by omega)⟩
  have e4 : Aside0 (tornBF newA newB (16 + d) = ((⟨#[]⟩, ⟨#[]⟩), 400)) := ⟨torn_out _ (by omega)⟩
  have e5 : Aside0 (countF (newB.extract 1 newB.size) newB = (0, 400)) := ⟨by decide +kernel⟩
  go_enter Try.func10, Try.ntmps10
  go_wp2_with (first
    | (go_at_call 31; (with_reducible refine (awake_calls _).mono ?_); rintro e w1 ⟨rfl, hb1⟩; have HB := Aside0.mk hb1; clear hb1; have hmk := mk16 (w1.alloc (.cells #[.string ⟨#[]⟩, .string ⟨#[]⟩] 45)); have hcv := cv16 (w1.alloc (.cells #[.string ⟨#[]⟩, .string ⟨#[]⟩] 45)) (w1.heap.size + 1) (by simp))
    | (go_at_call 23; (with_reducible refine (boot_calls _ _ _ _ _ _ e1.out _).mono ?_); rintro e w3 ⟨rfl, hb1⟩; clear hmk hcv; have hV := ((Var.new w1 (newB.extract 1 newB.size) newB).alloc (.cells (madeCells #[.int .u8 0] 16) 5)).below hb1; have n0_ := Aside0.mk (below_step (below_alloc (below_alloc HB.out (.cells #[.string (newB.extract 1 newB.size), .string newB] 45)) (.cells (madeCells #[.int .u8 0] 16) 5)) hb1); clear HB hb1; have HB := n0_; clear n0_; have hV := hV.alloc (.cells #[.string ⟨#[]⟩, .string ⟨#[]⟩] 45); have n0_ := Aside0.mk (below_alloc HB.out (.cells #[.string ⟨#[]⟩, .string ⟨#[]⟩] 45)); clear HB; have HB := n0_; clear n0_; have p0 := hV.c0; have p1 := hV.c1)
    | (go_at_call 25; (with_reducible refine (tornB_calls _ _ _ _ _ _ e2.out _).mono ?_); rintro e w4 ⟨rfl, hb1⟩; have hV := hV.below hb1; clear p0 p1; have n0_ := Aside0.mk (below_step HB.out hb1); clear HB hb1; have HB := n0_; clear n0_; have hV := hV.alloc (.cells #[.string ⟨#[]⟩, .string ⟨#[]⟩] 45); have n0_ := Aside0.mk (below_alloc HB.out (.cells #[.string ⟨#[]⟩, .string ⟨#[]⟩] 45)); clear HB; have HB := n0_; clear n0_; have p0 := hV.c0; have p1 := hV.c1)
    | (go_at_call 29; (with_reducible refine (new_calls _).mono ?_); rintro e w5 ⟨rfl, hb1⟩; have hV := hV.below hb1; clear p0 p1; have n0_ := Aside0.mk (below_step HB.out hb1); clear HB hb1; have HB := n0_; clear n0_)
    | (go_at_call 25; (with_reducible refine (tornB_calls _ _ _ _ _ _ e3.out _).mono ?_); rintro e w6 ⟨rfl, hb1⟩; have hV := hV.below hb1; have n0_ := Aside0.mk (below_step HB.out hb1); clear HB hb1; have HB := n0_; clear n0_; have hV := hV.alloc (.cells #[.string ⟨#[]⟩, .string ⟨#[]⟩] 45); have n0_ := Aside0.mk (below_alloc HB.out (.cells #[.string ⟨#[]⟩, .string ⟨#[]⟩] 45)); clear HB; have HB := n0_; clear n0_; have p0 := hV.c0; have p1 := hV.c1)
    | (go_at_call 25; (with_reducible refine (tornB_calls _ _ _ _ _ _ e4.out _).mono ?_); rintro e w7 ⟨rfl, hb1⟩; have hV := hV.below hb1; have n0_ := Aside0.mk (below_step HB.out hb1); clear HB hb1; have HB := n0_; clear n0_; have hV := hV.alloc (.cells #[.string ⟨#[]⟩, .string ⟨#[]⟩] 45); have n0_ := Aside0.mk (below_alloc HB.out (.cells #[.string ⟨#[]⟩, .string ⟨#[]⟩] 45)); clear HB; have HB := n0_; clear n0_; have p0 := hV.c0; have p1 := hV.c1)
    | (go_at_call 21; (with_reducible refine (count_calls _ _ _ _ e5.out _).mono ?_); rintro e w8 ⟨rfl, hb1⟩; clear hV p0 p1; have n0_ := Aside0.mk (below_step HB.out hb1); clear HB hb1; have HB := n0_; clear n0_)
    | (go_at_call 19; (with_reducible refine (num_below _ _).mono ?_); rintro e w9 ⟨rfl, hb1⟩; have n0_ := Aside0.mk (below_step HB.out hb1); clear HB hb1; have HB := n0_; clear n0_))
  go_ret
  exact ⟨rfl, HB.out⟩

set_option maxHeartbeats 4000000 in
set_option maxRecDepth 100000 in
theorem forms_walk1 (n k d : Int) (w : World) (hq : (IntKind.u64.wrap n).tmod 5 = 1) (hd : wrap64 (1 + Go.bits .and .i64 k 1023) = d) (hd0 : 1 ≤ d) (hd1 : d ≤ 1024) :
    Calls Try.prog 10 #[.int .i64 n, .int .i64 k] w fun e w' => e = .returned (.bool true) ∧ Below w.heap.size w w' := by
  have e1 : Aside0 (bootF newB (newB ++ ⟨#[120]⟩) 16 = ((⟨#[]⟩, ⟨#[]⟩), 0, 400)) := ⟨by decide +kernel⟩
  have e2 : Aside0 (tornBF newB (newB ++ ⟨#[120]⟩) 3 = ((⟨#[]⟩, ⟨#[]⟩), 400)) := ⟨by decide +kernel⟩
  have e3 : Aside0 (tornBF newA newB (-d) = ((⟨#[]⟩, ⟨#[]⟩), 400)) := ⟨torn_out _ (by omega)⟩
  have e4 : Aside0 (tornBF newA newB (16 + d) = ((⟨#[]⟩, ⟨#[]⟩), 400)) := ⟨torn_out _ (by omega)⟩
  have e5 : Aside0 (countF newB (newB ++ ⟨#[120]⟩) = (0, 400)) := ⟨by decide +kernel⟩
  go_enter Try.func10, Try.ntmps10
  go_wp2_with (first
    | (go_at_call 31; (with_reducible refine (awake_calls _).mono ?_); rintro e w1 ⟨rfl, hb1⟩; have HB := Aside0.mk hb1; clear hb1; have hmk := mk16 (w1.alloc (.cells #[.string ⟨#[]⟩, .string ⟨#[]⟩] 45)); have hcv := cv16 (w1.alloc (.cells #[.string ⟨#[]⟩, .string ⟨#[]⟩] 45)) (w1.heap.size + 1) (by simp))
    | (go_at_call 23; (with_reducible refine (boot_calls _ _ _ _ _ _ e1.out _).mono ?_); rintro e w3 ⟨rfl, hb1⟩; clear hmk hcv; have hV := ((Var.new w1 newB (newB ++ ⟨#[120]⟩)).alloc (.cells (madeCells #[.int .u8 0] 16) 5)).below hb1; have n0_ := Aside0.mk (below_step (below_alloc (below_alloc HB.out (.cells #[.string newB, .string (newB ++ ⟨#[120]⟩)] 45)) (.cells (madeCells #[.int .u8 0] 16) 5)) hb1); clear HB hb1; have HB := n0_; clear n0_; have hV := hV.alloc (.cells #[.string ⟨#[]⟩, .string ⟨#[]⟩] 45); have n0_ := Aside0.mk (below_alloc HB.out (.cells #[.string ⟨#[]⟩, .string ⟨#[]⟩] 45)); clear HB; have HB := n0_; clear n0_; have p0 := hV.c0; have p1 := hV.c1)
    | (go_at_call 25; (with_reducible refine (tornB_calls _ _ _ _ _ _ e2.out _).mono ?_); rintro e w4 ⟨rfl, hb1⟩; have hV := hV.below hb1; clear p0 p1; have n0_ := Aside0.mk (below_step HB.out hb1); clear HB hb1; have HB := n0_; clear n0_; have hV := hV.alloc (.cells #[.string ⟨#[]⟩, .string ⟨#[]⟩] 45); have n0_ := Aside0.mk (below_alloc HB.out (.cells #[.string ⟨#[]⟩, .string ⟨#[]⟩] 45)); clear HB; have HB := n0_; clear n0_; have p0 := hV.c0; have p1 := hV.c1)
    | (go_at_call 29; (with_reducible refine (new_calls _).mono ?_); rintro e w5 ⟨rfl, hb1⟩; have hV := hV.below hb1; clear p0 p1; have n0_ := Aside0.mk (below_step HB.out hb1); clear HB hb1; have HB := n0_; clear n0_)
    | (go_at_call 25; (with_reducible refine (tornB_calls _ _ _ _ _ _ e3.out _).mono ?_); rintro e w6 ⟨rfl, hb1⟩; have hV := hV.below hb1; have n0_ := Aside0.mk (below_step HB.out hb1); clear HB hb1; have HB := n0_; clear n0_; have hV := hV.alloc (.cells #[.string ⟨#[]⟩, .string ⟨#[]⟩] 45); have n0_ := Aside0.mk (below_alloc HB.out (.cells #[.string ⟨#[]⟩, .string ⟨#[]⟩] 45)); clear HB; have HB := n0_; clear n0_; have p0 := hV.c0; have p1 := hV.c1)
    | (go_at_call 25; (with_reducible refine (tornB_calls _ _ _ _ _ _ e4.out _).mono ?_); rintro e w7 ⟨rfl, hb1⟩; have hV := hV.below hb1; have n0_ := Aside0.mk (below_step HB.out hb1); clear HB hb1; have HB := n0_; clear n0_; have hV := hV.alloc (.cells #[.string ⟨#[]⟩, .string ⟨#[]⟩] 45); have n0_ := Aside0.mk (below_alloc HB.out (.cells #[.string ⟨#[]⟩, .string ⟨#[]⟩] 45)); clear HB; have HB := n0_; clear n0_; have p0 := hV.c0; have p1 := hV.c1)
    | (go_at_call 21; (with_reducible refine (count_calls _ _ _ _ e5.out _).mono ?_); rintro e w8 ⟨rfl, hb1⟩; clear hV p0 p1; have n0_ := Aside0.mk (below_step HB.out hb1); clear HB hb1; have HB := n0_; clear n0_)
    | (go_at_call 19; (with_reducible refine (num_below _ _).mono ?_); rintro e w9 ⟨rfl, hb1⟩; have n0_ := Aside0.mk (below_step HB.out hb1); clear HB hb1; have HB := n0_; clear n0_))
  go_ret
  exact ⟨rfl, HB.out⟩

set_option maxHeartbeats 4000000 in
set_option maxRecDepth 100000 in
theorem forms_walk2 (n k d : Int) (w : World) (hq : (IntKind.u64.wrap n).tmod 5 = 2) (hd : wrap64 (1 + Go.bits .and .i64 k 1023) = d) (hd0 : 1 ≤ d) (hd1 : d ≤ 1024) :
    Calls Try.prog 10 #[.int .i64 n, .int .i64 k] w fun e w' => e = .returned (.bool true) ∧ Below w.heap.size w w' := by
  have e1 : Aside0 (bootF newB newB 16 = ((⟨#[]⟩, ⟨#[]⟩), 0, 401)) := ⟨by decide +kernel⟩
  have e2 : Aside0 (tornBF newB newB 3 = ((⟨#[]⟩, ⟨#[]⟩), 401)) := ⟨by decide +kernel⟩
  have e3 : Aside0 (tornBF newA newB (-d) = ((⟨#[]⟩, ⟨#[]⟩), 400)) := ⟨torn_out _ (by omega)⟩
  have e4 : Aside0 (tornBF newA newB (16 + d) = ((⟨#[]⟩, ⟨#[]⟩), 400)) := ⟨torn_out _ (by omega)⟩
  have e5 : Aside0 (countF newB newB = (0, 401)) := ⟨by decide +kernel⟩
  go_enter Try.func10, Try.ntmps10
  go_wp2_with (first
    | (go_at_call 31; (with_reducible refine (awake_calls _).mono ?_); rintro e w1 ⟨rfl, hb1⟩; have HB := Aside0.mk hb1; clear hb1; have hmk := mk16 (w1.alloc (.cells #[.string ⟨#[]⟩, .string ⟨#[]⟩] 45)); have hcv := cv16 (w1.alloc (.cells #[.string ⟨#[]⟩, .string ⟨#[]⟩] 45)) (w1.heap.size + 1) (by simp))
    | (go_at_call 23; (with_reducible refine (boot_calls _ _ _ _ _ _ e1.out _).mono ?_); rintro e w3 ⟨rfl, hb1⟩; clear hmk hcv; have hV := ((Var.new w1 newB newB).alloc (.cells (madeCells #[.int .u8 0] 16) 5)).below hb1; have n0_ := Aside0.mk (below_step (below_alloc (below_alloc HB.out (.cells #[.string newB, .string newB] 45)) (.cells (madeCells #[.int .u8 0] 16) 5)) hb1); clear HB hb1; have HB := n0_; clear n0_; have hV := hV.alloc (.cells #[.string ⟨#[]⟩, .string ⟨#[]⟩] 45); have n0_ := Aside0.mk (below_alloc HB.out (.cells #[.string ⟨#[]⟩, .string ⟨#[]⟩] 45)); clear HB; have HB := n0_; clear n0_; have p0 := hV.c0; have p1 := hV.c1)
    | (go_at_call 25; (with_reducible refine (tornB_calls _ _ _ _ _ _ e2.out _).mono ?_); rintro e w4 ⟨rfl, hb1⟩; have hV := hV.below hb1; clear p0 p1; have n0_ := Aside0.mk (below_step HB.out hb1); clear HB hb1; have HB := n0_; clear n0_; have hV := hV.alloc (.cells #[.string ⟨#[]⟩, .string ⟨#[]⟩] 45); have n0_ := Aside0.mk (below_alloc HB.out (.cells #[.string ⟨#[]⟩, .string ⟨#[]⟩] 45)); clear HB; have HB := n0_; clear n0_; have p0 := hV.c0; have p1 := hV.c1)
    | (go_at_call 29; (with_reducible refine (new_calls _).mono ?_); rintro e w5 ⟨rfl, hb1⟩; have hV := hV.below hb1; clear p0 p1; have n0_ := Aside0.mk (below_step HB.out hb1); clear HB hb1; have HB := n0_; clear n0_)
    | (go_at_call 25; (with_reducible refine (tornB_calls _ _ _ _ _ _ e3.out _).mono ?_); rintro e w6 ⟨rfl, hb1⟩; have hV := hV.below hb1; have n0_ := Aside0.mk (below_step HB.out hb1); clear HB hb1; have HB := n0_; clear n0_; have hV := hV.alloc (.cells #[.string ⟨#[]⟩, .string ⟨#[]⟩] 45); have n0_ := Aside0.mk (below_alloc HB.out (.cells #[.string ⟨#[]⟩, .string ⟨#[]⟩] 45)); clear HB; have HB := n0_; clear n0_; have p0 := hV.c0; have p1 := hV.c1)
    | (go_at_call 25; (with_reducible refine (tornB_calls _ _ _ _ _ _ e4.out _).mono ?_); rintro e w7 ⟨rfl, hb1⟩; have hV := hV.below hb1; have n0_ := Aside0.mk (below_step HB.out hb1); clear HB hb1; have HB := n0_; clear n0_; have hV := hV.alloc (.cells #[.string ⟨#[]⟩, .string ⟨#[]⟩] 45); have n0_ := Aside0.mk (below_alloc HB.out (.cells #[.string ⟨#[]⟩, .string ⟨#[]⟩] 45)); clear HB; have HB := n0_; clear n0_; have p0 := hV.c0; have p1 := hV.c1)
    | (go_at_call 21; (with_reducible refine (count_calls _ _ _ _ e5.out _).mono ?_); rintro e w8 ⟨rfl, hb1⟩; clear hV p0 p1; have n0_ := Aside0.mk (below_step HB.out hb1); clear HB hb1; have HB := n0_; clear n0_)
    | (go_at_call 19; (with_reducible refine (num_below _ _).mono ?_); rintro e w9 ⟨rfl, hb1⟩; have n0_ := Aside0.mk (below_step HB.out hb1); clear HB hb1; have HB := n0_; clear n0_))
  go_ret
  exact ⟨rfl, HB.out⟩

set_option maxHeartbeats 4000000 in
set_option maxRecDepth 100000 in
theorem forms_walk3 (n k d : Int) (w : World) (hq : (IntKind.u64.wrap n).tmod 5 = 3) (hd : wrap64 (1 + Go.bits .and .i64 k 1023) = d) (hd0 : 1 ≤ d) (hd1 : d ≤ 1024) :
    Calls Try.prog 10 #[.int .i64 n, .int .i64 k] w fun e w' => e = .returned (.bool true) ∧ Below w.heap.size w w' := by
  have e1 : Aside0 (bootF newB fullB 16 = ((⟨#[]⟩, ⟨#[]⟩), 0, 402)) := ⟨by decide +kernel⟩
  have e2 : Aside0 (tornBF newB fullB 3 = ((⟨#[]⟩, ⟨#[]⟩), 402)) := ⟨by decide +kernel⟩
  have e3 : Aside0 (tornBF newA newB (-d) = ((⟨#[]⟩, ⟨#[]⟩), 400)) := ⟨torn_out _ (by omega)⟩
  have e4 : Aside0 (tornBF newA newB (16 + d) = ((⟨#[]⟩, ⟨#[]⟩), 400)) := ⟨torn_out _ (by omega)⟩
  have e5 : Aside0 (countF newB fullB = (4294967295, 0)) := ⟨by decide +kernel⟩
  go_enter Try.func10, Try.ntmps10
  go_wp2_with (first
    | (go_at_call 31; (with_reducible refine (awake_calls _).mono ?_); rintro e w1 ⟨rfl, hb1⟩; have HB := Aside0.mk hb1; clear hb1; have hmk := mk16 (w1.alloc (.cells #[.string ⟨#[]⟩, .string ⟨#[]⟩] 45)); have hcv := cv16 (w1.alloc (.cells #[.string ⟨#[]⟩, .string ⟨#[]⟩] 45)) (w1.heap.size + 1) (by simp))
    | (go_at_call 14; (with_reducible refine (putFull _).mono ?_); rintro e w2 ⟨rfl, hb1⟩; clear hmk hcv; have hgz := Aside0.mk HB.out.size; have hV := ((Var.new w1 newB newB).alloc (.cells (madeCells #[.int .u8 0] 16) 5)).below hb1; have f1 := hV.f1; have p0 := hV.c0; have p1 := hV.c1; have n0_ := Aside0.mk (below_step (below_alloc (below_alloc HB.out (.cells #[.string newB, .string newB] 45)) (.cells (madeCells #[.int .u8 0] 16) 5)) hb1); clear HB hb1; have HB := n0_; clear n0_)
    | (go_at_call 23; (with_reducible refine (boot_calls _ _ _ _ _ _ e1.out _).mono ?_); rintro e w3 ⟨rfl, hb1⟩; have hV := (hV.set1 fullB).below hb1; have n0_ := Aside0.mk (below_step (HB.out.setCell (p := ⟨w1.heap.size, 1, none⟩) hgz.out (.string fullB)) hb1); clear HB hb1 p0 p1 f1; have HB := n0_; clear n0_; have hV := hV.alloc (.cells #[.string ⟨#[]⟩, .string ⟨#[]⟩] 45); have n0_ := Aside0.mk (below_alloc HB.out (.cells #[.string ⟨#[]⟩, .string ⟨#[]⟩] 45)); clear HB; have HB := n0_; clear n0_; have p0 := hV.c0; have p1 := hV.c1)
    | (go_at_call 25; (with_reducible refine (tornB_calls _ _ _ _ _ _ e2.out _).mono ?_); rintro e w4 ⟨rfl, hb1⟩; have hV := hV.below hb1; clear p0 p1; have n0_ := Aside0.mk (below_step HB.out hb1); clear HB hb1; have HB := n0_; clear n0_; have hV := hV.alloc (.cells #[.string ⟨#[]⟩, .string ⟨#[]⟩] 45); have n0_ := Aside0.mk (below_alloc HB.out (.cells #[.string ⟨#[]⟩, .string ⟨#[]⟩] 45)); clear HB; have HB := n0_; clear n0_; have p0 := hV.c0; have p1 := hV.c1)
    | (go_at_call 29; (with_reducible refine (new_calls _).mono ?_); rintro e w5 ⟨rfl, hb1⟩; have hV := hV.below hb1; clear p0 p1; have n0_ := Aside0.mk (below_step HB.out hb1); clear HB hb1; have HB := n0_; clear n0_)
    | (go_at_call 25; (with_reducible refine (tornB_calls _ _ _ _ _ _ e3.out _).mono ?_); rintro e w6 ⟨rfl, hb1⟩; have hV := hV.below hb1; have n0_ := Aside0.mk (below_step HB.out hb1); clear HB hb1; have HB := n0_; clear n0_; have hV := hV.alloc (.cells #[.string ⟨#[]⟩, .string ⟨#[]⟩] 45); have n0_ := Aside0.mk (below_alloc HB.out (.cells #[.string ⟨#[]⟩, .string ⟨#[]⟩] 45)); clear HB; have HB := n0_; clear n0_; have p0 := hV.c0; have p1 := hV.c1)
    | (go_at_call 25; (with_reducible refine (tornB_calls _ _ _ _ _ _ e4.out _).mono ?_); rintro e w7 ⟨rfl, hb1⟩; have hV := hV.below hb1; have n0_ := Aside0.mk (below_step HB.out hb1); clear HB hb1; have HB := n0_; clear n0_; have hV := hV.alloc (.cells #[.string ⟨#[]⟩, .string ⟨#[]⟩] 45); have n0_ := Aside0.mk (below_alloc HB.out (.cells #[.string ⟨#[]⟩, .string ⟨#[]⟩] 45)); clear HB; have HB := n0_; clear n0_; have p0 := hV.c0; have p1 := hV.c1)
    | (go_at_call 21; (with_reducible refine (count_calls _ _ _ _ e5.out _).mono ?_); rintro e w8 ⟨rfl, hb1⟩; clear hV p0 p1; have n0_ := Aside0.mk (below_step HB.out hb1); clear HB hb1; have HB := n0_; clear n0_)
    | (go_at_call 19; (with_reducible refine (num_below _ _).mono ?_); rintro e w9 ⟨rfl, hb1⟩; have n0_ := Aside0.mk (below_step HB.out hb1); clear HB hb1; have HB := n0_; clear n0_))
  go_ret
  exact ⟨rfl, HB.out⟩

set_option maxHeartbeats 4000000 in
set_option maxRecDepth 100000 in
theorem forms_walk4 (n k d : Int) (w : World) (hq : (IntKind.u64.wrap n).tmod 5 = 4) (hd : wrap64 (1 + Go.bits .and .i64 k 1023) = d) (hd0 : 1 ≤ d) (hd1 : d ≤ 1024) :
    Calls Try.prog 10 #[.int .i64 n, .int .i64 k] w fun e w' => e = .returned (.bool true) ∧ Below w.heap.size w w' := by
  have e1 : Aside0 (bootF ⟨#[]⟩ ⟨#[]⟩ 16 = ((⟨#[]⟩, ⟨#[]⟩), 0, 400)) := ⟨by decide +kernel⟩
  have e2 : Aside0 (tornBF ⟨#[]⟩ ⟨#[]⟩ 3 = ((⟨#[]⟩, ⟨#[]⟩), 400)) := ⟨by decide +kernel⟩
  have e3 : Aside0 (tornBF newA newB (-d) = ((⟨#[]⟩, ⟨#[]⟩), 400)) := ⟨torn_out _ (by omega)⟩
  have e4 : Aside0 (tornBF newA newB (16 + d) = ((⟨#[]⟩, ⟨#[]⟩), 400)) := ⟨torn_out _ (by omega)⟩
  have e5 : Aside0 (countF ⟨#[]⟩ ⟨#[]⟩ = (0, 400)) := ⟨by decide +kernel⟩
  go_enter Try.func10, Try.ntmps10
  go_wp2_with (first
    | (go_at_call 31; (with_reducible refine (awake_calls _).mono ?_); rintro e w1 ⟨rfl, hb1⟩; have HB := Aside0.mk hb1; clear hb1; have hmk := mk16 (w1.alloc (.cells #[.string ⟨#[]⟩, .string ⟨#[]⟩] 45)); have hcv := cv16 (w1.alloc (.cells #[.string ⟨#[]⟩, .string ⟨#[]⟩] 45)) (w1.heap.size + 1) (by simp))
    | (go_at_call 23; (with_reducible refine (boot_calls _ _ _ _ _ _ e1.out _).mono ?_); rintro e w3 ⟨rfl, hb1⟩; clear hmk hcv; have hV := ((Var.new w1 ⟨#[]⟩ ⟨#[]⟩).alloc (.cells (madeCells #[.int .u8 0] 16) 5)).below hb1; have n0_ := Aside0.mk (below_step (below_alloc (below_alloc HB.out (.cells #[.string ⟨#[]⟩, .string ⟨#[]⟩] 45)) (.cells (madeCells #[.int .u8 0] 16) 5)) hb1); clear HB hb1; have HB := n0_; clear n0_; have hV := hV.alloc (.cells #[.string ⟨#[]⟩, .string ⟨#[]⟩] 45); have n0_ := Aside0.mk (below_alloc HB.out (.cells #[.string ⟨#[]⟩, .string ⟨#[]⟩] 45)); clear HB; have HB := n0_; clear n0_; have p0 := hV.c0; have p1 := hV.c1)
    | (go_at_call 25; (with_reducible refine (tornB_calls _ _ _ _ _ _ e2.out _).mono ?_); rintro e w4 ⟨rfl, hb1⟩; have hV := hV.below hb1; clear p0 p1; have n0_ := Aside0.mk (below_step HB.out hb1); clear HB hb1; have HB := n0_; clear n0_; have hV := hV.alloc (.cells #[.string ⟨#[]⟩, .string ⟨#[]⟩] 45); have n0_ := Aside0.mk (below_alloc HB.out (.cells #[.string ⟨#[]⟩, .string ⟨#[]⟩] 45)); clear HB; have HB := n0_; clear n0_; have p0 := hV.c0; have p1 := hV.c1)
    | (go_at_call 29; (with_reducible refine (new_calls _).mono ?_); rintro e w5 ⟨rfl, hb1⟩; have hV := hV.below hb1; clear p0 p1; have n0_ := Aside0.mk (below_step HB.out hb1); clear HB hb1; have HB := n0_; clear n0_)
    | (go_at_call 25; (with_reducible refine (tornB_calls _ _ _ _ _ _ e3.out _).mono ?_); rintro e w6 ⟨rfl, hb1⟩; have hV := hV.below hb1; have n0_ := Aside0.mk (below_step HB.out hb1); clear HB hb1; have HB := n0_; clear n0_; have hV := hV.alloc (.cells #[.string ⟨#[]⟩, .string ⟨#[]⟩] 45); have n0_ := Aside0.mk (below_alloc HB.out (.cells #[.string ⟨#[]⟩, .string ⟨#[]⟩] 45)); clear HB; have HB := n0_; clear n0_; have p0 := hV.c0; have p1 := hV.c1)
    | (go_at_call 25; (with_reducible refine (tornB_calls _ _ _ _ _ _ e4.out _).mono ?_); rintro e w7 ⟨rfl, hb1⟩; have hV := hV.below hb1; have n0_ := Aside0.mk (below_step HB.out hb1); clear HB hb1; have HB := n0_; clear n0_; have hV := hV.alloc (.cells #[.string ⟨#[]⟩, .string ⟨#[]⟩] 45); have n0_ := Aside0.mk (below_alloc HB.out (.cells #[.string ⟨#[]⟩, .string ⟨#[]⟩] 45)); clear HB; have HB := n0_; clear n0_; have p0 := hV.c0; have p1 := hV.c1)
    | (go_at_call 21; (with_reducible refine (count_calls _ _ _ _ e5.out _).mono ?_); rintro e w8 ⟨rfl, hb1⟩; clear hV p0 p1; have n0_ := Aside0.mk (below_step HB.out hb1); clear HB hb1; have HB := n0_; clear n0_)
    | (go_at_call 19; (with_reducible refine (num_below _ _).mono ?_); rintro e w9 ⟨rfl, hb1⟩; have n0_ := Aside0.mk (below_step HB.out hb1); clear HB hb1; have HB := n0_; clear n0_))
  go_ret
  exact ⟨rfl, HB.out⟩

theorem forms_calls (n k : Int) (w : World) :
    Calls Try.prog 10 #[.int .i64 n, .int .i64 k] w fun e w' => e = .returned (.bool true) ∧ Below w.heap.size w w' := by
  have hd : ∃ d, wrap64 (1 + Go.bits .and .i64 k 1023) = d ∧ 1 ≤ d ∧ d ≤ 1024 := ⟨_, rfl, by rw [and1023]; unfold wrap64; omega, by rw [and1023]; unfold wrap64; omega⟩
  obtain ⟨d, hd, hd0, hd1⟩ := hd
  have hu : 0 ≤ IntKind.u64.wrap n ∧ IntKind.u64.wrap n < 18446744073709551616 := by rw [IntKind.wrap_u64]; omega
  have hq : (IntKind.u64.wrap n).tmod 5 = 0 ∨ (IntKind.u64.wrap n).tmod 5 = 1 ∨ (IntKind.u64.wrap n).tmod 5 = 2 ∨ (IntKind.u64.wrap n).tmod 5 = 3 ∨ (IntKind.u64.wrap n).tmod 5 = 4 := by
    rw [Int.tmod_eq_emod_of_nonneg hu.1]; omega
  rcases hq with hq | hq | hq | hq | hq
  · exact forms_walk0 n k d w hq hd hd0 hd1
  · exact forms_walk1 n k d w hq hd hd0 hd1
  · exact forms_walk2 n k d w hq hd hd0 hd1
  · exact forms_walk3 n k d w hq hd hd0 hd1
  · exact forms_walk4 n k d w hq hd hd0 hd1

end Go.Proofs.Ytjcmjfabadlbjaa.Boot
