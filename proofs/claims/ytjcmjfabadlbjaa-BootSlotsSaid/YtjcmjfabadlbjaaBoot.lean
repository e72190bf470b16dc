/- What the functions of package boot and the reference's of chapter 4 answer, step by step. Walks alone. -/
import Derived.Test.YtjcmjfabadlbjaaSlotAwake

namespace Go.Proofs.Ytjcmjfabadlbjaa.Boot
open Go.RowKit Go.Proofs.YtjcmjfabadlbjaaW.PrintWords Go.Proofs.YtjcmjfabadlbjaaW.PrintLast Go.Proofs.YtjcmjfabadlbjaaW.PrintMore Go.Proofs.Ytjcmjfabadlbjaa.PS3 Go.Proofs.Ytjcmjfabadlbjaa.Byt Go.Proofs.Ytjcmjfabadlbjaa.Slot

attribute [local go_sem] max2_int min2_int max_two min_two max_three min_three max_four min_four   -- for this text's walks alone

/-- May a disk be? -/
def mayB (a b : ByteArray) : Bool := decide (a.size = 16) && decide (b.size = 16)

theorem get_calls (s : ByteArray) (x y : Int) (h : getF s.data.toList = (x, y)) (w : World) :
    Calls Try.prog 15 #[.string s] w fun e w' => e = .returned (.tuple #[.int .i64 x, .int .i64 y]) ∧ Below w.heap.size w w' :=
  slot_Get.calls 5 s x y w (by rw [get_tells, h])
theorem getRef_calls (s : ByteArray) (x y : Int) (h : getF s.data.toList = (x, y)) (w : World) :
    Calls Try.prog 16 #[.string s] w fun e w' => e = .returned (.tuple #[.int .i64 x, .int .i64 y]) ∧ Below w.heap.size w w' :=
  watchwordref1_GetSlot.calls 9 s x y w (by rw [getRef_tells s 9 (by omega), h])
theorem torn_calls (a b : ByteArray) (k : Int) (r : ByteArray) (e : Int) (h : tornF a b k = (r, e)) (w : World) :
    Calls Try.prog 17 #[.string a, .string b, .int .i64 k] w fun e' w' => e' = .returned (.tuple #[.string r, .int .i64 e]) ∧ Drawn0 w w' :=
  slot_Torn.calls a b k r e w (by rw [torn_tells, h])
theorem tornRef_calls (a b : ByteArray) (k : Int) (r : ByteArray) (e : Int) (h : tornF a b k = (r, e)) (w : World) :
    Calls Try.prog 18 #[.string a, .string b, .int .i64 k] w fun e' w' => e' = .returned (.tuple #[.string r, .int .i64 e]) ∧ Drawn0 w w' :=
  watchwordref1_Torn.calls a b k r e w (by rw [tornRef_tells, h])

set_option maxHeartbeats 4000000 in
set_option maxRecDepth 100000 in
theorem may_calls (a b : ByteArray) (r : Bool) (h : mayB a b = r) (w : World) :
    Calls Try.prog 27 #[.agg #[.string a, .string b]] w fun e w' => e = .returned (.bool r) ∧ Below w.heap.size w w' := by
  subst h
  unfold mayB
  by_cases h1 : a.size = 16
  · have c1 : ((a.size : Int) == 16) = true := beq_iff_eq.mpr (by omega)
    by_cases h2 : b.size = 16
    · have c2 : ((b.size : Int) == 16) = true := beq_iff_eq.mpr (by omega)
      rw [decide_eq_true h1, decide_eq_true h2]
      clear h1 h2
      go_enter Try.func27, Try.ntmps27
      go_wp2
      go_ret
      exact ⟨rfl, below_alloc (Below.refl _ _) _⟩
    · have c2 : ((b.size : Int) == 16) = false := beq_eq_false_iff_ne.mpr (by omega)
      rw [decide_eq_true h1, decide_eq_false h2]
      clear h1 h2
      go_enter Try.func27, Try.ntmps27
      go_wp2
      go_ret
      exact ⟨rfl, below_alloc (Below.refl _ _) _⟩
  · have c1 : ((a.size : Int) == 16) = false := beq_eq_false_iff_ne.mpr (by omega)
    rw [decide_eq_false h1, Bool.false_and]
    clear h1
    go_enter Try.func27, Try.ntmps27
    go_wp2
    go_ret
    exact ⟨rfl, below_alloc (Below.refl _ _) _⟩

set_option maxHeartbeats 4000000 in
set_option maxRecDepth 100000 in
theorem mayRef_calls (a b : ByteArray) (r : Bool) (h : mayB a b = r) (w : World) :
    Calls Try.prog 28 #[.agg #[.string a, .string b]] w fun e w' => e = .returned (.bool r) ∧ Below w.heap.size w w' := by
  subst h
  unfold mayB
  by_cases h1 : a.size = 16
  · have c1 : ((a.size : Int) == 16) = true := beq_iff_eq.mpr (by omega)
    by_cases h2 : b.size = 16
    · have c2 : ((b.size : Int) == 16) = true := beq_iff_eq.mpr (by omega)
      rw [decide_eq_true h1, decide_eq_true h2]
      clear h1 h2
      go_enter Try.func28, Try.ntmps28
      go_wp2
      go_ret
      exact ⟨rfl, below_alloc (Below.refl _ _) _⟩
    · have c2 : ((b.size : Int) == 16) = false := beq_eq_false_iff_ne.mpr (by omega)
      rw [decide_eq_true h1, decide_eq_false h2]
      clear h1 h2
      go_enter Try.func28, Try.ntmps28
      go_wp2
      go_ret
      exact ⟨rfl, below_alloc (Below.refl _ _) _⟩
  · have c1 : ((a.size : Int) == 16) = false := beq_eq_false_iff_ne.mpr (by omega)
    rw [decide_eq_false h1, Bool.false_and]
    clear h1
    go_enter Try.func28, Try.ntmps28
    go_wp2
    go_ret
    exact ⟨rfl, below_alloc (Below.refl _ _) _⟩

/-- A disk that has been boxed, behind a call. -/
theorem boxed {w w1 : World} {a b : ByteArray} (hb : Below (w.alloc (.cells #[.string a, .string b] 45)).heap.size (w.alloc (.cells #[.string a, .string b] 45)) w1) :
    w1.cell? ⟨w.heap.size, 0, none⟩ = some (.string a) ∧ w1.cell? ⟨w.heap.size, 1, none⟩ = some (.string b) ∧ Below w.heap.size w w1 :=
  ⟨pw_cell_below hb (by rw [World.cell?_alloc_mark]; rfl), pw_cell_below hb (by rw [World.cell?_alloc_mark]; rfl), below_then (below_alloc (Below.refl w.heap.size w) _) (by simp) hb⟩

/-- What one slot makes of the count so far. -/
def upTo (m : Int) (g : Int × Int) : Int := if g.2 = 0 then (if m < g.1 then g.1 else m) else m
/-- What a disk's count is: chapter 4. -/
def countF (a b : ByteArray) : Int × Int :=
  if mayB a b = true then (if upTo (upTo (-1) (getF a.data.toList)) (getF b.data.toList) < 0 then (0, 401) else (upTo (upTo (-1) (getF a.data.toList)) (getF b.data.toList), 0)) else (0, 400)

set_option maxHeartbeats 4000000 in
set_option maxRecDepth 100000 in
theorem count_bad (a b : ByteArray) (h : mayB a b = false) (w : World) :
    Calls Try.prog 21 #[.agg #[.string a, .string b]] w fun e w' => e = .returned (.tuple #[.int .i64 0, .int .i64 400]) ∧ Below w.heap.size w w' := by
  replace h := Aside0.mk h
  go_enter Try.func21, Try.ntmps21
  go_wp2_with (go_at_call 27; (with_reducible refine (may_calls a b false h.out _).mono ?_); rintro e w1 ⟨rfl, hb1⟩; have HB := Aside0.mk (below_then (below_alloc (Below.refl w.heap.size w) (.cells #[.string a, .string b] 45)) (by simp) hb1))
  go_ret2
  exact ⟨rfl, HB.out⟩

set_option maxHeartbeats 4000000 in
set_option maxRecDepth 100000 in
theorem count_good (a b : ByteArray) (h : mayB a b = true) (x y : Int × Int) (hx : getF a.data.toList = x) (hy : getF b.data.toList = y) (r1 r2 : Int)
    (hr : (if upTo (upTo (-1) x) y < 0 then (0, 401) else (upTo (upTo (-1) x) y, 0)) = (r1, r2)) (w : World) :
    Calls Try.prog 21 #[.agg #[.string a, .string b]] w fun e w' => e = .returned (.tuple #[.int .i64 r1, .int .i64 r2]) ∧ Below w.heap.size w w' := by
  replace h := Aside0.mk h
  replace hx := Aside0.mk hx
  replace hy := Aside0.mk hy
  replace hr := Aside0.mk hr
  have i0 : ∀ w, (Instr.index 43 (.agg #[.string a, .string b]) (.int .i64 0)).run Try.prog w = .ok (.string a) w := fun _ => by kernel_rfl
  have i1 : ∀ w, (Instr.index 43 (.agg #[.string a, .string b]) (.int .i64 1)).run Try.prog w = .ok (.string b) w := fun _ => by kernel_rfl
  go_enter Try.func21, Try.ntmps21
  go_wp2_with (go_at_call 27; (with_reducible refine (may_calls a b true h.out _).mono ?_); rintro e w1 ⟨rfl, hb1⟩; obtain ⟨d0, d1, hb2⟩ := boxed hb1; have HB := Aside0.mk hb2; clear hb1 hb2)
  go_loopw [4, 14] (fun v i wr => ∃ (k m : Int), i = .int .i64 k ∧ v = .int .i64 m ∧ Aside0 ((k = 0 ∧ m = -1) ∨ (k = 1 ∧ m = upTo (-1) x) ∨ (k = 2 ∧ m = upTo (upTo (-1) x) y)) ∧ Aside0 (Below w.heap.size w wr)) (fun _ i _ => (2 - intOf i).toNat)
  case atStart => exact ⟨0, -1, rfl, rfl, ⟨.inl ⟨rfl, rfl⟩⟩, HB⟩
  case round =>
    clear HB d0 d1 h
    obtain ⟨k, m, rfl, rfl, hk, HB⟩ := hrel
    rcases hk.out with ⟨rfl, rfl⟩ | ⟨rfl, hm⟩ | ⟨rfl, hm⟩
    · by_cases hx2 : x.2 = 0
      · have c1 : (x.2 == 0) = true := beq_iff_eq.mpr hx2
        replace hx2 := Aside0.mk hx2
        clear hk
        go_wp2_with (go_at_call 15; (with_reducible refine (get_calls a x.1 x.2 hx.out _).mono ?_); rintro e w2 ⟨rfl, hb1⟩; have n0_ := Aside0.mk (below_step HB.out hb1); clear HB hb1; have HB := n0_; clear n0_)
        go_roundw
        case rel => exact ⟨1, _, rfl, rfl, ⟨.inr (.inl ⟨rfl, by unfold upTo; rw [if_pos hx2.out]⟩)⟩, HB⟩
        case measure => simp [intOf]
      · have c1 : (x.2 == 0) = false := beq_eq_false_iff_ne.mpr hx2
        replace hx2 := Aside0.mk hx2
        clear hk
        go_wp2_with (go_at_call 15; (with_reducible refine (get_calls a x.1 x.2 hx.out _).mono ?_); rintro e w2 ⟨rfl, hb1⟩; have n0_ := Aside0.mk (below_step HB.out hb1); clear HB hb1; have HB := n0_; clear n0_)
        go_roundw
        case rel => exact ⟨1, _, rfl, rfl, ⟨.inr (.inl ⟨rfl, by unfold upTo; rw [if_neg hx2.out]⟩)⟩, HB⟩
        case measure => simp [intOf]
    · replace hm := Aside0.mk hm
      by_cases hy2 : y.2 = 0
      · have c1 : (y.2 == 0) = true := beq_iff_eq.mpr hy2
        replace hy2 := Aside0.mk hy2
        clear hk
        go_wp2_with (go_at_call 15; (with_reducible refine (get_calls b y.1 y.2 hy.out _).mono ?_); rintro e w2 ⟨rfl, hb1⟩; have n0_ := Aside0.mk (below_step HB.out hb1); clear HB hb1; have HB := n0_; clear n0_)
        go_roundw
        case rel => exact ⟨2, _, rfl, rfl, ⟨.inr (.inr ⟨rfl, by rw [← hm.out]; unfold upTo; rw [if_pos hy2.out]⟩)⟩, HB⟩
        case measure => simp [intOf]
      · have c1 : (y.2 == 0) = false := beq_eq_false_iff_ne.mpr hy2
        replace hy2 := Aside0.mk hy2
        clear hk
        go_wp2_with (go_at_call 15; (with_reducible refine (get_calls b y.1 y.2 hy.out _).mono ?_); rintro e w2 ⟨rfl, hb1⟩; have n0_ := Aside0.mk (below_step HB.out hb1); clear HB hb1; have HB := n0_; clear n0_)
        go_roundw
        case rel => exact ⟨2, _, rfl, rfl, ⟨.inr (.inr ⟨rfl, by rw [← hm.out]; unfold upTo; rw [if_neg hy2.out]⟩)⟩, HB⟩
        case measure => simp [intOf]
    · clear hk
      have hr2 := hr.out
      rw [← hm] at hr2
      replace hm := Aside0.mk hm
      by_cases hlt : m < 0
      · have c1 : decide (m < 0) = true := decide_eq_true hlt
        rw [if_pos hlt] at hr2
        clear hlt
        injection hr2 with h1 h2
        subst h1 h2
        go_wp2
        go_ret2
        exact ⟨rfl, HB.out⟩
      · have c1 : decide (m < 0) = false := decide_eq_false hlt
        rw [if_neg hlt] at hr2
        clear hlt
        injection hr2 with h1 h2
        subst h1 h2
        go_wp2
        go_ret2
        exact ⟨rfl, HB.out⟩

theorem count_calls (a b : ByteArray) (r1 r2 : Int) (h : countF a b = (r1, r2)) (w : World) :
    Calls Try.prog 21 #[.agg #[.string a, .string b]] w fun e w' => e = .returned (.tuple #[.int .i64 r1, .int .i64 r2]) ∧ Below w.heap.size w w' := by
  unfold countF at h
  by_cases hm : mayB a b = true
  · rw [if_pos hm] at h
    exact count_good a b hm _ _ rfl rfl r1 r2 h w
  · rw [if_neg hm] at h
    injection h with h1 h2
    subst h1 h2
    exact count_bad a b (Bool.eq_false_iff.mpr hm) w

end Go.Proofs.Ytjcmjfabadlbjaa.Boot
