/- What every program answers that is one: step by step. -/
import Derived.Test.YtdpbklckeamjpaaDoorScrO
namespace Go.Proofs.YtdpbklckeamjpaaDoor.Scr
open Go.RowKit Go.Proofs.YtdpbklckeamjpaaDoorW.PrintWords Go.Proofs.YtdpbklckeamjpaaDoorW.PrintLast Go.Proofs.YtdpbklckeamjpaaDoorW.PrintMore Go.Proofs.YtdpbklckeamjpaaDoor.PScripts

/-- Acts laid side by side in one new block. -/
theorem builtL (W : World) (l : List S36) (hl : l.length ≤ 300) : Kd.C k36 (W.alloc (.cells (l.flatMap fun a => (cells12 a).toList).toArray 36)) (some ⟨W.heap.size, 0, none⟩) l.length l := by
  have h1 : (W.alloc (.cells (l.flatMap fun a => (cells12 a).toList).toArray 36)).heap[W.heap.size]? = some (.cells (l.flatMap fun a => (cells12 a).toList).toArray 36 (0, 0)) := heap_alloc_new W _
  refine ⟨rfl, by omega, fun hpos => ⟨_, rfl, fun j p hj => ?_⟩⟩
  refine ⟨_, rfl, k36_mk _ _, fun i u hu => ?_⟩
  have hi : i < 12 := (List.getElem?_eq_some_iff.1 hu).1
  have hsz : k36.sz = 12 := rfl
  rw [hsz, add0]
  refine ((blk_cell h1 (j * 12 + i)).trans ?_).trans hu
  rw [List.getElem?_toArray]
  clear h1 hl hpos
  induction l generalizing j p with
  | nil => simp at hj
  | cons a l ih =>
    rw [List.flatMap_cons]
    cases j with
    | zero =>
      obtain rfl : a = p := by simpa using hj
      rw [List.getElem?_append_left (by simp [cells12]; omega)]
      simp only [Nat.zero_mul, Nat.zero_add]
      rfl
    | succ j =>
      rw [List.getElem?_append_right (by simp [cells12]; omega)]
      have : (j + 1) * 12 + i - (cells12 a).toList.length = j * 12 + i := by simp [cells12]; omega
      rw [this]
      exact ih j p (by simpa using hj) hu

def wake : List S36 := [⟨3, 1, 2, 0, 0, ⟨#[49, 58, 120]⟩, z34⟩, ⟨7, 0, 3, 0, 0, ⟨#[]⟩, ⟨5, ⟨#[115]⟩, 0, 9, 0, 8⟩⟩, ⟨4, 0, 0, 0, 0, ⟨#[]⟩, z34⟩]
def wakeT : ByteArray := ⟨#[51, 32, 49, 32, 50, 32, 48, 32, 48, 32, 51, 58, 49, 58, 120, 55, 32, 48, 32, 51, 32, 48, 32, 48, 32, 48, 58, 53, 32, 48, 32, 57, 32, 48, 32, 56, 32, 49, 58, 115, 52, 32, 48, 32, 48, 32, 48, 32, 48, 32, 48, 58]⟩
theorem wake_ok : okB wake = true := by kernel_rfl
theorem wake_tell : tellT wake = wakeT.data.toList := by kernel_rfl
theorem wake_first : mayB ⟨3, 1, 2, 0, 0, ⟨#[49, 58, 120]⟩, z34⟩ = true := by kernel_rfl
theorem not_zero : noTell [48, 32] = true := by kernel_rfl
def tickAt : S36 := ⟨4, 0, 0, 1, 0, ⟨#[]⟩, z34⟩
theorem tick_not : okB [tickAt] = false := by kernel_rfl

/-- Parse at a text that tells acts that may be. -/
theorem parse_ok (W : World) (s : ByteArray) (hv : Vars W) (hs : s.size ≤ 281474976710656) (c : List S36) (hc : okB c = true) (e : s.data.toList = tellT c) :
    Calls Tryd.prog 11 #[.string s] W fun e W' => ∃ A cap, e = .returned (.tuple #[.slice A c.length cap, .int .i64 0]) ∧ Below W.heap.size W W' ∧ c.length ≤ cap ∧ Kd.C k36 W' A c.length c := by
  refine (parse_walk W s hv hs).mono ?_
  rintro e1 w1 ⟨hb, ⟨v, c', rfl, hR, hok, h1⟩ | ⟨rfl, hno⟩⟩
  · obtain rfl := tell_inj hok hc (h1.symm.trans e)
    obtain ⟨A, cap, rfl⟩ := Kd.R_slice hR
    have h2 := Kd.R_reads' hR
    exact ⟨A, cap, rfl, hb, h2.2.1, h2.2.2⟩
  · exact absurd e (hno c hc)
/-- Parse at a text that tells none. -/
theorem parse_no (W : World) (s : ByteArray) (hv : Vars W) (hs : s.size ≤ 281474976710656) (h : ∀ c, okB c = true → s.data.toList ≠ tellT c) :
    Calls Tryd.prog 11 #[.string s] W fun e W' => e = .returned (.tuple #[.slice none 0 0, .int .i64 2300]) ∧ Below W.heap.size W W' := by
  refine (parse_walk W s hv hs).mono ?_
  rintro e1 w1 ⟨hb, ⟨v, c', rfl, hR, hok, h1⟩ | ⟨rfl, hno⟩⟩
  · exact absurd h1 (h c' hok)
  · exact ⟨rfl, hb⟩

/-- The block of the waking acts. -/
structure Wake (W : World) (b : Nat) : Prop where mk :: (out : W.heap[b]? = some (.cells #[.int .i64 3, .int .i64 1, .int .i64 2, .int .i64 0, .int .i64 0, .string ⟨#[49, 58, 120]⟩, .int .i64 0, .string ⟨#[]⟩, .int .i64 0, .int .i64 0, .int .i64 0, .int .i64 0, .int .i64 7, .int .i64 0, .int .i64 3, .int .i64 0, .int .i64 0, .string ⟨#[]⟩, .int .i64 5, .string ⟨#[115]⟩, .int .i64 0, .int .i64 9, .int .i64 0, .int .i64 8, .int .i64 4, .int .i64 0, .int .i64 0, .int .i64 0, .int .i64 0, .string ⟨#[]⟩, .int .i64 0, .string ⟨#[]⟩, .int .i64 0, .int .i64 0, .int .i64 0, .int .i64 0] 36 (0, 0)))
theorem Wake.below {W W' : World} {b : Nat} (h : Wake W b) (hb : Below W.heap.size W W') : Wake W' b := ⟨(hb.block b (Array.getElem?_eq_some_iff.1 h.out).1).trans h.out⟩
theorem Wake.cells {W : World} {b : Nat} (h : Wake W b) : W.cell? ⟨b, 0, none⟩ = some (.int .i64 3) ∧ W.cell? ⟨b, 1, none⟩ = some (.int .i64 1) ∧ W.cell? ⟨b, 2, none⟩ = some (.int .i64 2) ∧ W.cell? ⟨b, 3, none⟩ = some (.int .i64 0) ∧ W.cell? ⟨b, 4, none⟩ = some (.int .i64 0) ∧ W.cell? ⟨b, 5, none⟩ = some (.string ⟨#[49, 58, 120]⟩) ∧ W.cell? ⟨b, 6, none⟩ = some (.int .i64 0) ∧ W.cell? ⟨b, 7, none⟩ = some (.string ⟨#[]⟩) ∧ W.cell? ⟨b, 8, none⟩ = some (.int .i64 0) ∧ W.cell? ⟨b, 9, none⟩ = some (.int .i64 0) ∧ W.cell? ⟨b, 10, none⟩ = some (.int .i64 0) ∧ W.cell? ⟨b, 11, none⟩ = some (.int .i64 0) := by
  have hc : ∀ j, W.cell? ⟨b, j, none⟩ = (#[.int .i64 3, .int .i64 1, .int .i64 2, .int .i64 0, .int .i64 0, .string ⟨#[49, 58, 120]⟩, .int .i64 0, .string ⟨#[]⟩, .int .i64 0, .int .i64 0, .int .i64 0, .int .i64 0, .int .i64 7, .int .i64 0, .int .i64 3, .int .i64 0, .int .i64 0, .string ⟨#[]⟩, .int .i64 5, .string ⟨#[115]⟩, .int .i64 0, .int .i64 9, .int .i64 0, .int .i64 8, .int .i64 4, .int .i64 0, .int .i64 0, .int .i64 0, .int .i64 0, .string ⟨#[]⟩, .int .i64 0, .string ⟨#[]⟩, .int .i64 0, .int .i64 0, .int .i64 0, .int .i64 0] : Array Value)[j]? := fun j => by simp [World.cell?, h.out]
  exact ⟨(hc 0).trans rfl, (hc 1).trans rfl, (hc 2).trans rfl, (hc 3).trans rfl, (hc 4).trans rfl, (hc 5).trans rfl, (hc 6).trans rfl, (hc 7).trans rfl, (hc 8).trans rfl, (hc 9).trans rfl, (hc 10).trans rfl, (hc 11).trans rfl⟩
theorem wake_C (W : World) : Kd.C k36 (W.alloc (.cells #[.int .i64 3, .int .i64 1, .int .i64 2, .int .i64 0, .int .i64 0, .string ⟨#[49, 58, 120]⟩, .int .i64 0, .string ⟨#[]⟩, .int .i64 0, .int .i64 0, .int .i64 0, .int .i64 0, .int .i64 7, .int .i64 0, .int .i64 3, .int .i64 0, .int .i64 0, .string ⟨#[]⟩, .int .i64 5, .string ⟨#[115]⟩, .int .i64 0, .int .i64 9, .int .i64 0, .int .i64 8, .int .i64 4, .int .i64 0, .int .i64 0, .int .i64 0, .int .i64 0, .string ⟨#[]⟩, .int .i64 0, .string ⟨#[]⟩, .int .i64 0, .int .i64 0, .int .i64 0, .int .i64 0] 36)) (some ⟨W.heap.size, 0, none⟩) 3 wake := builtL W wake (by decide)
theorem show_wake (W : World) (hv : Vars W) (u : ByteArray) (hu : u = wakeT) :
    Calls Tryd.prog 9 #[.slice (some ⟨W.heap.size, 0, none⟩) 3 3] (W.alloc (.cells #[.int .i64 3, .int .i64 1, .int .i64 2, .int .i64 0, .int .i64 0, .string ⟨#[49, 58, 120]⟩, .int .i64 0, .string ⟨#[]⟩, .int .i64 0, .int .i64 0, .int .i64 0, .int .i64 0, .int .i64 7, .int .i64 0, .int .i64 3, .int .i64 0, .int .i64 0, .string ⟨#[]⟩, .int .i64 5, .string ⟨#[115]⟩, .int .i64 0, .int .i64 9, .int .i64 0, .int .i64 8, .int .i64 4, .int .i64 0, .int .i64 0, .int .i64 0, .int .i64 0, .string ⟨#[]⟩, .int .i64 0, .string ⟨#[]⟩, .int .i64 0, .int .i64 0, .int .i64 0, .int .i64 0] 36)) fun e w' => e = .returned (.tuple #[.string u, .int .i64 0]) ∧ Below W.heap.size W w' ∧ Kd.C k36 w' (some ⟨W.heap.size, 0, none⟩) 3 wake ∧ Wake w' W.heap.size := by
  have h1 := below_alloc (Below.refl W.heap.size W) (.cells #[.int .i64 3, .int .i64 1, .int .i64 2, .int .i64 0, .int .i64 0, .string ⟨#[49, 58, 120]⟩, .int .i64 0, .string ⟨#[]⟩, .int .i64 0, .int .i64 0, .int .i64 0, .int .i64 0, .int .i64 7, .int .i64 0, .int .i64 3, .int .i64 0, .int .i64 0, .string ⟨#[]⟩, .int .i64 5, .string ⟨#[115]⟩, .int .i64 0, .int .i64 9, .int .i64 0, .int .i64 8, .int .i64 4, .int .i64 0, .int .i64 0, .int .i64 0, .int .i64 0, .string ⟨#[]⟩, .int .i64 0, .string ⟨#[]⟩, .int .i64 0, .int .i64 0, .int .i64 0, .int .i64 0] 36)
  have hk : Wake (W.alloc (.cells #[.int .i64 3, .int .i64 1, .int .i64 2, .int .i64 0, .int .i64 0, .string ⟨#[49, 58, 120]⟩, .int .i64 0, .string ⟨#[]⟩, .int .i64 0, .int .i64 0, .int .i64 0, .int .i64 0, .int .i64 7, .int .i64 0, .int .i64 3, .int .i64 0, .int .i64 0, .string ⟨#[]⟩, .int .i64 5, .string ⟨#[115]⟩, .int .i64 0, .int .i64 9, .int .i64 0, .int .i64 8, .int .i64 4, .int .i64 0, .int .i64 0, .int .i64 0, .int .i64 0, .string ⟨#[]⟩, .int .i64 0, .string ⟨#[]⟩, .int .i64 0, .int .i64 0, .int .i64 0, .int .i64 0] 36)) W.heap.size := ⟨heap_alloc_new W _⟩
  refine (show_calls _ (some ⟨W.heap.size, 0, none⟩) wake 3 (hv.below h1) (wake_C W)).mono ?_
  rintro e w1 ⟨rfl, hb⟩
  have hF : showF wake = (wakeT, 0) := by
    unfold showF
    rw [if_pos wake_ok, wake_tell]
  rw [hF, hu]
  exact ⟨rfl, below_step h1 hb h1.size, Kd.C_below (wake_C W) hb, hk.below hb⟩
theorem show_tick (W : World) (hv : Vars W) :
    Calls Tryd.prog 9 #[.slice (some ⟨W.heap.size, 0, none⟩) 1 1] (W.alloc (.cells #[.int .i64 4, .int .i64 0, .int .i64 0, .int .i64 1, .int .i64 0, .string ⟨#[]⟩, .int .i64 0, .string ⟨#[]⟩, .int .i64 0, .int .i64 0, .int .i64 0, .int .i64 0] 36)) fun e w' => e = .returned (.tuple #[.string ⟨#[]⟩, .int .i64 2300]) ∧ Below W.heap.size W w' := by
  have h1 := below_alloc (Below.refl W.heap.size W) (.cells #[.int .i64 4, .int .i64 0, .int .i64 0, .int .i64 1, .int .i64 0, .string ⟨#[]⟩, .int .i64 0, .string ⟨#[]⟩, .int .i64 0, .int .i64 0, .int .i64 0, .int .i64 0] 36)
  refine (show_calls _ (some ⟨W.heap.size, 0, none⟩) [tickAt] 1 (hv.below h1) (builtL W [tickAt] (by decide))).mono ?_
  rintro e w1 ⟨rfl, hb⟩
  have hF : showF [tickAt] = (⟨#[]⟩, 2300) := by
    unfold showF
    rw [if_neg (by rw [tick_not]; decide)]
  rw [hF]
  exact ⟨rfl, below_step h1 hb h1.size⟩
theorem parse_wake (W : World) (hv : Vars W) (u : ByteArray) (hu : u = wakeT) :
    Calls Tryd.prog 11 #[.string u] W fun e W' => ∃ A cap, e = .returned (.tuple #[.slice A 3 cap, .int .i64 0]) ∧ Below W.heap.size W W' ∧ 3 ≤ cap ∧ Kd.C k36 W' A 3 wake := by
  subst hu
  exact parse_ok W wakeT hv (by decide) wake wake_ok wake_tell.symm
theorem parse_zero (W : World) (hv : Vars W) :
    Calls Tryd.prog 11 #[.string ⟨#[48, 32]⟩] W fun e W' => e = .returned (.tuple #[.slice none 0 0, .int .i64 2300]) ∧ Below W.heap.size W W' :=
  parse_no W _ hv (by decide) (fun c hc => no_tell not_zero c hc)
theorem same_wake (A0 : Option Addr) (c0 : Nat) (A1 : Option Addr) (c1 : Nat) (w : World) (hr0 : Kd.C k36 w A0 3 wake) (hc0 : 3 ≤ c0) (hr1 : Kd.C k36 w A1 3 wake) (hc1 : 3 ≤ c1) :
    Calls Tryd.prog 12 #[.slice A0 3 c0, .slice A1 3 c1] w fun e w' => e = .returned (.bool true) ∧ Below w.heap.size w w' :=
  (same_calls A0 c0 wake A1 c1 w (by decide) hr0 hc0 hr1 hc1).mono fun _ _ ⟨h1, h2⟩ => ⟨h1, h2.below⟩
theorem may_wake (w : World) : Calls Tryd.prog 13 #[.agg #[.int .i64 3, .int .i64 1, .int .i64 2, .int .i64 0, .int .i64 0, .string ⟨#[49, 58, 120]⟩, .int .i64 0, .string ⟨#[]⟩, .int .i64 0, .int .i64 0, .int .i64 0, .int .i64 0]] w fun e w' => e = .returned (.bool true) ∧ Below w.heap.size w w' := by
  have h := may_calls ⟨3, 1, 2, 0, 0, ⟨#[49, 58, 120]⟩, z34⟩ w
  rw [wake_first] at h
  exact h

set_option maxHeartbeats 8000000 in
set_option maxRecDepth 100000 in
theorem awake_calls (W : World) (hv : Vars W) :
    Calls Tryd.prog 8 #[] W fun e w' => e = .returned (.bool true) ∧ Below W.heap.size W w' := by
  obtain ⟨u, hu⟩ : ∃ u : ByteArray, u = wakeT := ⟨_, rfl⟩
  have hlit : u.toList = [51, 32, 49, 32, 50, 32, 48, 32, 48, 32, 51, 58, 49, 58, 120, 55, 32, 48, 32, 51, 32, 48, 32, 48, 32, 48, 58, 53, 32, 48, 32, 57, 32, 48, 32, 56, 32, 49, 58, 115, 52, 32, 48, 32, 48, 32, 48, 32, 48, 32, 48, 58] := by rw [hu, ByteArray.toList_eq]; rfl
  replace hu := Aside0.mk hu
  replace hv := Aside0.mk hv
  go_enter Tryd.func8, Tryd.ntmps8
  go_wp2_with (first
    | (go_at_call 9; (with_reducible refine (show_wake W hv.out u hu.out).mono ?_); rintro e w1 ⟨rfl, hb1, hC1, hK1⟩; replace hb1 := Aside0.mk hb1; replace hC1 := Aside0.mk hC1; replace hK1 := Aside0.mk hK1)
    | (go_at_call 11; (with_reducible refine (parse_wake w1 (hv.out.below hb1.out) u hu.out).mono ?_); rintro e w2 ⟨A, cap, rfl, hb2, hcap, hC2⟩; replace hC1 := Aside0.mk (Kd.C_below hC1.out hb2); replace hK1 := Aside0.mk (hK1.out.below hb2); replace hb2 := Aside0.mk (below_step hb1.out hb2 hb1.out.size); replace hC2 := Aside0.mk hC2; replace hcap := Aside0.mk hcap)
    | (go_at_call 11; (with_reducible refine (parse_zero w2 (hv.out.below hb2.out)).mono ?_); rintro e w3 ⟨rfl, hb3⟩; replace hC1 := Aside0.mk (Kd.C_below hC1.out hb3); replace hC2 := Aside0.mk (Kd.C_below hC2.out hb3); replace hK1 := Aside0.mk (hK1.out.below hb3); replace hb3 := Aside0.mk (below_step hb2.out hb3 hb2.out.size))
    | (go_at_call 9; (with_reducible refine (show_tick w3 (hv.out.below hb3.out)).mono ?_); rintro e w4 ⟨rfl, hb4⟩; replace hC1 := Aside0.mk (Kd.C_below hC1.out hb4); replace hC2 := Aside0.mk (Kd.C_below hC2.out hb4); replace hK1 := Aside0.mk (hK1.out.below hb4); replace hb4 := Aside0.mk (below_step hb3.out hb4 hb3.out.size))
    | (go_at_call 10; (with_reducible refine (num_calls _ _).mono ?_); rintro e wn ⟨rfl, rfl⟩)
    | (go_at_call 12; (with_reducible refine (same_wake _ _ _ _ _ hC1.out (by omega) hC2.out hcap.out).mono ?_); rintro e w5 ⟨rfl, hb5⟩; obtain ⟨x0, x1, x2, x3, x4, x5, x6, x7, x8, x9, x10, x11⟩ := (hK1.out.below hb5).cells; replace hb5 := Aside0.mk (below_step hb4.out hb5 hb4.out.size))
    | (go_at_call 13; (with_reducible refine (may_wake _).mono ?_); rintro e w6 ⟨rfl, hb6⟩; replace hb6 := Aside0.mk (below_step hb5.out hb6 hb5.out.size)))
  go_ret
  exact ⟨rfl, hb6.out⟩
end Go.Proofs.YtdpbklckeamjpaaDoor.Scr
