/- The package's taker: an act, step by step. -/
import Derived.Test.YtdpbklckeamjpaaDoorScrL
namespace Go.Proofs.YtdpbklckeamjpaaDoor.Scr
open Go.RowKit Go.Proofs.YtdpbklckeamjpaaDoorW.PrintWords Go.Proofs.YtdpbklckeamjpaaDoorW.PrintLast Go.Proofs.YtdpbklckeamjpaaDoorW.PrintMore Go.Proofs.YtdpbklckeamjpaaDoor.PScripts

/-- An act's cells. -/
def cells12 (a : S36) : Array Value := #[.int .i64 a.f0, .int .i64 a.f1, .int .i64 a.f2, .int .i64 a.f3, .int .i64 a.f4, .string a.f5, .int .i64 a.f6.f0, .string a.f6.f1, .int .i64 a.f6.f2, .int .i64 a.f6.f3, .int .i64 a.f6.f4, .int .i64 a.f6.f5]
/-- The act behind its first row, behind its second. -/
def act1 (X : Nat → Int) (s : Option ByteArray) : S36 := ⟨X 0, X 1, X 2, X 3, X 4, s.getD ⟨#[]⟩, z34⟩
def act2 (a : S36) (X : Nat → Int) (s : Option ByteArray) : S36 := ⟨a.f0, a.f1, a.f2, a.f3, a.f4, a.f5, ⟨X 0, s.getD a.f6.f1, X 1, X 2, X 3, X 4⟩⟩
theorem cells_act1 (X : Nat → Int) (s : Option ByteArray) : (match s with | none => put (fun i => i) X 5 (cells12 z36) | some s => (put (fun i => i) X 5 (cells12 z36)).setIfInBounds 5 (.string s)) = cells12 (act1 X s) := by
  cases s <;> rfl
theorem cells_act2 (a : S36) (X : Nat → Int) (s : Option ByteArray) : (match s with | none => put offs5 X 5 (cells12 a) | some s => (put offs5 X 5 (cells12 a)).setIfInBounds 7 (.string s)) = cells12 (act2 a X s) := by
  cases s <;> rfl

/-- What is told of an act that may be is small. -/
theorem small_nums {c : S36} (h : mayB c = true) : Small (nums5 c) c.f5 := ⟨fun i hi => by have := (may_bounds h).1 i hi; omega, by have := (may_bounds h).2.1; omega⟩
theorem small_keys {c : S36} (h : mayB c = true) (h7 : c.f0 = 7) : Small (keys5 c.f6) c.f6.f1 := ⟨fun i hi => by have := ((may_bounds h).2.2 h7).1 i hi; omega, by have := ((may_bounds h).2.2 h7).2; omega⟩
/-- An act of another kind than a key's names no key. -/
theorem no_key {c : S36} (h : mayB c = true) (h7 : c.f0 ≠ 7) : c.f6 = z34 := by
  unfold mayB at h
  simp only [Bool.and_eq_true] at h
  obtain ⟨⟨⟨⟨⟨⟨⟨⟨⟨⟨⟨h0, h1⟩, h2⟩, h3⟩, h4⟩, hk⟩, hs⟩, -⟩, -⟩, -⟩, -⟩, -⟩ := h
  have h0 := upB_true h0
  have hk := hk.1
  rw [Bool.or_eq_true] at hk
  rcases hk with hk | hk
  · unfold noKeyB at hk
    simp only [Bool.and_eq_true, beq_iff_eq, List.isEmpty_iff] at hk
    obtain ⟨e0, e1, e2, e3, e4, e5⟩ := hk
    have : c.f6.f1 = ⟨#[]⟩ := by
      rw [ByteArray.toList_eq] at e1
      exact ByteArray.ext (Array.toList_inj.1 e1)
    cases hc : c.f6 with
    | mk k0 k1 k2 k3 k4 k5 =>
      rw [hc] at e0 e2 e3 e4 e5 this
      simp only at e0 e2 e3 e4 e5 this
      subst e0 e2 e3 e4 e5 this
      rfl
  · exfalso
    have : c.f0 = 0 ∨ c.f0 = 1 ∨ c.f0 = 2 ∨ c.f0 = 3 ∨ c.f0 = 4 ∨ c.f0 = 5 ∨ c.f0 = 6 ∨ c.f0 = 8 := by omega
    rcases this with e | e | e | e | e | e | e | e
    all_goals
      rw [e] at hk
      revert hk
      decide

/-- What the taking of an act leaves. -/
structure ActAt (rest : ByteArray) (bad : Bool) (a : S36) (rk : ByteArray) (bk : Bool) : Prop where
  le : rk.size ≤ rest.size
  at_ : bad = false → ∀ c q, mayB c = true → rest.data.toList = tell1 c ++ q → a = c ∧ bk = false ∧ rk.data.toList = q

theorem act_of1 {X : Nat → Int} {s : Option ByteArray} {c : S36} (hX : ∀ i, i < 5 → X i = nums5 c i) (hs : s = some c.f5) (hk : c.f6 = z34) : act1 X s = c := by
  unfold act1
  rw [hX 0 (by omega), hX 1 (by omega), hX 2 (by omega), hX 3 (by omega), hX 4 (by omega), hs, ← hk]
  rfl
theorem act_of2 {X Y : Nat → Int} {s u : Option ByteArray} {c : S36} (hX : ∀ i, i < 5 → X i = nums5 c i) (hs : s = some c.f5) (hY : ∀ i, i < 5 → Y i = keys5 c.f6 i) (hu : u = some c.f6.f1) : act2 (act1 X s) Y u = c := by
  unfold act2 act1
  rw [hX 0 (by omega), hX 1 (by omega), hX 2 (by omega), hX 3 (by omega), hX 4 (by omega), hs, hY 0 (by omega), hY 1 (by omega), hY 2 (by omega), hY 3 (by omega), hY 4 (by omega), hu]
  rfl

theorem three' (bk : Bool) (x : Int) : bk = true ∨ (bk = false ∧ (x == 7) = false) ∨ (bk = false ∧ (x == 7) = true) := by
  cases bk with
  | true => exact .inl rfl
  | false => cases h : (x == 7) with | true => exact .inr (.inr ⟨rfl, rfl⟩) | false => exact .inr (.inl ⟨rfl, rfl⟩)

theorem Box.of {W : World} {b : Nat} {a : S36} (h : W.heap[b]? = some (.cells (cells12 a) 36 (0, 0))) : Box W b a := ⟨h⟩

def stored (W : World) (b : Nat) (a : S36) : World := ((((((((((((W).setCell ⟨b, 0, none⟩ (.int .i64 a.f0)).setCell ⟨b, 1, none⟩ (.int .i64 a.f1)).setCell ⟨b, 2, none⟩ (.int .i64 a.f2)).setCell ⟨b, 3, none⟩ (.int .i64 a.f3)).setCell ⟨b, 4, none⟩ (.int .i64 a.f4)).setCell ⟨b, 5, none⟩ (.string a.f5)).setCell ⟨b, 6, none⟩ (.int .i64 a.f6.f0)).setCell ⟨b, 7, none⟩ (.string a.f6.f1)).setCell ⟨b, 8, none⟩ (.int .i64 a.f6.f2)).setCell ⟨b, 9, none⟩ (.int .i64 a.f6.f3)).setCell ⟨b, 10, none⟩ (.int .i64 a.f6.f4)).setCell ⟨b, 11, none⟩ (.int .i64 a.f6.f5)
theorem Box.put12 {W : World} {b : Nat} {a0 : S36} (h : Box W b a0) (a : S36) : Box (stored W b a) b a := by
  unfold stored
  refine ⟨?_⟩
  have h0 := h.out
  have h1 := setCell_heap _ b 0 _ 36 (0, 0) (.int .i64 a.f0) h0
  have h2 := setCell_heap _ b 1 _ 36 (0, 0) (.int .i64 a.f1) h1
  have h3 := setCell_heap _ b 2 _ 36 (0, 0) (.int .i64 a.f2) h2
  have h4 := setCell_heap _ b 3 _ 36 (0, 0) (.int .i64 a.f3) h3
  have h5 := setCell_heap _ b 4 _ 36 (0, 0) (.int .i64 a.f4) h4
  have h6 := setCell_heap _ b 5 _ 36 (0, 0) (.string a.f5) h5
  have h7 := setCell_heap _ b 6 _ 36 (0, 0) (.int .i64 a.f6.f0) h6
  have h8 := setCell_heap _ b 7 _ 36 (0, 0) (.string a.f6.f1) h7
  have h9 := setCell_heap _ b 8 _ 36 (0, 0) (.int .i64 a.f6.f2) h8
  have h10 := setCell_heap _ b 9 _ 36 (0, 0) (.int .i64 a.f6.f3) h9
  have h11 := setCell_heap _ b 10 _ 36 (0, 0) (.int .i64 a.f6.f4) h10
  have h12 := setCell_heap _ b 11 _ 36 (0, 0) (.int .i64 a.f6.f5) h11
  simpa using h12
theorem offs_lt (i : Nat) (h : i < 5) : offs5 i < 12 := by
  have : i = 0 ∨ i = 1 ∨ i = 2 ∨ i = 3 ∨ i = 4 := by omega
  rcases this with rfl | rfl | rfl | rfl | rfl <;> decide
theorem size_set (W : World) (a : Addr) (v : Value) : (W.setCell a v).heap.size = W.heap.size := by simp [World.setCell]
theorem stored_size (W : World) (b : Nat) (a : S36) : (stored W b a).heap.size = W.heap.size := by
  unfold stored
  simp only [size_set]
theorem stored_far (W : World) (b : Nat) (a : S36) (k : Nat) (hk : k ≠ b) : (stored W b a).heap[k]? = W.heap[k]? := by
  exact (Below.heap_setCell _ ⟨b, 11, none⟩ _ k hk).trans ((Below.heap_setCell _ ⟨b, 10, none⟩ _ k hk).trans ((Below.heap_setCell _ ⟨b, 9, none⟩ _ k hk).trans ((Below.heap_setCell _ ⟨b, 8, none⟩ _ k hk).trans ((Below.heap_setCell _ ⟨b, 7, none⟩ _ k hk).trans ((Below.heap_setCell _ ⟨b, 6, none⟩ _ k hk).trans ((Below.heap_setCell _ ⟨b, 5, none⟩ _ k hk).trans ((Below.heap_setCell _ ⟨b, 4, none⟩ _ k hk).trans ((Below.heap_setCell _ ⟨b, 3, none⟩ _ k hk).trans ((Below.heap_setCell _ ⟨b, 2, none⟩ _ k hk).trans ((Below.heap_setCell _ ⟨b, 1, none⟩ _ k hk).trans (Below.heap_setCell _ ⟨b, 0, none⟩ _ k hk)))))))))))

theorem set_os (W : World) (a : Addr) (v : Value) : (W.setCell a v).os = W.os := rfl
theorem set_tape (W : World) (a : Addr) (v : Value) : (W.setCell a v).tape = W.tape := rfl
theorem set_output (W : World) (a : Addr) (v : Value) : (W.setCell a v).output = W.output := rfl
theorem stored_same (W : World) (b : Nat) (a : S36) : (stored W b a).os = W.os ∧ (stored W b a).tape = W.tape ∧ (stored W b a).output = W.output := by
  unfold stored
  simp only [set_os, set_tape, set_output, and_self]
theorem act_end {g ga r : Nat} {W w2 : World} {rk : ByteArray} {bk : Bool} (hK : Kept2 g ga W w2) (l1 : W.heap.size ≤ ga) (l4 : W.heap.size ≤ r) (hgr : g ≠ r) (hT : Taker w2 g rk bk) (a : S36) : Taker (stored w2 r a) g rk bk ∧ W.grownBy (stored w2 r a) (some g) :=
  ⟨(stored_far w2 r a g hgr).trans hT, (stored_same w2 r a).1.trans hK.os, (stored_same w2 r a).2.1.trans hK.tape, (stored_same w2 r a).2.2.trans hK.output, by rw [stored_size]; exact hK.size, fun k hk hn => (stored_far w2 r a k (by omega)).trans (hK.block k hk (fun e => hn (by rw [e])) (by omega))⟩

theorem tell_row (c : S36) (q : List UInt8) : tell1 c ++ q = rowT (nums5 c) c.f5 ++ ((if c.f0 = 7 then rowT (keys5 c.f6) c.f6.f1 else []) ++ q) := by
  unfold tell1
  rw [List.append_assoc]

set_option maxHeartbeats 8000000 in
set_option maxRecDepth 100000 in
theorem act_calls {w0 W : World} (g : Nat) (rest : ByteArray) (bad : Bool) (hv : Vars w0) (hB : Below w0.heap.size w0 W) (hg : w0.heap.size ≤ g) (hT : Taker W g rest bad) (hs : rest.size ≤ 281474976710656) :
    Calls Tryd.prog 21 #[.pointer (some ⟨g, 0, none⟩)] W fun e W' => ∃ a rk bk, e = .returned (val36 a) ∧ ActAt rest bad a rk bk ∧ Taker W' g rk bk ∧ W.grownBy W' (some g) := by
  have hgl : g < W.heap.size := (Array.getElem?_eq_some_iff.1 hT).1
  have hbw := hB.size
  obtain ⟨W2, hW2⟩ : ∃ W2, W2 = (W.alloc (.cells #[.int .i64 0, .int .i64 0, .int .i64 0, .int .i64 0, .int .i64 0, .string ⟨#[]⟩, .int .i64 0, .string ⟨#[]⟩, .int .i64 0, .int .i64 0, .int .i64 0, .int .i64 0] 36)).alloc (.cells #[.int .i64 0, .int .i64 0, .int .i64 0, .int .i64 0, .int .i64 0, .string ⟨#[]⟩, .int .i64 0, .string ⟨#[]⟩, .int .i64 0, .int .i64 0, .int .i64 0, .int .i64 0] 36) := ⟨_, rfl⟩
  have hb2 : Below W.heap.size W W2 := by rw [hW2]; exact below_alloc (below_alloc (Below.refl _ _) _) _
  have hr2 : W2.heap[W.heap.size]? = some (.cells (cells12 z36) 36 (0, 0)) := by
    rw [hW2, heap_alloc_old _ _ (by simp)]
    exact heap_alloc_new W _
  have hz2 : W2.heap[W.heap.size + 1]? = some (.cells (cells12 z36) 36 (0, 0)) := by
    rw [hW2]
    have := heap_alloc_new (W.alloc (.cells #[.int .i64 0, .int .i64 0, .int .i64 0, .int .i64 0, .int .i64 0, .string ⟨#[]⟩, .int .i64 0, .string ⟨#[]⟩, .int .i64 0, .int .i64 0, .int .i64 0, .int .i64 0] 36)) (.cells #[.int .i64 0, .int .i64 0, .int .i64 0, .int .i64 0, .int .i64 0, .string ⟨#[]⟩, .int .i64 0, .string ⟨#[]⟩, .int .i64 0, .int .i64 0, .int .i64 0, .int .i64 0] 36)
    rw [show (W.alloc (.cells #[.int .i64 0, .int .i64 0, .int .i64 0, .int .i64 0, .int .i64 0, .string ⟨#[]⟩, .int .i64 0, .string ⟨#[]⟩, .int .i64 0, .int .i64 0, .int .i64 0, .int .i64 0] 36)).heap.size = W.heap.size + 1 by simp] at this
    exact this
  have hs2 : W2.heap.size = W.heap.size + 2 := by rw [hW2]; simp
  obtain ⟨ga, hga⟩ : ∃ ga, ga = W.heap.size + 1 := ⟨_, rfl⟩
  obtain ⟨r, hr⟩ : ∃ r, r = W.heap.size := ⟨_, rfl⟩
  rw [← hga] at hz2
  rw [← hr] at hr2
  replace hv := Aside0.mk hv
  go_enter Tryd.func21, Tryd.ntmps21
  go_wp2_with fail
  rw [← hga, ← hr, ← hW2]
  have l1 : W.heap.size ≤ ga := by omega
  have l2 : ga < W2.heap.size := by omega
  have l3 : r < W2.heap.size := by omega
  have l4 : W.heap.size ≤ r := by omega
  have l5 : r ≠ ga := by omega
  clear hga hr hs2 hW2
  go_wp2_with (first
    | (go_at_call 18; (with_reducible refine (numbers_calls _ ga).mono ?_); rintro e w1 ⟨gx, rfl, hR, hgx, hb1⟩; have T1 : Taker w1 g rest bad := ((hb1.block g (by omega)).trans (hb2.block g hgl)).trans hT; have C1 := (hb1.block ga (by omega)).trans hz2; have R1 := (hb1.block r (by omega)).trans hr2; have B1 := below_step (below_step hB hb2 hbw) hb1 (by omega); have K1 := (Kept2.of_below (g := g) (ga := ga) hb2).trans (Kept2.of_below hb1); have sz1 := hb1.size; replace hR := Aside0.mk hR; replace T1 := Aside0.mk T1; replace C1 := Aside0.mk C1; replace R1 := Aside0.mk R1; replace B1 := Aside0.mk B1; replace K1 := Aside0.mk K1; clear hb1)
    | (go_at_call 36; (with_reducible refine (takeRow_calls g ga gx (fun i => i) 5 (cells12 z36) rest bad hv.out B1.out hg (by omega) (by omega) (by omega) (by omega) T1.out hs C1.out rfl (fun i hi => show i < 12 by omega) (by omega) hR.out).mono ?_); rintro e w2 ⟨rfl, X, s, rk, bk, T2, hle, hin, K2, C2, hss, hat⟩; replace C2 : w2.heap[ga]? = some (.cells (cells12 (act1 X s)) 36 (0, 0)) := (by rw [← cells_act1 X s]; exact C2); obtain ⟨a1, ha1⟩ : ∃ a1, a1 = act1 X s := ⟨_, rfl⟩; rw [← ha1] at C2; have A2 := Box.of C2; have R2 : Box w2 r z36 := ⟨(K2.block r (by omega) (by omega) (by omega)).trans R1.out⟩; have B2 := K2.below B1.out hg (by omega); have K3 := K1.out.trans K2; have T2' : w2.heap[g]? = _ := T2; have t1 : w2.cell? ⟨g, 1, none⟩ = some (.bool bk) := (by simp [World.cell?, T2']); have h3 := three' bk a1.f0; have sz2 := K2.size; obtain ⟨c0, c1, c2, c3, c4, c5, c6, c7, c8, c9, c10, c11⟩ := A2.cells; obtain ⟨r0, r1, r2, r3, r4, r5, r6, r7, r8, r9, r10, r11⟩ := R2.cells; have hz : ∀ j, w2.frozen? ⟨r, j, none⟩ = false := (fun j => by simp [World.frozen?, R2.out]); have z0 : w2.frozen? ⟨r, 0, none⟩ = false := hz 0; have z1 : w2.frozen? ⟨r, 1, none⟩ = false := hz 1; have z2 : w2.frozen? ⟨r, 2, none⟩ = false := hz 2; have z3 : w2.frozen? ⟨r, 3, none⟩ = false := hz 3; have z4 : w2.frozen? ⟨r, 4, none⟩ = false := hz 4; have z5 : w2.frozen? ⟨r, 5, none⟩ = false := hz 5; have z6 : w2.frozen? ⟨r, 6, none⟩ = false := hz 6; have z7 : w2.frozen? ⟨r, 7, none⟩ = false := hz 7; have z8 : w2.frozen? ⟨r, 8, none⟩ = false := hz 8; have z9 : w2.frozen? ⟨r, 9, none⟩ = false := hz 9; have z10 : w2.frozen? ⟨r, 10, none⟩ = false := hz 10; have z11 : w2.frozen? ⟨r, 11, none⟩ = false := hz 11; have SS := (R2.put12 a1).cells; unfold stored at SS; obtain ⟨s0, s1, s2, s3, s4, s5, s6, s7, s8, s9, s10, s11⟩ := SS; clear hz T2'; replace ha1 := Aside0.mk ha1; replace T2 := Aside0.mk T2; replace A2 := Aside0.mk A2; replace R2 := Aside0.mk R2; replace B2 := Aside0.mk B2; replace K3 := Aside0.mk K3; replace hat := Aside0.mk hat; replace C2 := Aside0.mk C2; clear K2 hin hss; rcases h3 with rfl | ⟨rfl, d7⟩ | ⟨rfl, d7⟩)
    | (go_at_call 19; (with_reducible refine (times_calls _ ga).mono ?_); rintro e w3 ⟨gx3, rfl, hR3, hgx3, hb3⟩; clear c0 r0 z0 s0 c1 r1 z1 s1 c2 r2 z2 s2 c3 r3 z3 s3 c4 r4 z4 s4 c5 r5 z5 s5 c6 r6 z6 s6 c7 r7 z7 s7 c8 r8 z8 s8 c9 r9 z9 s9 c10 r10 z10 s10 c11 r11 z11 s11 t1; have T3 : Taker w3 g rk false := (hb3.block g (by omega)).trans T2.out; have C3 := (hb3.block ga (by omega)).trans C2.out; have R3 := (hb3.block r (by omega)).trans R2.out.out; have B3 := below_step B2.out hb3 B2.out.size; have K4 := K3.out.trans (Kept2.of_below hb3); have sz3 := hb3.size; replace hR3 : w3.heap[gx3]? = some (.cells #[.pointer (some ⟨ga, offs5 0, none⟩), .pointer (some ⟨ga, offs5 1, none⟩), .pointer (some ⟨ga, offs5 2, none⟩), .pointer (some ⟨ga, offs5 3, none⟩), .pointer (some ⟨ga, offs5 4, none⟩)] 73 (0, 0)) := hR3; replace hR3 := Aside0.mk hR3; replace T3 := Aside0.mk T3; replace C3 := Aside0.mk C3; replace R3 := Aside0.mk R3; replace B3 := Aside0.mk B3; replace K4 := Aside0.mk K4; clear hb3 T2 A2 R2 B2 K3 C2)
    | (go_at_call 36; (with_reducible refine (takeRow_calls g ga gx3 offs5 7 (cells12 a1) rk false hv.out B3.out hg (by omega) (by omega) (by omega) (by omega) T3.out (by omega) C3.out rfl offs_lt (by omega) hR3.out).mono ?_); rintro e w4 ⟨rfl, Y, u, rk2, bk2, T4, hle2, hin2, K5, C4, hss2, hat2⟩; replace C4 : w4.heap[ga]? = some (.cells (cells12 (act2 a1 Y u)) 36 (0, 0)) := (by rw [← cells_act2 a1 Y u]; exact C4); obtain ⟨a2, ha2⟩ : ∃ a2, a2 = act2 a1 Y u := ⟨_, rfl⟩; rw [← ha2] at C4; have A4 := Box.of C4; have R4 : Box w4 r z36 := ⟨(K5.block r (by omega) (by omega) (by omega)).trans R3.out⟩; have K6 := K4.out.trans K5; obtain ⟨c0, c1, c2, c3, c4, c5, c6, c7, c8, c9, c10, c11⟩ := A4.cells; obtain ⟨r0, r1, r2, r3, r4, r5, r6, r7, r8, r9, r10, r11⟩ := R4.cells; have hz : ∀ j, w4.frozen? ⟨r, j, none⟩ = false := (fun j => by simp [World.frozen?, R4.out]); have z0 : w4.frozen? ⟨r, 0, none⟩ = false := hz 0; have z1 : w4.frozen? ⟨r, 1, none⟩ = false := hz 1; have z2 : w4.frozen? ⟨r, 2, none⟩ = false := hz 2; have z3 : w4.frozen? ⟨r, 3, none⟩ = false := hz 3; have z4 : w4.frozen? ⟨r, 4, none⟩ = false := hz 4; have z5 : w4.frozen? ⟨r, 5, none⟩ = false := hz 5; have z6 : w4.frozen? ⟨r, 6, none⟩ = false := hz 6; have z7 : w4.frozen? ⟨r, 7, none⟩ = false := hz 7; have z8 : w4.frozen? ⟨r, 8, none⟩ = false := hz 8; have z9 : w4.frozen? ⟨r, 9, none⟩ = false := hz 9; have z10 : w4.frozen? ⟨r, 10, none⟩ = false := hz 10; have z11 : w4.frozen? ⟨r, 11, none⟩ = false := hz 11; have SS := (R4.put12 a2).cells; unfold stored at SS; obtain ⟨s0, s1, s2, s3, s4, s5, s6, s7, s8, s9, s10, s11⟩ := SS; clear hz; replace ha2 := Aside0.mk ha2; replace T4 := Aside0.mk T4; replace K6 := Aside0.mk K6; replace hat2 := Aside0.mk hat2; clear K5 hin2 hss2 A4 R4 C4 T3 C3 R3 B3 K4))
  · obtain ⟨e1, e2⟩ := act_end K3.out l1 l4 (by omega) T2.out a1
    refine bodyPost_ret (v := val36 a1) (by simp [results, Tryd.results21, go_sem, s0, s1, s2, s3, s4, s5, s6, s7, s8, s9, s10, s11, val36]) rfl ⟨a1, rk, true, rfl, ⟨hle, fun hb c q hm hr => ?_⟩, e1, e2⟩
    obtain ⟨f1, f2, f3, f4⟩ := hat.out hb (nums5 c) c.f5 _ (small_nums hm) (hr.trans (tell_row c q))
    cases f1
  · obtain ⟨e1, e2⟩ := act_end K3.out l1 l4 (by omega) T2.out a1
    refine bodyPost_ret (v := val36 a1) (by simp [results, Tryd.results21, go_sem, s0, s1, s2, s3, s4, s5, s6, s7, s8, s9, s10, s11, val36]) rfl ⟨a1, rk, false, rfl, ⟨hle, fun hb c q hm hr => ?_⟩, e1, e2⟩
    obtain ⟨f1, f2, f3, f4⟩ := hat.out hb (nums5 c) c.f5 _ (small_nums hm) (hr.trans (tell_row c q))
    have h7 : c.f0 ≠ 7 := fun e => by
      rw [ha1.out] at d7
      have : (act1 X s).f0 = 7 := (f2 0 (by omega)).trans e
      rw [this] at d7
      cases d7
    rw [if_neg h7] at f4
    exact ⟨ha1.out.trans (act_of1 f2 f3 (no_key hm h7)), rfl, f4⟩
  · obtain ⟨e1, e2⟩ := act_end K6.out l1 l4 (by omega) T4.out a2
    refine bodyPost_ret (v := val36 a2) (by simp [results, Tryd.results21, go_sem, s0, s1, s2, s3, s4, s5, s6, s7, s8, s9, s10, s11, val36]) rfl ⟨a2, rk2, bk2, rfl, ⟨Nat.le_trans hle2 hle, fun hb c q hm hr => ?_⟩, e1, e2⟩
    obtain ⟨f1, f2, f3, f4⟩ := hat.out hb (nums5 c) c.f5 _ (small_nums hm) (hr.trans (tell_row c q))
    have h7 : c.f0 = 7 := by
      rw [ha1.out] at d7
      exact (f2 0 (by omega)).symm.trans (beq_iff_eq.1 d7)
    rw [if_pos h7] at f4
    obtain ⟨y1, y2, y3, y4⟩ := hat2.out (by simp) (keys5 c.f6) c.f6.f1 q (small_keys hm h7) f4
    exact ⟨by rw [ha2.out, ha1.out]; exact act_of2 f2 f3 y2 y3, y1, y4⟩

end Go.Proofs.YtdpbklckeamjpaaDoor.Scr
