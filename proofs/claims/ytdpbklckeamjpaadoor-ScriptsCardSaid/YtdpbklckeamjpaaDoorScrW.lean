/- The document's ShowActs, step by step. -/
import Derived.Test.YtdpbklckeamjpaaDoorDigits
import Derived.Test.YtdpbklckeamjpaaDoorScrD
import Derived.Test.YtdpbklckeamjpaaDoorScrR
namespace Go.Proofs.YtdpbklckeamjpaaDoor.Scr
open Go.RowKit Go.Proofs.YtdpbklckeamjpaaDoorW.PrintWords Go.Proofs.YtdpbklckeamjpaaDoorW.PrintLast Go.Proofs.YtdpbklckeamjpaaDoorW.PrintMore Go.Proofs.YtdpbklckeamjpaaDoor.PScripts

theorem actMay_box (a : S36) (w : World) : Calls Tryd.prog 16 #[.agg #[.int .i64 a.f0, .int .i64 a.f1, .int .i64 a.f2, .int .i64 a.f3, .int .i64 a.f4, .string a.f5, .int .i64 a.f6.f0, .string a.f6.f1, .int .i64 a.f6.f2, .int .i64 a.f6.f3, .int .i64 a.f6.f4, .int .i64 a.f6.f5]] w fun e w' => e = .returned (.bool (mayB a)) ∧ Below w.heap.size w w' := by
  rw [← may_same]
  exact actMay_calls a w
/-- A key in a variable: block b. -/
structure KBox (W : World) (b : Nat) (k : S34) : Prop where mk :: (out : W.heap[b]? = some (.cells #[.int .i64 k.f0, .string k.f1, .int .i64 k.f2, .int .i64 k.f3, .int .i64 k.f4, .int .i64 k.f5] 34 (0, 0)))
theorem KBox.cell {W : World} {b : Nat} {k : S34} (h : KBox W b k) (j : Nat) : W.cell? ⟨b, j, none⟩ = (#[.int .i64 k.f0, .string k.f1, .int .i64 k.f2, .int .i64 k.f3, .int .i64 k.f4, .int .i64 k.f5] : Array Value)[j]? := by
  simp [World.cell?, h.out]
theorem KBox.lt {W : World} {b : Nat} {k : S34} (h : KBox W b k) : b < W.heap.size := (Array.getElem?_eq_some_iff.1 h.out).1
theorem KBox.below {W W' : World} {b : Nat} {k : S34} (h : KBox W b k) (hb : Below W.heap.size W W') : KBox W' b k := ⟨(hb.block b h.lt).trans h.out⟩
def KeyIn (w : World) (b : Nat) (k : S34) (W : World) : Prop := KBox W b k ∧ Below w.heap.size w W
theorem Cl.key {w : World} {b : Nat} {k : S34} {x : Cl (KeyIn w b k)} {f : FuncId} {args : Array Value} {v : Value} (h : Calls Tryd.prog f args x.W fun e w' => e = .returned v ∧ Below x.W.heap.size x.W w') :
    Calls Tryd.prog f args x.W fun e w'' => e = .returned v ∧ ∃ y : Cl (KeyIn w b k), w'' = y.W :=
  h.mono fun _ w' ⟨h1, h2⟩ => ⟨h1, ⟨w', x.h.1.below h2, below_step x.h.2 h2 x.h.2.size⟩, rfl⟩

/-- A row told behind s. -/
def rowB (s : ByteArray) (X : Nat → Int) (t : ByteArray) : ByteArray := s ++ decB (X 0) ++ decB (X 1) ++ decB (X 2) ++ decB (X 3) ++ decB (X 4) ++ itoaB t.size ++ ⟨#[58]⟩ ++ t
theorem rowB_list (s : ByteArray) (X : Nat → Int) (t : ByteArray) : (rowB s X t).data.toList = s.data.toList ++ rowT X t := by
  unfold rowB rowT decB itoaB numsT
  simp [ByteArray.data_append, List.range_succ]
/-- What holds at a round's head. -/
def RefAt (W : World) (ac : List S36) (gk : Nat) (s i : Value) (wr : World) : Prop :=
  ∃ k : Nat, i = .int .i64 k ∧ k + gk = ac.length ∧ (∀ a, a ∈ ac.take k → mayB a = true) ∧ (∃ t : ByteArray, s = .string t ∧ t.data.toList = tellT (ac.take k)) ∧ Below W.heap.size W wr
theorem decB_size (x : Int) (h0 : 0 ≤ x) (h1 : x ≤ 1048576) : (decB x).size ≤ 22 := by
  have := itoaB_len x h0 h1
  unfold decB
  rw [ByteArray.size_append]
  have e : (⟨#[32]⟩ : ByteArray).size = 1 := rfl
  omega

/-- The row of an act's own numbers, in the program's region: what one region needs. -/
theorem text_of {t : ByteArray} {l : List UInt8} (h : t.data.toList = l) : t = ⟨l.toArray⟩ := by rw [← h]

set_option maxHeartbeats 8000000 in
set_option maxRecDepth 100000 in
theorem refShow_walk (W : World) (A : Option Addr) (ac : List S36) (cap : Nat) (hC : Kd.C k36 W A ac.length ac) (hl : ac.length ≤ 256) :
    Calls Tryd.prog 14 #[.slice A ac.length cap] W fun e W' => e = .returned (.tuple #[.string (showF ac).1, .int .i64 (showF ac).2]) ∧ Below W.heap.size W W' := by
  have d0 : decide ((256 : Int) < (ac.length : Int)) = false := decide_eq_false (by omega)
  replace hC := Aside0.mk hC
  go_enter Tryd.func14, Tryd.ntmps14
  go_wp2_with fail
  go_loopg [4, 5] ac.length (fun gk s i wr => RefAt W ac gk s i wr)
  case atStart => exact ⟨0, rfl, by omega, fun _ h => absurd h List.not_mem_nil, ⟨⟨#[]⟩, rfl, rfl⟩, Below.refl _ _⟩
  case round =>
    obtain ⟨k, rfl, hk, hM, ⟨s, rfl, hs⟩, hB⟩ := hrel
    replace hs := Aside0.mk hs
    by_cases hlt : k < ac.length
    · have d1 : decide ((k : Int) < (ac.length : Int)) = true := decide_eq_true (by omega)
      have k0 : (0 : Int) ≤ (k : Int) := by omega
      have k1 : (k : Int) < (ac.length : Int) := by omega
      have kw : IntKind.i64.wrap ((k : Int) + 1) = ((k + 1 : Nat) : Int) := by rw [IntKind.wrap_i64]; omega
      obtain ⟨gk', rfl⟩ : ∃ gk', gk = gk' + 1 := ⟨gk - 1, by omega⟩
      obtain ⟨ad, rfl, c0, c1, c2, c3, c4, c5, c6, c7, c8, c9, c10, c11⟩ := at_T36 (Kd.C_below hC.out hB) (k : Int) k0 k1
      rw [Int.toNat_natCast] at c0 c1 c2 c3 c4 c5 c6 c7 c8 c9 c10 c11
      have htake : ac.take (k + 1) = ac.take k ++ [rd_T36 ac k] := by
        rw [List.take_succ_eq_append_getElem hlt]
        simp [rd_T36, hlt]
      generalize rd_T36 ac (k : Int) = a at *
      replace hM := Aside0.mk hM
      replace hB := Aside0.mk hB
      replace htake := Aside0.mk htake
      by_cases hm : mayB a = true
      · go_wp2_with (go_at_call 16; (with_reducible refine (actMay_box a _).mono ?_); rintro e w1 ⟨rfl, hb1⟩)
        have hX : Aside0 (MayIn W wr.heap.size a w1.drew) := ⟨((Box.new wr a).below hb1).below (below_drew (Below.refl _ _)), below_drew (below_step (below_alloc hB.out _) hb1 (below_alloc hB.out _).size)⟩
        have hsz : s.size ≤ 900000 := by
          have h1 := tellT_length hM.out
          rw [List.length_take, ← hs.out] at h1
          have e : s.size = s.data.toList.length := Array.length_toList.symm
          omega
        have hM2 : Aside0 (∀ x, x ∈ ac.take (k + 1) → mayB x = true) := ⟨fun x hx => by
          rw [htake.out] at hx
          rcases List.mem_append.1 hx with h | h
          · exact hM.out x h
          · rw [List.mem_singleton.1 h]
            exact hm⟩
        have htk : Aside0 (tellT (ac.take (k + 1)) = tellT (ac.take k) ++ tell1 a) := ⟨by rw [htake.out, tellT_snoc]⟩
        obtain ⟨hb0, hb5, hb6⟩ := may_bounds hm
        clear hb1 c0 c1 c2 c3 c4 c5 c6 c7 c8 c9 c10 c11 hB
        generalize wr.heap.size = ga at *
        have x0 : ∀ x : Cl (MayIn W ga a), x.W.cell? ⟨ga, 0, none⟩ = some (.int .i64 a.f0) := fun x => (x.h.1.cell 0).trans rfl
        have x1 : ∀ x : Cl (MayIn W ga a), x.W.cell? ⟨ga, 1, none⟩ = some (.int .i64 a.f1) := fun x => (x.h.1.cell 1).trans rfl
        have x2 : ∀ x : Cl (MayIn W ga a), x.W.cell? ⟨ga, 2, none⟩ = some (.int .i64 a.f2) := fun x => (x.h.1.cell 2).trans rfl
        have x3 : ∀ x : Cl (MayIn W ga a), x.W.cell? ⟨ga, 3, none⟩ = some (.int .i64 a.f3) := fun x => (x.h.1.cell 3).trans rfl
        have x4 : ∀ x : Cl (MayIn W ga a), x.W.cell? ⟨ga, 4, none⟩ = some (.int .i64 a.f4) := fun x => (x.h.1.cell 4).trans rfl
        have x5 : ∀ x : Cl (MayIn W ga a), x.W.cell? ⟨ga, 5, none⟩ = some (.string a.f5) := fun x => (x.h.1.cell 5).trans rfl
        have hne : Nonempty (Cl (MayIn W ga a)) := ⟨⟨_, hX.out⟩⟩
        have a0 : 0 ≤ a.f0 ∧ a.f0 ≤ 65535 := hb0 0 (by omega)
        have a1 : 0 ≤ a.f1 ∧ a.f1 ≤ 65535 := hb0 1 (by omega)
        have a2 : 0 ≤ a.f2 ∧ a.f2 ≤ 65535 := hb0 2 (by omega)
        have a3 : 0 ≤ a.f3 ∧ a.f3 ≤ 65535 := hb0 3 (by omega)
        have a4 : 0 ≤ a.f4 ∧ a.f4 ≤ 65535 := hb0 4 (by omega)
        have g0 := fun w => dec_calls a.f0 a0.1 (by omega) w
        have g1 := fun w => dec_calls a.f1 a1.1 (by omega) w
        have g2 := fun w => dec_calls a.f2 a2.1 (by omega) w
        have g3 := fun w => dec_calls a.f3 a3.1 (by omega) w
        have g4 := fun w => dec_calls a.f4 a4.1 (by omega) w
        have g5 := fun w => decimal_calls (a.f5.size : Int) (by omega) (by omega) w
        have s0 := decB_size a.f0 a0.1 (by omega)
        have s1 := decB_size a.f1 a1.1 (by omega)
        have s2 := decB_size a.f2 a2.1 (by omega)
        have s3 := decB_size a.f3 a3.1 (by omega)
        have s4 := decB_size a.f4 a4.1 (by omega)
        have s5 := itoaB_len (a.f5.size : Int) (by omega) (by omega)
        obtain ⟨d0_, e0⟩ : ∃ d, d = decB a.f0 := ⟨_, rfl⟩
        obtain ⟨d1_, e1⟩ : ∃ d, d = decB a.f1 := ⟨_, rfl⟩
        obtain ⟨d2_, e2⟩ : ∃ d, d = decB a.f2 := ⟨_, rfl⟩
        obtain ⟨d3_, e3⟩ : ∃ d, d = decB a.f3 := ⟨_, rfl⟩
        obtain ⟨d4_, e4⟩ : ∃ d, d = decB a.f4 := ⟨_, rfl⟩
        obtain ⟨d5_, e5⟩ : ∃ d, d = itoaB (a.f5.size : Int) := ⟨_, rfl⟩
        rw [← e0] at g0 s0
        rw [← e1] at g1 s1
        rw [← e2] at g2 s2
        rw [← e3] at g3 s3
        rw [← e4] at g4 s4
        rw [← e5] at g5 s5
        have u0 : (9223372036854775807 < s.size + d0_.size) = False := eq_false (by omega)
        have u1 : (9223372036854775807 < s.size + d0_.size + d1_.size) = False := eq_false (by omega)
        have u2 : (9223372036854775807 < s.size + d0_.size + d1_.size + d2_.size) = False := eq_false (by omega)
        have u3 : (9223372036854775807 < s.size + d0_.size + d1_.size + d2_.size + d3_.size) = False := eq_false (by omega)
        have u4 : (9223372036854775807 < s.size + d0_.size + d1_.size + d2_.size + d3_.size + d4_.size) = False := eq_false (by omega)
        have u5 : (9223372036854775807 < s.size + d0_.size + d1_.size + d2_.size + d3_.size + d4_.size + d5_.size) = False := eq_false (by omega)
        have u6 : (9223372036854775807 < s.size + d0_.size + d1_.size + d2_.size + d3_.size + d4_.size + d5_.size + 1) = False := eq_false (by omega)
        have u7 : (9223372036854775807 < s.size + d0_.size + d1_.size + d2_.size + d3_.size + d4_.size + d5_.size + 1 + a.f5.size) = False := eq_false (by omega)
        have hnew : Aside0 ((s ++ d0_ ++ d1_ ++ d2_ ++ d3_ ++ d4_ ++ d5_ ++ ⟨#[58]⟩ ++ a.f5).data.toList = tellT (ac.take k) ++ rowT (nums5 a) a.f5) := ⟨by
          rw [e0, e1, e2, e3, e4, e5, ← hs.out]
          exact rowB_list s (nums5 a) a.f5⟩
        replace g0 := Aside0.mk g0
        replace g1 := Aside0.mk g1
        replace g2 := Aside0.mk g2
        replace g3 := Aside0.mk g3
        replace g4 := Aside0.mk g4
        replace g5 := Aside0.mk g5
        have hsz2 : Aside0 ((s ++ d0_ ++ d1_ ++ d2_ ++ d3_ ++ d4_ ++ d5_ ++ ⟨#[58]⟩ ++ a.f5).size ≤ 910000) := ⟨by
          have e : (⟨#[58]⟩ : ByteArray).size = 1 := rfl
          simp only [ByteArray.size_append]
          omega⟩
        replace hm := Aside0.mk hm
        replace hb6 := Aside0.mk hb6
        clear e0 e1 e2 e3 e4 e5 s0 s1 s2 s3 s4 s5 a0 a1 a2 a3 a4 hb0 hb5
        refine region_cl (p := MayIn W ga a) (by kernel_rfl) (by kernel_rfl) hX.out ?_
        repeat (go_big_quiet_step (first
            | (go_at_call 27; first | with_reducible exact Cl.may (g0.out _) | with_reducible exact Cl.may (g1.out _) | with_reducible exact Cl.may (g2.out _) | with_reducible exact Cl.may (g3.out _) | with_reducible exact Cl.may (g4.out _))
            | (go_at_call 28; with_reducible exact Cl.may (g5.out _))))
        refine wpQuiet_nil ?_
        intro wy hw'
        obtain ⟨⟨w9, hy⟩, h9⟩ := hw'
        obtain rfl : wy = w9 := h9
        clear g0 g1 g2 g3 g4 g5 x0 x1 x2 x3 x4 x5 u0 u1 u2 u3 u4 u5 u6 u7 hX hne hs
        generalize s ++ d0_ ++ d1_ ++ d2_ ++ d3_ ++ d4_ ++ d5_ ++ ⟨#[58]⟩ ++ a.f5 = s2 at *
        have z0 : wy.cell? ⟨ga, 0, none⟩ = some (.int .i64 a.f0) := (hy.1.cell 0).trans rfl
        by_cases h7 : a.f0 = 7
        · have d7 : (a.f0 == 7) = true := beq_iff_eq.mpr h7
          obtain ⟨hk0, hk1⟩ := hb6.out h7
          have hT5 : Aside0 (tellT (ac.take k) ++ rowT (nums5 a) a.f5 ++ rowT (keys5 a.f6) a.f6.f1 = tellT (ac.take (k + 1))) := ⟨by rw [htk.out]; unfold tell1; rw [if_pos h7, List.append_assoc]⟩
          replace h7 := Aside0.mk h7
          have hyB := Aside0.mk hy
          have ⟨v0, v1, v2, v3, v4, v5, v6, v7, v8, v9, v10, v11⟩ := hy.1.cells
          clear hy z0 v0 v1 v2 v3 v4 v5
          have v0 : wy.cell? ⟨ga, 0, none⟩ = some (.int .i64 a.f0) := (hyB.out.1.cell 0).trans rfl
          go_wp2_with fail
          have hX : Aside0 (KeyIn W wy.heap.size a.f6 (wy.alloc (.cells #[.int .i64 a.f6.f0, .string a.f6.f1, .int .i64 a.f6.f2, .int .i64 a.f6.f3, .int .i64 a.f6.f4, .int .i64 a.f6.f5] 34)).drew) := ⟨⟨heap_alloc_new wy _⟩, below_drew (below_alloc hyB.out.2 _)⟩
          clear v0 v6 v7 v8 v9 v10 v11 hyB
          generalize wy.heap.size = gq at *
          generalize a.f6 = q at *
          have x0 : ∀ x : Cl (KeyIn W gq q), x.W.cell? ⟨gq, 0, none⟩ = some (.int .i64 q.f0) := fun x => (x.h.1.cell 0).trans rfl
          have x1 : ∀ x : Cl (KeyIn W gq q), x.W.cell? ⟨gq, 1, none⟩ = some (.string q.f1) := fun x => (x.h.1.cell 1).trans rfl
          have x2 : ∀ x : Cl (KeyIn W gq q), x.W.cell? ⟨gq, 2, none⟩ = some (.int .i64 q.f2) := fun x => (x.h.1.cell 2).trans rfl
          have x3 : ∀ x : Cl (KeyIn W gq q), x.W.cell? ⟨gq, 3, none⟩ = some (.int .i64 q.f3) := fun x => (x.h.1.cell 3).trans rfl
          have x4 : ∀ x : Cl (KeyIn W gq q), x.W.cell? ⟨gq, 4, none⟩ = some (.int .i64 q.f4) := fun x => (x.h.1.cell 4).trans rfl
          have x5 : ∀ x : Cl (KeyIn W gq q), x.W.cell? ⟨gq, 5, none⟩ = some (.int .i64 q.f5) := fun x => (x.h.1.cell 5).trans rfl
          have hne : Nonempty (Cl (KeyIn W gq q)) := ⟨⟨_, hX.out⟩⟩
          have a0 : 0 ≤ q.f0 ∧ q.f0 ≤ 1048576 := hk0 0 (by omega)
          have a1 : 0 ≤ q.f2 ∧ q.f2 ≤ 1048576 := hk0 1 (by omega)
          have a2 : 0 ≤ q.f3 ∧ q.f3 ≤ 1048576 := hk0 2 (by omega)
          have a3 : 0 ≤ q.f4 ∧ q.f4 ≤ 1048576 := hk0 3 (by omega)
          have a4 : 0 ≤ q.f5 ∧ q.f5 ≤ 1048576 := hk0 4 (by omega)
          have g0 := fun w => dec_calls q.f0 a0.1 a0.2 w
          have g1 := fun w => dec_calls q.f2 a1.1 a1.2 w
          have g2 := fun w => dec_calls q.f3 a2.1 a2.2 w
          have g3 := fun w => dec_calls q.f4 a3.1 a3.2 w
          have g4 := fun w => dec_calls q.f5 a4.1 a4.2 w
          have g5 := fun w => decimal_calls (q.f1.size : Int) (by omega) (by omega) w
          have s0 := decB_size q.f0 a0.1 a0.2
          have s1 := decB_size q.f2 a1.1 a1.2
          have s3 := decB_size q.f4 a3.1 a3.2
          have s4 := decB_size q.f5 a4.1 a4.2
          have s2_ := decB_size q.f3 a2.1 a2.2
          have s5 := itoaB_len (q.f1.size : Int) (by omega) (by omega)
          obtain ⟨d0_, e0⟩ : ∃ d, d = decB q.f0 := ⟨_, rfl⟩
          obtain ⟨d1_, e1⟩ : ∃ d, d = decB q.f2 := ⟨_, rfl⟩
          obtain ⟨d2_, e2⟩ : ∃ d, d = decB q.f3 := ⟨_, rfl⟩
          obtain ⟨d3_, e3⟩ : ∃ d, d = decB q.f4 := ⟨_, rfl⟩
          obtain ⟨d4_, e4⟩ : ∃ d, d = decB q.f5 := ⟨_, rfl⟩
          obtain ⟨d5_, e5⟩ : ∃ d, d = itoaB (q.f1.size : Int) := ⟨_, rfl⟩
          rw [← e0] at g0 s0
          rw [← e1] at g1 s1
          rw [← e2] at g2 s2_
          rw [← e3] at g3 s3
          rw [← e4] at g4 s4
          rw [← e5] at g5 s5
          have hszz := hsz2.out
          have u0 : (9223372036854775807 < s2.size + d0_.size) = False := eq_false (by omega)
          have u1 : (9223372036854775807 < s2.size + d0_.size + d1_.size) = False := eq_false (by omega)
          have u2 : (9223372036854775807 < s2.size + d0_.size + d1_.size + d2_.size) = False := eq_false (by omega)
          have u3 : (9223372036854775807 < s2.size + d0_.size + d1_.size + d2_.size + d3_.size) = False := eq_false (by omega)
          have u4 : (9223372036854775807 < s2.size + d0_.size + d1_.size + d2_.size + d3_.size + d4_.size) = False := eq_false (by omega)
          have u5 : (9223372036854775807 < s2.size + d0_.size + d1_.size + d2_.size + d3_.size + d4_.size + d5_.size) = False := eq_false (by omega)
          have u6 : (9223372036854775807 < s2.size + d0_.size + d1_.size + d2_.size + d3_.size + d4_.size + d5_.size + 1) = False := eq_false (by omega)
          have u7 : (9223372036854775807 < s2.size + d0_.size + d1_.size + d2_.size + d3_.size + d4_.size + d5_.size + 1 + q.f1.size) = False := eq_false (by omega)
          have hnew2 : Aside0 ((s2 ++ d0_ ++ d1_ ++ d2_ ++ d3_ ++ d4_ ++ d5_ ++ ⟨#[58]⟩ ++ q.f1).data.toList = tellT (ac.take (k + 1))) := ⟨by
            rw [e0, e1, e2, e3, e4, e5, ← hT5.out, ← hnew.out]
            exact rowB_list s2 (keys5 q) q.f1⟩
          replace g0 := Aside0.mk g0
          replace g1 := Aside0.mk g1
          replace g2 := Aside0.mk g2
          replace g3 := Aside0.mk g3
          replace g4 := Aside0.mk g4
          replace g5 := Aside0.mk g5
          clear e0 e1 e2 e3 e4 e5 s0 s1 s2_ s3 s4 s5 a0 a1 a2 a3 a4 hk0 hk1 hszz hsz2
          refine region_cl (p := KeyIn W gq q) (by kernel_rfl) (by kernel_rfl) hX.out ?_
          repeat (go_big_quiet_step (first
              | (go_at_call 27; first | with_reducible exact Cl.key (g0.out _) | with_reducible exact Cl.key (g1.out _) | with_reducible exact Cl.key (g2.out _) | with_reducible exact Cl.key (g3.out _) | with_reducible exact Cl.key (g4.out _))
              | (go_at_call 28; with_reducible exact Cl.key (g5.out _))))
          refine wpQuiet_nil ?_
          intro wz hw'
          obtain ⟨⟨w9, hz⟩, h9⟩ := hw'
          obtain rfl : wz = w9 := h9
          clear g0 g1 g2 g3 g4 g5 x0 x1 x2 x3 x4 x5 u0 u1 u2 u3 u4 u5 u6 u7 hX hne
          have hz2 := Aside0.mk hz.2
          clear hz
          go_wp2_with fail
          go_roundg gk'
          case measure => exact Nat.lt_succ_self _
          case rel => exact ⟨k + 1, rfl, by omega, hM2.out, ⟨_, rfl, hnew2.out⟩, hz2.out⟩
        · have d7 : (a.f0 == 7) = false := beq_eq_false_iff_ne.mpr h7
          have hT4 : Aside0 (s2.data.toList = tellT (ac.take (k + 1))) := ⟨by rw [htk.out, hnew.out]; unfold tell1; rw [if_neg h7, List.append_nil]⟩
          have hy2 := Aside0.mk hy.2
          replace h7 := Aside0.mk h7
          go_wp2_with fail
          go_roundg gk'
          case measure => exact Nat.lt_succ_self _
          case rel => exact ⟨k + 1, rfl, by omega, hM2.out, ⟨_, rfl, hT4.out⟩, hy2.out⟩
      · have hno : (showF ac) = (⟨#[]⟩, 2300) := showF_no (by
          unfold okB
          rw [Bool.and_eq_false_iff]
          refine .inr (Bool.eq_false_iff.2 fun h => hm (List.all_eq_true.1 h a ?_))
          have : a ∈ ac.take (k + 1) := by rw [htake.out]; simp
          exact List.mem_of_mem_take this)
        have hm2 : mayB a = false := Bool.eq_false_iff.2 hm
        replace hno := Aside0.mk hno
        clear hm
        go_wp2_with (go_at_call 16; (with_reducible refine (actMay_box a _).mono ?_); rintro e w1 ⟨rfl, hb1⟩; have hE := Aside0.mk (below_step (below_alloc hB.out _) hb1 (below_alloc hB.out _).size); clear hb1)
        go_ret2
        exact ⟨by rw [hno.out]; rfl, hE.out⟩
    · have d1 : decide ((k : Int) < (ac.length : Int)) = false := decide_eq_false (by omega)
      rw [List.take_of_length_le (by omega)] at hM hs
      have hyes : showF ac = (⟨(tellT ac).toArray⟩, 0) := showF_ok (by
        unfold okB
        rw [Bool.and_eq_true]
        exact ⟨decide_eq_true hl, List.all_eq_true.2 hM⟩)
      have hst := Aside0.mk (text_of hs.out)
      replace hyes := Aside0.mk hyes
      replace hB := Aside0.mk hB
      clear hM hs
      go_wp2_with fail
      go_ret2
      exact ⟨by rw [hyes.out, hst.out]; rfl, hB.out⟩

set_option maxHeartbeats 1000000 in
set_option maxRecDepth 100000 in
theorem refShow_long (W : World) (A : Option Addr) (n cap : Nat) (hl : 256 < n) :
    Calls Tryd.prog 14 #[.slice A n cap] W fun e W' => e = .returned (.tuple #[.string ⟨#[]⟩, .int .i64 2300]) ∧ Below W.heap.size W W' := by
  have d0 : decide ((256 : Int) < (n : Int)) = true := decide_eq_true (by omega)
  go_enter Tryd.func14, Tryd.ntmps14
  go_wp2_with fail
  go_ret2
  exact ⟨rfl, Below.refl _ _⟩

/-- ShowActs: what Show answers. -/
theorem refShow_calls (W : World) (A : Option Addr) (ac : List S36) (cap : Nat) (hC : Kd.C k36 W A ac.length ac) :
    Calls Tryd.prog 14 #[.slice A ac.length cap] W fun e W' => e = .returned (.tuple #[.string (showF ac).1, .int .i64 (showF ac).2]) ∧ Below W.heap.size W W' := by
  by_cases hl : ac.length ≤ 256
  · exact refShow_walk W A ac cap hC hl
  · rw [showF_no (show okB ac = false by unfold okB; rw [decide_eq_false hl]; rfl)]
    exact refShow_long W A ac.length cap (by omega)
end Go.Proofs.YtdpbklckeamjpaaDoor.Scr
