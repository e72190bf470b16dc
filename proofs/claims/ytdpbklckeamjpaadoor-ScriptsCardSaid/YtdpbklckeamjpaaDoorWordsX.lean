/- The document's words: num, text; what they read of an act; a round of ParseActs. -/
import Derived.Test.YtdpbklckeamjpaaDoorScrW
import Derived.BigQuiet
import Derived.BigRegion
import Derived.Deep.LoopGhost
namespace Go.Proofs.YtdpbklckeamjpaaDoor.Scr
section
open Go.RowKit Go.Proofs.YtdpbklckeamjpaaDoorW.PrintWords Go.Proofs.YtdpbklckeamjpaaDoorW.PrintLast Go.Proofs.YtdpbklckeamjpaaDoorW.PrintMore Go.Proofs.YtdpbklckeamjpaaDoor.PScripts

/-- Words at block g: what of s has been read, was it bad. -/
structure Words (W : World) (g : Nat) (s : ByteArray) (n : Nat) (bad : Bool) : Prop where mk :: (out : W.heap[g]? = some (.cells #[.string s, .int .i64 (n : Int), .bool bad] 68 (0, 0)))
theorem Words.cell {W : World} {g : Nat} {s : ByteArray} {n : Nat} {bad : Bool} (h : Words W g s n bad) (j : Nat) : W.cell? ⟨g, j, none⟩ = (#[.string s, .int .i64 (n : Int), .bool bad] : Array Value)[j]? := by
  simp [World.cell?, h.out]
theorem Words.cells {W : World} {g : Nat} {s : ByteArray} {n : Nat} {bad : Bool} (h : Words W g s n bad) : W.cell? ⟨g, 0, none⟩ = some (.string s) ∧ W.cell? ⟨g, 1, none⟩ = some (.int .i64 (n : Int)) ∧ W.cell? ⟨g, 2, none⟩ = some (.bool bad) :=
  ⟨(h.cell 0).trans rfl, (h.cell 1).trans rfl, (h.cell 2).trans rfl⟩
theorem Words.frozen {W : World} {g : Nat} {s : ByteArray} {n : Nat} {bad : Bool} (h : Words W g s n bad) (j : Nat) : W.frozen? ⟨g, j, none⟩ = false := by simp [World.frozen?, h.out]
theorem Words.lt {W : World} {g : Nat} {s : ByteArray} {n : Nat} {bad : Bool} (h : Words W g s n bad) : g < W.heap.size := (Array.getElem?_eq_some_iff.1 h.out).1
theorem Words.drew {W : World} {g : Nat} {s : ByteArray} {n : Nat} {bad : Bool} (h : Words W g s n bad) : Words W.drew g s n bad := ⟨h.out⟩
theorem Words.drewN {W : World} {g : Nat} {s : ByteArray} {n : Nat} {bad : Bool} (h : Words W g s n bad) (k : Nat) : Words (W.drewN k) g s n bad := ⟨h.out⟩
theorem Words.at_ {W : World} {g : Nat} {s : ByteArray} {n : Nat} {bad : Bool} (h : Words W g s n bad) (m : Nat) : Words (W.setCell ⟨g, 1, none⟩ (.int .i64 (m : Int))) g s m bad := by
  refine ⟨?_⟩
  have := setCell_heap W g 1 _ 68 (0, 0) (.int .i64 (m : Int)) h.out
  simpa using this
theorem Words.bad_ {W : World} {g : Nat} {s : ByteArray} {n : Nat} {bad : Bool} (h : Words W g s n bad) (b : Bool) : Words (W.setCell ⟨g, 2, none⟩ (.bool b)) g s n b := by
  refine ⟨?_⟩
  have := setCell_heap W g 2 _ 68 (0, 0) (.bool b) h.out
  simpa using this
/-- Nothing turned but block g. -/
structure Kept1 (g : Nat) (W W' : World) : Prop where
  os : W'.os = W.os
  tape : W'.tape = W.tape
  output : W'.output = W.output
  size : W.heap.size ≤ W'.heap.size
  block : ∀ k, k < W.heap.size → k ≠ g → W'.heap[k]? = W.heap[k]?
theorem Kept1.refl (g : Nat) (W : World) : Kept1 g W W := ⟨rfl, rfl, rfl, Nat.le_refl _, fun _ _ _ => rfl⟩
theorem Kept1.trans {g : Nat} {W W1 W2 : World} (h : Kept1 g W W1) (h2 : Kept1 g W1 W2) : Kept1 g W W2 :=
  ⟨h2.os.trans h.os, h2.tape.trans h.tape, h2.output.trans h.output, Nat.le_trans h.size h2.size, fun k hk h3 => (h2.block k (Nat.lt_of_lt_of_le hk h.size) h3).trans (h.block k hk h3)⟩
theorem Kept1.drewN {g : Nat} {W W1 : World} (h : Kept1 g W W1) (n : Nat) : Kept1 g W (W1.drewN n) := ⟨h.os, h.tape, h.output, h.size, h.block⟩
theorem Kept1.drew {g : Nat} {W W1 : World} (h : Kept1 g W W1) : Kept1 g W W1.drew := ⟨h.os, h.tape, h.output, h.size, h.block⟩
theorem Kept1.set {g : Nat} {W W1 : World} (h : Kept1 g W W1) (j : Nat) (v : Value) : Kept1 g W (W1.setCell ⟨g, j, none⟩ v) :=
  ⟨h.os, h.tape, h.output, by rw [size_set]; exact h.size, fun k hk hn => (Below.heap_setCell _ ⟨g, j, none⟩ _ k hn).trans (h.block k hk hn)⟩

/-- Digits, at most so many. -/
def scan : Nat → Nat → List UInt8 → Nat × Nat
  | 0, x, _ => (x, 0)
  | _ + 1, x, [] => (x, 0)
  | n + 1, x, c :: l => if 48 ≤ c.toNat ∧ c.toNat ≤ 57 then ((scan n (10 * x + (c.toNat - 48)) l).1, (scan n (10 * x + (c.toNat - 48)) l).2 + 1) else (x, 0)

/-- What holds at a round's head. -/
def ScanAt (W : World) (g : Nat) (s : ByteArray) (n0 : Nat) (bad : Bool) (gk : Nat) (x k : Value) (wr : World) : Prop :=
  ∃ v m : Nat, x = .int .i64 (v : Int) ∧ k = .int .i64 (m : Int) ∧ m + gk = 7 ∧ v < 10 ^ m ∧ scan 7 0 (s.data.toList.drop n0) = ((scan gk v (s.data.toList.drop (n0 + m))).1, (scan gk v (s.data.toList.drop (n0 + m))).2 + m) ∧ (m = 0 ∨ n0 + m ≤ s.size) ∧ Words wr g s (n0 + m) bad ∧ Kept1 g W wr

theorem scan_stop {n x : Nat} {c : UInt8} {l : List UInt8} (h : ¬ (48 ≤ c.toNat ∧ c.toNat ≤ 57)) : scan n x (c :: l) = (x, 0) := by
  cases n with
  | zero => rfl
  | succ n => simp only [scan]; rw [if_neg h]
theorem scan_nil (n x : Nat) : scan n x [] = (x, 0) := by cases n <;> rfl
theorem scan_go {n x : Nat} {c : UInt8} {l : List UInt8} (h : 48 ≤ c.toNat ∧ c.toNat ≤ 57) : scan (n + 1) x (c :: l) = ((scan n (10 * x + (c.toNat - 48)) l).1, (scan n (10 * x + (c.toNat - 48)) l).2 + 1) := by
  simp only [scan]
  rw [if_pos h]
theorem drop_at {s : ByteArray} {n : Nat} (h : n < s.size) : s.data.toList.drop n = s[n] :: s.data.toList.drop (n + 1) := by
  have h2 : n < s.data.toList.length := by rw [Array.length_toList]; exact h
  rw [List.drop_eq_getElem_cons h2]
  rfl
theorem drop_end {s : ByteArray} {n : Nat} (h : ¬ n < s.size) : s.data.toList.drop n = [] := List.drop_eq_nil_of_le (by rw [Array.length_toList]; exact Nat.le_of_not_lt h)
/-- What num leaves. -/
def NumW (W : World) (g : Nat) (s : ByteArray) (n0 : Nat) (bad : Bool) (e : Ending) (W' : World) : Prop :=
  ∃ p : Nat × Nat, p = scan 7 0 (s.data.toList.drop n0) ∧ e = .returned (.int .i64 (p.1 : Int)) ∧ Words W' g s (n0 + p.2 + 1) (bad || decide (s.size ≤ n0 + p.2)) ∧ Kept1 g W W'
theorem num_end {W w5 : World} {g : Nat} {s : ByteArray} {n0 n1 v m : Nat} {bad : Bool} (he : scan 7 0 (s.data.toList.drop n0) = (v, m)) (hn : n1 = n0 + m) (hT : Words w5 g s n1 bad) (hK : Kept1 g W w5) :
    NumW W g s n0 bad (.returned (.int .i64 (v : Int))) ((w5.setCell ⟨g, 2, none⟩ (.bool (bad || decide (s.size ≤ n1)))).setCell ⟨g, 1, none⟩ (.int .i64 ((n1 + 1 : Nat) : Int))).drew := by
  subst hn
  refine ⟨(v, m), he.symm, rfl, ?_, ((hK.set 2 _).set 1 _).drew⟩
  exact ((hT.bad_ _).at_ (n0 + m + 1)).drew

set_option maxHeartbeats 8000000 in
set_option maxRecDepth 100000 in
theorem num_walk (W : World) (g : Nat) (s : ByteArray) (n0 : Nat) (bad : Bool) (hW : Words W g s n0 bad) (hs : s.size ≤ 281474976710656) (hn : n0 ≤ s.size + 100) :
    Calls Tryd.prog 29 #[.pointer (some ⟨g, 0, none⟩)] W (NumW W g s n0 bad) := by
  go_enter Tryd.func29, Tryd.ntmps29
  go_wp2_with fail
  go_loopg [3, 4] 7 (fun gk x k wr => ScanAt W g s n0 bad gk x k wr)
  case atStart => exact ⟨0, 0, rfl, rfl, rfl, by decide, rfl, .inl rfl, hW, Kept1.refl _ _⟩
  case round =>
    obtain ⟨v, m, rfl, rfl, hm, hv, hsc, hle, hT, hK⟩ := hrel
    obtain ⟨n1, hn1⟩ : ∃ n1, n1 = n0 + m := ⟨_, rfl⟩
    rw [← hn1] at hsc hle hT
    obtain ⟨c0, c1, c2⟩ := hT.cells
    replace hsc := Aside0.mk hsc
    replace hT := Aside0.mk hT
    replace hK := Aside0.mk hK
    replace hle := Aside0.mk hle
    replace hv := Aside0.mk hv
    replace hn1 := Aside0.mk hn1
    by_cases h7 : m < 7
    · have d1 : decide ((m : Int) < 7) = true := decide_eq_true (by omega)
      obtain ⟨gk', rfl⟩ : ∃ gk', gk = gk' + 1 := ⟨gk - 1, by omega⟩
      by_cases hz : n1 < s.size
      · have d2 : decide ((n1 : Int) < (s.size : Int)) = true := decide_eq_true (by omega)
        obtain ⟨c, hc⟩ : ∃ c, (s[n1]'hz).toNat = c := ⟨_, rfl⟩
        by_cases h48 : 48 ≤ c
        · have d3 : decide ((48 : Int) ≤ (c : Int)) = true := decide_eq_true (by omega)
          by_cases h57 : c ≤ 57
          · have d4 : decide ((c : Int) ≤ 57) = true := decide_eq_true (by omega)
            have hgo := Aside0.mk (scan_go (n := gk') (x := v) (l := s.data.toList.drop (n1 + 1)) (show 48 ≤ (s[n1]'hz).toNat ∧ (s[n1]'hz).toNat ≤ 57 by rw [hc]; exact ⟨h48, h57⟩))
            have hv2 : v < 1000000 := Nat.lt_of_lt_of_le hv.out (Nat.pow_le_pow_right (by decide) (by omega : m ≤ 6))
            have t1 : IntKind.u8.wrap ((c : Int) - 48) = (c : Int) - 48 := by rw [IntKind.wrap_u8]; omega
            have t2 : IntKind.i64.wrap (10 * (v : Int)) = 10 * (v : Int) := by rw [IntKind.wrap_i64]; omega
            have t3 : IntKind.i64.wrap ((c : Int) - 48) = (c : Int) - 48 := by rw [IntKind.wrap_i64]; omega
            have t4 : IntKind.i64.wrap (10 * (v : Int) + ((c : Int) - 48)) = ((10 * v + (c - 48) : Nat) : Int) := by rw [IntKind.wrap_i64]; omega
            have kw : IntKind.i64.wrap ((m : Int) + 1) = ((m + 1 : Nat) : Int) := by rw [IntKind.wrap_i64]; omega
            have nw : IntKind.i64.wrap ((n1 : Int) + 1) = ((n1 + 1 : Nat) : Int) := by rw [IntKind.wrap_i64]; omega
            have hv3 : Aside0 (10 * v + (c - 48) < 10 ^ (m + 1)) := ⟨by have := hv.out; rw [Nat.pow_succ]; omega⟩
            go_wp2_with fail
            go_quiet (fail)
            have hT2 := hT.out.drewN nq
            have hK2 := Aside0.mk (hK.out.drewN nq)
            clear hT hK c0 c1 c2
            generalize wr.drewN nq = w5 at *
            obtain ⟨c0, c1, c2⟩ := hT2.cells
            replace hT2 := Aside0.mk hT2
            go_wp2_with fail
            go_quiet (fail)
            have hT3 := hT2.out.drewN nq
            have hK3 := Aside0.mk (hK2.out.drewN nq)
            clear hT2 hK2 c0 c1 c2
            generalize w5.drewN nq = w6 at *
            obtain ⟨c0, c1, c2⟩ := hT3.cells
            have f1 := hT3.frozen 1
            have hlt := hT3.lt
            replace hT3 := Aside0.mk hT3
            go_wp2_with fail
            go_roundg gk'
            case measure => exact Nat.lt_succ_self _
            case rel =>
              refine ⟨10 * v + (c - 48), m + 1, rfl, rfl, by omega, hv3.out, ?_, .inr ?_, ?_, hK3.out.set 1 _⟩
              · rw [hsc.out, drop_at hz, hgo.out, hc, show n0 + (m + 1) = n1 + 1 by have := hn1.out; omega]
                simp only [Nat.add_assoc, Nat.add_comm 1 m]
              · have := hn1.out; omega
              · rw [show n0 + (m + 1) = n1 + 1 by have := hn1.out; omega]
                exact hT3.out.at_ (n1 + 1)
          · have d4 : decide ((c : Int) ≤ 57) = false := decide_eq_false (by omega)
            have hfin : Aside0 (scan (gk' + 1) v (s.data.toList.drop n1) = (v, 0)) := ⟨by rw [drop_at hz]; exact scan_stop (by rw [hc]; omega)⟩
            go_wp2_with fail
            go_quiet (fail)
            go_wp2_with fail
            have hT2 := hT.out.drewN nq
            have hK2 := Aside0.mk (hK.out.drewN nq)
            clear hT hK c0 c1 c2
            generalize wr.drewN nq = w5 at *
            obtain ⟨c0, c1, c2⟩ := hT2.cells
            have f1 := hT2.frozen 1
            have f2 := hT2.frozen 2
            have hlt := hT2.lt
            replace hT2 := Aside0.mk hT2
            have hend : Aside0 (scan 7 0 (s.data.toList.drop n0) = (v, m)) := ⟨by rw [hsc.out, hfin.out, Nat.zero_add]⟩
            have kw : IntKind.i64.wrap ((n1 : Int) + 1) = ((n1 + 1 : Nat) : Int) := by rw [IntKind.wrap_i64]; have := hle.out; have := hn1.out; omega
            cases bad
            · go_region
              go_wp2_with fail
              go_ret
              have hh := num_end hend.out hn1.out hT2.out hK2.out
              exact hh
            · go_region
              go_wp2_with fail
              go_ret
              have hh := num_end hend.out hn1.out hT2.out hK2.out
              exact hh
        · have d3 : decide ((48 : Int) ≤ (c : Int)) = false := decide_eq_false (by omega)
          have hfin : Aside0 (scan (gk' + 1) v (s.data.toList.drop n1) = (v, 0)) := ⟨by rw [drop_at hz]; exact scan_stop (by rw [hc]; omega)⟩
          go_wp2_with fail
          go_quiet (fail)
          go_wp2_with fail
          have hT2 := hT.out.drewN nq
          have hK2 := Aside0.mk (hK.out.drewN nq)
          clear hT hK c0 c1 c2
          generalize wr.drewN nq = w5 at *
          obtain ⟨c0, c1, c2⟩ := hT2.cells
          have f1 := hT2.frozen 1
          have f2 := hT2.frozen 2
          have hlt := hT2.lt
          replace hT2 := Aside0.mk hT2
          have hend : Aside0 (scan 7 0 (s.data.toList.drop n0) = (v, m)) := ⟨by rw [hsc.out, hfin.out, Nat.zero_add]⟩
          have kw : IntKind.i64.wrap ((n1 : Int) + 1) = ((n1 + 1 : Nat) : Int) := by rw [IntKind.wrap_i64]; have := hle.out; have := hn1.out; omega
          cases bad
          · go_region
            go_wp2_with fail
            go_ret
            have hh := num_end hend.out hn1.out hT2.out hK2.out
            exact hh
          · go_region
            go_wp2_with fail
            go_ret
            have hh := num_end hend.out hn1.out hT2.out hK2.out
            exact hh
      · have d2 : decide ((n1 : Int) < (s.size : Int)) = false := decide_eq_false (by omega)
        have hfin : Aside0 (scan (gk' + 1) v (s.data.toList.drop n1) = (v, 0)) := ⟨by rw [drop_end hz]; exact scan_nil _ _⟩
        go_wp2_with fail
        go_quiet (fail)
        go_wp2_with fail
        have hT2 := hT.out.drewN nq
        have hK2 := Aside0.mk (hK.out.drewN nq)
        clear hT hK c0 c1 c2
        generalize wr.drewN nq = w5 at *
        obtain ⟨c0, c1, c2⟩ := hT2.cells
        have f1 := hT2.frozen 1
        have f2 := hT2.frozen 2
        have hlt := hT2.lt
        replace hT2 := Aside0.mk hT2
        have hend : Aside0 (scan 7 0 (s.data.toList.drop n0) = (v, m)) := ⟨by rw [hsc.out, hfin.out, Nat.zero_add]⟩
        have kw : IntKind.i64.wrap ((n1 : Int) + 1) = ((n1 + 1 : Nat) : Int) := by rw [IntKind.wrap_i64]; have := hle.out; have := hn1.out; omega
        cases bad
        · go_region
          go_wp2_with fail
          go_ret
          have hh := num_end hend.out hn1.out hT2.out hK2.out
          exact hh
        · go_region
          go_wp2_with fail
          go_ret
          have hh := num_end hend.out hn1.out hT2.out hK2.out
          exact hh
    · have d1 : decide ((m : Int) < 7) = false := decide_eq_false (by omega)
      obtain rfl : gk = 0 := by omega
      have hfin : Aside0 (scan 0 v (s.data.toList.drop n1) = (v, 0)) := ⟨rfl⟩
      by_cases hz : n1 < s.size
      · have d5 : decide ((s.size : Int) ≤ (n1 : Int)) = false := decide_eq_false (by omega)
        go_wp2_with fail
        go_quiet (fail)
        go_wp2_with fail
        have hT2 := hT.out.drewN nq
        have hK2 := Aside0.mk (hK.out.drewN nq)
        clear hT hK c0 c1 c2
        generalize wr.drewN nq = w5 at *
        obtain ⟨c0, c1, c2⟩ := hT2.cells
        have f1 := hT2.frozen 1
        have f2 := hT2.frozen 2
        have hlt := hT2.lt
        replace hT2 := Aside0.mk hT2
        have hend : Aside0 (scan 7 0 (s.data.toList.drop n0) = (v, m)) := ⟨by rw [hsc.out, hfin.out, Nat.zero_add]⟩
        have kw : IntKind.i64.wrap ((n1 : Int) + 1) = ((n1 + 1 : Nat) : Int) := by rw [IntKind.wrap_i64]; have := hle.out; have := hn1.out; omega
        cases bad
        · go_region
          go_wp2_with fail
          go_ret
          have hh := num_end hend.out hn1.out hT2.out hK2.out
          exact hh
        · go_region
          go_wp2_with fail
          go_ret
          have hh := num_end hend.out hn1.out hT2.out hK2.out
          exact hh
      · have d5 : decide ((s.size : Int) ≤ (n1 : Int)) = true := decide_eq_true (by omega)
        go_wp2_with fail
        go_quiet (fail)
        go_wp2_with fail
        have hT2 := hT.out.drewN nq
        have hK2 := Aside0.mk (hK.out.drewN nq)
        clear hT hK c0 c1 c2
        generalize wr.drewN nq = w5 at *
        obtain ⟨c0, c1, c2⟩ := hT2.cells
        have f1 := hT2.frozen 1
        have f2 := hT2.frozen 2
        have hlt := hT2.lt
        replace hT2 := Aside0.mk hT2
        have hend : Aside0 (scan 7 0 (s.data.toList.drop n0) = (v, m)) := ⟨by rw [hsc.out, hfin.out, Nat.zero_add]⟩
        have kw : IntKind.i64.wrap ((n1 : Int) + 1) = ((n1 + 1 : Nat) : Int) := by rw [IntKind.wrap_i64]; have := hle.out; have := hn1.out; omega
        cases bad
        · go_region
          go_wp2_with fail
          go_ret
          have hh := num_end hend.out hn1.out hT2.out hK2.out
          exact hh
        · go_region
          go_wp2_with fail
          go_ret
          have hh := num_end hend.out hn1.out hT2.out hK2.out
          exact hh
end

section
open Go.RowKit Go.Proofs.YtdpbklckeamjpaaDoorW.PrintWords Go.Proofs.YtdpbklckeamjpaaDoorW.PrintLast Go.Proofs.YtdpbklckeamjpaaDoorW.PrintMore Go.Proofs.YtdpbklckeamjpaaDoor.PScripts

theorem scan_lt : ∀ (n x k : Nat) (l : List UInt8), x < 10 ^ k → (scan n x l).1 < 10 ^ (k + n)
  | 0, x, k, l, h => by simpa [scan] using h
  | n + 1, x, k, [], h => by
    simp only [scan]
    exact Nat.lt_of_lt_of_le h (Nat.pow_le_pow_right (by decide) (by omega))
  | n + 1, x, k, c :: l, h => by
    by_cases hc : 48 ≤ c.toNat ∧ c.toNat ≤ 57
    · rw [scan_go hc]
      have h2 : 10 * x + (c.toNat - 48) < 10 ^ (k + 1) := by rw [Nat.pow_succ]; omega
      have h3 := scan_lt n _ (k + 1) l h2
      rw [show k + 1 + n = k + (n + 1) by omega] at h3
      exact h3
    · rw [scan_stop hc]
      exact Nat.lt_of_lt_of_le h (Nat.pow_le_pow_right (by decide) (by omega))
theorem scan_len : ∀ (n x : Nat) (l : List UInt8), (scan n x l).2 ≤ l.length
  | 0, x, l => by simp [scan]
  | n + 1, x, [] => by simp [scan]
  | n + 1, x, c :: l => by
    by_cases hc : 48 ≤ c.toNat ∧ c.toNat ≤ 57
    · rw [scan_go hc]
      have := scan_len n (10 * x + (c.toNat - 48)) l
      simp only [List.length_cons]
      omega
    · rw [scan_stop hc]
      simp
/-- What digits say. -/
def digV (x : Nat) (d : List UInt8) : Nat := d.foldl (fun x c => 10 * x + (c.toNat - 48)) x
theorem scan_app : ∀ (d : List UInt8) (n x : Nat) (c : UInt8) (q : List UInt8), (∀ y, y ∈ d → 48 ≤ y.toNat ∧ y.toNat ≤ 57) → ¬ (48 ≤ c.toNat ∧ c.toNat ≤ 57) → d.length ≤ n → scan n x (d ++ c :: q) = (digV x d, d.length)
  | [], n, x, c, q, _, hc, _ => by
    rw [List.nil_append, scan_stop hc]
    rfl
  | y :: d, n, x, c, q, h, hc, hn => by
    obtain ⟨n', rfl⟩ : ∃ n', n = n' + 1 := ⟨n - 1, by simp only [List.length_cons] at hn; omega⟩
    rw [List.cons_append, scan_go (h y (by simp)), scan_app d n' _ c q (fun z hz => h z (by simp [hz])) hc (by simp only [List.length_cons] at hn; omega)]
    rfl
theorem digV_app (x : Nat) (d e : List UInt8) : digV x (d ++ e) = digV (digV x d) e := by simp [digV, List.foldl_append]
theorem digV_dec (n : Nat) : digV 0 (Lib.decDigits n) = n := by
  induction n using Nat.strongRecOn with
  | _ n ih =>
    by_cases h : n < 10
    · rw [Lib.decDigits_one h]
      show 10 * 0 + ((UInt8.ofNat (48 + n)).toNat - 48) = n
      rw [digit_byte h]
      omega
    · rw [dec_split n h, digV_app, ih (n / 10) (by omega)]
      show 10 * (n / 10) + ((UInt8.ofNat (48 + n % 10)).toNat - 48) = n
      rw [digit_byte (by omega)]
      omega
theorem dec_len : ∀ (k n : Nat), 1 ≤ k → n < 10 ^ k → (Lib.decDigits n).length ≤ k
  | 0, n, h, _ => by omega
  | 1, n, _, h => by rw [Lib.decDigits_one (by omega)]; simp
  | k + 2, n, _, h => by
    by_cases h10 : n < 10
    · rw [Lib.decDigits_one h10]
      simp
    · rw [dec_split n h10, List.length_append]
      have h2 : n / 10 < 10 ^ (k + 1) := by
        rw [Nat.pow_succ] at h
        omega
      have := dec_len (k + 1) (n / 10) (by omega) h2
      simp only [List.length_cons, List.length_nil]
      omega
theorem scan_dec (n : Nat) (hn : n ≤ 9999999) (c : UInt8) (hc : ¬ (48 ≤ c.toNat ∧ c.toNat ≤ 57)) (q : List UInt8) : scan 7 0 (Lib.decDigits n ++ c :: q) = (n, (Lib.decDigits n).length) := by
  rw [scan_app _ 7 0 c q (dec_digits n) hc (dec_len 7 n (by decide) (by omega)), digV_dec]

/-- What num reads. -/
structure NumR (s : ByteArray) (n0 : Nat) (bad : Bool) (x n1 : Nat) (bad' : Bool) : Prop where
  x_le : x ≤ 9999999
  lt : n0 < n1
  up : n1 ≤ n0 + 1 ∨ n1 ≤ s.size + 1
  good : bad' = false → bad = false ∧ n1 ≤ s.size
  dec : ∀ m c q, m ≤ 9999999 → ¬ (48 ≤ UInt8.toNat c ∧ UInt8.toNat c ≤ 57) → s.data.toList.drop n0 = Lib.decDigits m ++ c :: q → x = m ∧ s.data.toList.drop n1 = q ∧ bad' = bad
theorem num_r (s : ByteArray) (n0 : Nat) (bad : Bool) (p : Nat × Nat) (hp : p = scan 7 0 (s.data.toList.drop n0)) : NumR s n0 bad p.1 (n0 + p.2 + 1) (bad || decide (s.size ≤ n0 + p.2)) := by
  have hlen : s.data.toList.length = s.size := Array.length_toList
  refine ⟨?_, by omega, ?_, ?_, ?_⟩
  · have := scan_lt 7 0 0 (s.data.toList.drop n0) (by decide)
    rw [← hp] at this
    omega
  · have := scan_len 7 0 (s.data.toList.drop n0)
    rw [← hp, List.length_drop, hlen] at this
    omega
  · intro h
    rw [Bool.or_eq_false_iff, decide_eq_false_iff_not] at h
    exact ⟨h.1, by omega⟩
  · intro m c q hm hc hd
    rw [hd, scan_dec m hm c hc q] at hp
    subst hp
    refine ⟨rfl, ?_, ?_⟩
    · have h2 : s.data.toList.drop (n0 + (Lib.decDigits m).length + 1) = (s.data.toList.drop n0).drop ((Lib.decDigits m).length + 1) := by rw [List.drop_drop, Nat.add_assoc]
      show s.data.toList.drop (n0 + (Lib.decDigits m).length + 1) = q
      rw [h2, hd, show Lib.decDigits m ++ c :: q = (Lib.decDigits m ++ [c]) ++ q by simp, List.drop_left' (by simp)]
    · have h2 : (Lib.decDigits m ++ c :: q).length = s.size - n0 := by rw [← hd, List.length_drop, hlen]
      simp only [List.length_append, List.length_cons] at h2
      have : decide (s.size ≤ n0 + (Lib.decDigits m).length) = false := decide_eq_false (by omega)
      show (bad || decide (s.size ≤ n0 + (Lib.decDigits m).length)) = bad
      rw [this, Bool.or_false]
theorem wnum_calls (W : World) (g : Nat) (s : ByteArray) (n0 : Nat) (bad : Bool) (hW : Words W g s n0 bad) (hs : s.size ≤ 281474976710656) (hn : n0 ≤ s.size + 100) :
    Calls Tryd.prog 29 #[.pointer (some ⟨g, 0, none⟩)] W fun e W' => ∃ (x n1 : Nat) (bad' : Bool), e = .returned (.int .i64 (x : Int)) ∧ NumR s n0 bad x n1 bad' ∧ Words W' g s n1 bad' ∧ Kept1 g W W' :=
  (num_walk W g s n0 bad hW hs hn).mono fun _ _ ⟨p, hp, he, hw, hk⟩ => ⟨p.1, _, _, he, num_r s n0 bad p hp, hw, hk⟩

/-- What text reads. -/
structure TextR (s : ByteArray) (n0 : Nat) (bad : Bool) (u : ByteArray) (n1 : Nat) (bad' : Bool) : Prop where
  lt : n0 < n1
  up : n1 ≤ n0 + 1 ∨ n1 ≤ s.size + 1
  good : bad' = false → bad = false ∧ n1 ≤ s.size
  dec : ∀ (t : ByteArray) q, t.size ≤ 9999999 → bad = false → s.data.toList.drop n0 = Lib.decDigits t.size ++ (58 : UInt8) :: (t.data.toList ++ q) → u = t ∧ s.data.toList.drop n1 = q ∧ bad' = false
/-- What text leaves. -/
def TextW (W : World) (g : Nat) (s : ByteArray) (n0 : Nat) (bad : Bool) (e : Ending) (W' : World) : Prop :=
  ∃ (u : ByteArray) (n1 : Nat) (bad' : Bool), e = .returned (.string u) ∧ TextR s n0 bad u n1 bad' ∧ Words W' g s n1 bad' ∧ Kept1 g W W'
theorem digit_not (c : UInt8) (h : c = 58) : ¬ (48 ≤ c.toNat ∧ c.toNat ≤ 57) := by subst h; decide
theorem text_no {W w5 : World} {g : Nat} {s : ByteArray} {n0 x n1 : Nat} {bad b1 : Bool} (hR : NumR s n0 bad x n1 b1) (hT : Words w5 g s n1 b1) (hK : Kept1 g W w5) (hc : b1 = true ∨ s.size < n1 + x) :
    TextW W g s n0 bad (.returned (.string ⟨#[]⟩)) (w5.setCell ⟨g, 2, none⟩ (.bool true)) := by
  refine ⟨_, n1, true, rfl, ⟨hR.lt, hR.up, fun h => (by cases h), fun t q ht hb hd => ?_⟩, hT.bad_ true, hK.set 2 _⟩
  exfalso
  obtain ⟨h1, h2, h3⟩ := hR.dec t.size 58 _ ht (digit_not 58 rfl) hd
  rcases hc with h | h
  · rw [h, hb] at h3
    cases h3
  · have hl : (s.data.toList.drop n1).length = s.size - n1 := by rw [List.length_drop, Array.length_toList]; rfl
    have h4 : t.data.toList.length = t.size := Array.length_toList
    rw [h2, List.length_append, h4] at hl
    have hlen : s.data.toList.length = s.size := Array.length_toList
    have hl0 : (s.data.toList.drop n0).length = s.size - n0 := by rw [List.length_drop, hlen]
    rw [hd] at hl0
    simp only [List.length_append, List.length_cons] at hl0
    have := hR.good (by rw [h3]; exact hb)
    omega
theorem text_yes {W w5 : World} {g : Nat} {s : ByteArray} {n0 x n1 : Nat} {bad : Bool} (hR : NumR s n0 bad x n1 false) (hT : Words w5 g s (n1 + x) false) (hK : Kept1 g W w5) (hc : n1 + x ≤ s.size) :
    TextW W g s n0 bad (.returned (.string (s.extract n1 (n1 + x)))) w5 := by
  have hg := hR.good rfl
  refine ⟨_, n1 + x, false, rfl, ⟨by have := hR.lt; omega, .inr (by omega), fun _ => ⟨hg.1, hc⟩, fun t q ht hb hd => ?_⟩, hT, hK⟩
  obtain ⟨h1, h2, h3⟩ := hR.dec t.size 58 _ ht (digit_not 58 rfl) hd
  subst h1
  have h4 : t.data.toList.length = t.size := Array.length_toList
  refine ⟨?_, ?_, rfl⟩
  · apply ByteArray.ext
    apply Array.ext'
    rw [ByteArray.data_extract, Array.toList_extract]
    simp only [List.extract_eq_take_drop, h2, Nat.add_sub_cancel_left]
    exact List.take_left' h4
  · rw [← List.drop_drop, h2]
    exact List.drop_left' h4

set_option maxHeartbeats 8000000 in
set_option maxRecDepth 100000 in
theorem text_walk (W : World) (g : Nat) (s : ByteArray) (n0 : Nat) (bad : Bool) (hW : Words W g s n0 bad) (hs : s.size ≤ 281474976710656) (hn : n0 ≤ s.size + 100) :
    Calls Tryd.prog 30 #[.pointer (some ⟨g, 0, none⟩)] W (TextW W g s n0 bad) := by
  replace hW := Aside0.mk hW
  go_enter Tryd.func30, Tryd.ntmps30
  go_wp2_with (go_at_call 29; (with_reducible refine (wnum_calls _ g s n0 bad hW.out hs hn).mono ?_); rintro e w1 ⟨x, n1, b1, rfl, hR, hT, hK⟩)
  obtain ⟨c0, c1, c2⟩ := hT.cells
  have hx9 := hR.x_le
  have hup := hR.up
  have hgood := hR.good
  replace hT := Aside0.mk hT
  replace hK := Aside0.mk hK
  replace hR := Aside0.mk hR
  have sw : IntKind.i64.wrap ((s.size : Int) - (n1 : Int)) = (s.size : Int) - (n1 : Int) := by rw [IntKind.wrap_i64]; omega
  cases b1
  · have hg := (hgood rfl).2
    clear hgood
    by_cases hx : n1 + x ≤ s.size
    · have d1 : decide ((s.size : Int) - (n1 : Int) < (x : Int)) = false := decide_eq_false (by omega)
      obtain ⟨n2, hn2⟩ : ∃ n2, n2 = n1 + x := ⟨_, rfl⟩
      have aw : IntKind.i64.wrap ((n1 : Int) + (x : Int)) = (n2 : Int) := by rw [IntKind.wrap_i64]; omega
      have lw : IntKind.i64.wrap ((n2 : Int) - (x : Int)) = (n1 : Int) := by rw [IntKind.wrap_i64]; omega
      have l1 : n1 ≤ n2 := by omega
      have l2 : n2 ≤ s.size := by omega
      replace hn2 := Aside0.mk hn2
      go_wp2_with fail
      go_quiet (fail)
      have hT2 := hT.out.drewN nq
      have hK2 := Aside0.mk (hK.out.drewN nq)
      clear hT hK c0 c1 c2
      generalize w1.drewN nq = w5 at *
      obtain ⟨c0, c1, c2⟩ := hT2.cells
      have f1 := hT2.frozen 1
      have f2 := hT2.frozen 2
      have hlt := hT2.lt
      replace hT2 := Aside0.mk hT2
      go_wp2_with fail
      have hT3 := hT2.out.at_ n2
      have hK3 := Aside0.mk (hK2.out.set 1 (.int .i64 (n2 : Int)))
      clear hT2 hK2 c0 c1 c2 f1 f2 hlt
      generalize w5.setCell ⟨g, 1, none⟩ (.int .i64 (n2 : Int)) = w6 at *
      obtain ⟨c0, c1, c2⟩ := hT3.cells
      replace hT3 := Aside0.mk hT3
      go_quiet (fail)
      have hT4 := Aside0.mk (hT3.out.drewN nq)
      have hK4 := Aside0.mk (hK3.out.drewN nq)
      clear hT3 hK3 c0 c1 c2
      go_wp2_with fail
      go_ret
      rw [hn2.out] at hT4
      have hh := text_yes hR.out hT4.out hK4.out hx
      rw [← hn2.out] at hh
      exact hh
    · have d1 : decide ((s.size : Int) - (n1 : Int) < (x : Int)) = true := decide_eq_true (by omega)
      go_wp2_with fail
      go_quiet (fail)
      have hT2 := hT.out.drewN nq
      have hK2 := Aside0.mk (hK.out.drewN nq)
      clear hT hK c0 c1 c2
      generalize w1.drewN nq = w5 at *
      obtain ⟨c0, c1, c2⟩ := hT2.cells
      have f1 := hT2.frozen 1
      have f2 := hT2.frozen 2
      have hlt := hT2.lt
      replace hT2 := Aside0.mk hT2
      go_wp2_with fail
      go_ret
      exact text_no hR.out hT2.out hK2.out (.inr (by omega))
  · clear hgood
    go_wp2_with fail
    go_quiet (fail)
    have hT2 := hT.out.drewN nq
    have hK2 := Aside0.mk (hK.out.drewN nq)
    clear hT hK c0 c1 c2
    generalize w1.drewN nq = w5 at *
    obtain ⟨c0, c1, c2⟩ := hT2.cells
    have f1 := hT2.frozen 1
    have f2 := hT2.frozen 2
    have hlt := hT2.lt
    replace hT2 := Aside0.mk hT2
    go_wp2_with fail
    go_ret
    exact text_no hR.out hT2.out hK2.out (.inl rfl)
end

section
open Go.RowKit Go.Proofs.YtdpbklckeamjpaaDoorW.PrintWords Go.Proofs.YtdpbklckeamjpaaDoorW.PrintLast Go.Proofs.YtdpbklckeamjpaaDoorW.PrintMore Go.Proofs.YtdpbklckeamjpaaDoor.PScripts

/-- A row read. -/
structure RowR (s : ByteArray) (n0 : Nat) (bad : Bool) (X : Nat → Int) (u : ByteArray) (n1 : Nat) (b1 : Bool) : Prop where
  lt : n0 < n1
  good : b1 = false → bad = false ∧ n1 ≤ s.size
  dec : bad = false → ∀ (Y : Nat → Int) (t : ByteArray) q, (∀ i, i < 5 → 0 ≤ Y i ∧ Y i ≤ 1048576) → t.size ≤ 1000 → s.data.toList.drop n0 = rowT Y t ++ q → (∀ i, i < 5 → X i = Y i) ∧ u = t ∧ s.data.toList.drop n1 = q ∧ b1 = false
def five (x0 x1 x2 x3 x4 : Nat) : Nat → Int | 0 => x0 | 1 => x1 | 2 => x2 | 3 => x3 | _ => x4
theorem rowT_list (Y : Nat → Int) (t : ByteArray) (q : List UInt8) : rowT Y t ++ q = Lib.itoa (Y 0) ++ (32 : UInt8) :: (Lib.itoa (Y 1) ++ (32 : UInt8) :: (Lib.itoa (Y 2) ++ (32 : UInt8) :: (Lib.itoa (Y 3) ++ (32 : UInt8) :: (Lib.itoa (Y 4) ++ (32 : UInt8) :: (Lib.decDigits t.size ++ (58 : UInt8) :: (t.data.toList ++ q)))))) := by
  unfold rowT numsT
  rw [itoa_nat]
  simp [List.range_succ]
theorem blank_not : ¬ (48 ≤ (32 : UInt8).toNat ∧ (32 : UInt8).toNat ≤ 57) := by decide
theorem NumR.row {s : ByteArray} {n0 : Nat} {bad : Bool} {x n1 : Nat} {b1 : Bool} (h : NumR s n0 bad x n1 b1) (y : Int) (h0 : 0 ≤ y) (h1 : y ≤ 1048576) {q : List UInt8} (hd : s.data.toList.drop n0 = Lib.itoa y ++ (32 : UInt8) :: q) : (x : Int) = y ∧ s.data.toList.drop n1 = q ∧ b1 = bad := by
  obtain ⟨m, rfl⟩ := Int.eq_ofNat_of_zero_le h0
  rw [itoa_nat] at hd
  obtain ⟨e1, e2, e3⟩ := h.dec m 32 q (by omega) blank_not hd
  exact ⟨by rw [e1], e2, e3⟩
theorem row_r {s : ByteArray} {n0 n1 n2 n3 n4 n5 n6 x0 x1 x2 x3 x4 : Nat} {b0 b1 b2 b3 b4 b5 b6 : Bool} {u : ByteArray} (h0 : NumR s n0 b0 x0 n1 b1) (h1 : NumR s n1 b1 x1 n2 b2) (h2 : NumR s n2 b2 x2 n3 b3) (h3 : NumR s n3 b3 x3 n4 b4) (h4 : NumR s n4 b4 x4 n5 b5) (h5 : TextR s n5 b5 u n6 b6) :
    RowR s n0 b0 (five x0 x1 x2 x3 x4) u n6 b6 := by
  refine ⟨?_, fun h => ?_, fun hb Y t q hY ht hd => ?_⟩
  · have := h0.lt; have := h1.lt; have := h2.lt; have := h3.lt; have := h4.lt; have := h5.lt; omega
  · have e5 := h5.good h
    have e4 := h4.good e5.1
    have e3 := h3.good e4.1
    have e2 := h2.good e3.1
    have e1 := h1.good e2.1
    exact ⟨(h0.good e1.1).1, e5.2⟩
  · rw [rowT_list] at hd
    obtain ⟨a0, d0, c0⟩ := h0.row (Y 0) (hY 0 (by omega)).1 (hY 0 (by omega)).2 hd
    obtain ⟨a1, d1, c1⟩ := h1.row (Y 1) (hY 1 (by omega)).1 (hY 1 (by omega)).2 d0
    obtain ⟨a2, d2, c2⟩ := h2.row (Y 2) (hY 2 (by omega)).1 (hY 2 (by omega)).2 d1
    obtain ⟨a3, d3, c3⟩ := h3.row (Y 3) (hY 3 (by omega)).1 (hY 3 (by omega)).2 d2
    obtain ⟨a4, d4, c4⟩ := h4.row (Y 4) (hY 4 (by omega)).1 (hY 4 (by omega)).2 d3
    obtain ⟨a5, d5, c5⟩ := h5.dec t q (by omega) (by rw [c4, c3, c2, c1, c0]; exact hb) d4
    refine ⟨fun i hi => ?_, a5, d5, c5⟩
    have : i = 0 ∨ i = 1 ∨ i = 2 ∨ i = 3 ∨ i = 4 := by omega
    rcases this with rfl | rfl | rfl | rfl | rfl
    · exact a0
    · exact a1
    · exact a2
    · exact a3
    · exact a4
/-- What is left of s. -/
def restB (s : ByteArray) (n : Nat) : ByteArray := ⟨(s.data.toList.drop n).toArray⟩
theorem restB_list (s : ByteArray) (n : Nat) : (restB s n).data.toList = s.data.toList.drop n := rfl
theorem restB_size (s : ByteArray) (n : Nat) : (restB s n).size = s.size - n := by
  show (s.data.toList.drop n).toArray.size = s.size - n
  rw [List.size_toArray, List.length_drop, Array.length_toList]
  rfl
def actOne (x0 x1 x2 x3 x4 : Nat) (u : ByteArray) : S36 := ⟨x0, x1, x2, x3, x4, u, z34⟩
def actTwo (x0 x1 x2 x3 x4 : Nat) (u : ByteArray) (y0 y1 y2 y3 y4 : Nat) (t : ByteArray) : S36 := ⟨x0, x1, x2, x3, x4, u, ⟨y0, t, y1, y2, y3, y4⟩⟩
theorem act_one {s : ByteArray} {n0 n6 x0 x1 x2 x3 x4 : Nat} {b6 : Bool} {u : ByteArray} (h : RowR s n0 false (five x0 x1 x2 x3 x4) u n6 b6) (h7 : (x0 : Int) ≠ 7) : ActAt (restB s n0) false (actOne x0 x1 x2 x3 x4 u) (restB s n6) b6 := by
  refine ⟨by rw [restB_size, restB_size]; have := h.lt; omega, fun _ c q hm hd => ?_⟩
  rw [restB_list, tell_row] at hd
  have hb := may_bounds hm
  obtain ⟨f2, f3, f4, f5⟩ := h.dec rfl (nums5 c) c.f5 _ (fun i hi => by have := hb.1 i hi; omega) (by have := hb.2.1; omega) hd
  have g0 : (x0 : Int) = c.f0 := f2 0 (by omega)
  have h8 : c.f0 ≠ 7 := fun e => h7 (g0.trans e)
  rw [if_neg h8] at f4
  refine ⟨?_, f5, f4⟩
  have := act_of1 (X := five x0 x1 x2 x3 x4) (s := some u) f2 (by rw [f3]) (no_key hm h8)
  exact this
theorem act_two {s : ByteArray} {n0 n1 n2 x0 x1 x2 x3 x4 y0 y1 y2 y3 y4 : Nat} {b1 b2 : Bool} {u t : ByteArray} (h : RowR s n0 false (five x0 x1 x2 x3 x4) u n1 b1) (k : RowR s n1 b1 (five y0 y1 y2 y3 y4) t n2 b2) (h7 : (x0 : Int) = 7) : ActAt (restB s n0) false (actTwo x0 x1 x2 x3 x4 u y0 y1 y2 y3 y4 t) (restB s n2) b2 := by
  refine ⟨by rw [restB_size, restB_size]; have := h.lt; have := k.lt; omega, fun _ c q hm hd => ?_⟩
  rw [restB_list, tell_row] at hd
  have hb := may_bounds hm
  obtain ⟨f2, f3, f4, f5⟩ := h.dec rfl (nums5 c) c.f5 _ (fun i hi => by have := hb.1 i hi; omega) (by have := hb.2.1; omega) hd
  have g0 : (x0 : Int) = c.f0 := f2 0 (by omega)
  have h8 : c.f0 = 7 := g0.symm.trans h7
  rw [if_pos h8] at f4
  have hk := hb.2.2 h8
  obtain ⟨e2, e3, e4, e5⟩ := k.dec f5 (keys5 c.f6) c.f6.f1 q (fun i hi => by have := hk.1 i hi; omega) (by have := hk.2; omega) f4
  refine ⟨?_, e5, e4⟩
  have := act_of2 (X := five x0 x1 x2 x3 x4) (Y := five y0 y1 y2 y3 y4) (s := some u) (u := some t) f2 (by rw [f3]) e2 (by rw [e3])
  exact this
end

section
open Go.RowKit Go.Proofs.YtdpbklckeamjpaaDoorW.PrintWords Go.Proofs.YtdpbklckeamjpaaDoorW.PrintLast Go.Proofs.YtdpbklckeamjpaaDoorW.PrintMore Go.Proofs.YtdpbklckeamjpaaDoor.PScripts

theorem Box.set {W : World} {b : Nat} {a : S36} (h : Box W b a) (j : Nat) (v : Value) (a' : S36) (hc : (cells12 a).setIfInBounds j v = cells12 a') : Box (W.setCell ⟨b, j, none⟩ v) b a' := by
  have h1 := setCell_heap W b j (cells12 a) 36 (0, 0) v h.out
  rw [hc] at h1
  exact ⟨h1⟩
theorem Box.froz {W : World} {b : Nat} {a : S36} (h : Box W b a) (j : Nat) : W.frozen? ⟨b, j, none⟩ = false := by simp [World.frozen?, h.out]
theorem R36_kept {W W' : World} {base g : Nat} {v : Value} {L : List S36} (h : Kd.R k36 36 W base (fun _ => True) v L) (hg : ∀ k, k < W.heap.size → k ≠ g → W'.heap[k]? = W.heap[k]?) (hne : some g ≠ v.ownBlock) : Kd.R k36 36 W' base (fun _ => True) v L :=
  Kd.R_mono (Kd.R_step (Kd.R_tight rfl h) (fun k ho hk => hg k hk (fun e => hne (by rw [← ho, e])))) (fun _ _ => trivial)

/-- Words, the act's box, the acts read: in world X. -/
structure PSt (W : World) (g ga : Nat) (s : ByteArray) (v : Value) (out : List S36) (X : World) (n : Nat) (bad : Bool) (a : S36) : Prop where
  words : Words X g s n bad
  box : Box X ga a
  rows : Kd.R k36 36 X W.heap.size (fun _ => True) v out
  below : Below W.heap.size W X
  ne : g ≠ ga
  gb : W.heap.size ≤ g
  ab : W.heap.size ≤ ga
  gv : some g ≠ v.ownBlock
  av : some ga ≠ v.ownBlock
theorem kept_below {W X X' : World} {g : Nat} (h : Below W.heap.size W X) (hg : W.heap.size ≤ g) (hk : Kept1 g X X') : Below W.heap.size W X' :=
  ⟨hk.os.trans h.os, hk.tape.trans h.tape, hk.output.trans h.output, Nat.le_trans h.size hk.size, fun k hlt => (hk.block k (Nat.lt_of_lt_of_le hlt h.size) (by omega)).trans (h.block k hlt)⟩
theorem PSt.step {W : World} {g ga : Nat} {s : ByteArray} {v : Value} {out : List S36} {X : World} {n : Nat} {bad : Bool} {a : S36} (h : PSt W g ga s v out X n bad a) {X' : World} {n' : Nat} {bad' : Bool} (hw : Words X' g s n' bad') (hk : Kept1 g X X') : PSt W g ga s v out X' n' bad' a :=
  ⟨hw, ⟨(hk.block ga h.box.lt h.ne.symm).trans h.box.out⟩, R36_kept h.rows hk.block h.gv, kept_below h.below h.gb hk, h.ne, h.gb, h.ab, h.gv, h.av⟩
theorem PSt.set {W : World} {g ga : Nat} {s : ByteArray} {v : Value} {out : List S36} {X : World} {n : Nat} {bad : Bool} {a : S36} (h : PSt W g ga s v out X n bad a) (j : Nat) (u : Value) (a' : S36) (hc : (cells12 a).setIfInBounds j u = cells12 a') : PSt W g ga s v out (X.setCell ⟨ga, j, none⟩ u) n bad a' :=
  ⟨⟨(Below.heap_setCell _ ⟨ga, j, none⟩ _ g h.ne).trans h.words.out⟩, h.box.set j u a' hc, R36_kept h.rows (fun k _ hn => Below.heap_setCell _ ⟨ga, j, none⟩ _ k hn) h.av, h.below.setCell (p := ⟨ga, j, none⟩) h.ab u, h.ne, h.gb, h.ab, h.gv, h.av⟩
theorem PSt.new {W wr w1 : World} {g : Nat} {s : ByteArray} {v : Value} {out : List S36} {n : Nat} {bad : Bool} (hw : Words w1 g s n bad) (hk : Kept1 g wr w1) (hR : Kd.R k36 36 wr W.heap.size (fun _ => True) v out) (hB : Below W.heap.size W wr) (hg : W.heap.size ≤ g) (hgv : some g ≠ v.ownBlock) (a : S36) :
    PSt W g w1.heap.size s v out (w1.alloc (.cells #[.int .i64 a.f0, .int .i64 a.f1, .int .i64 a.f2, .int .i64 a.f3, .int .i64 a.f4, .string a.f5, .int .i64 a.f6.f0, .string a.f6.f1, .int .i64 a.f6.f2, .int .i64 a.f6.f3, .int .i64 a.f6.f4, .int .i64 a.f6.f5] 36)) n bad a := by
  have hR1 := R36_kept hR hk.block hgv
  have hB1 := kept_below hB hg hk
  exact ⟨⟨(heap_alloc_old w1 _ hw.lt).trans hw.out⟩, Box.new w1 a, Kd.R_alloc hR1 _, below_alloc hB1 _, by have := hw.lt; omega, hg, hB1.size, hgv, fun e => by have := Kd.R_lt hR1 _ e.symm; omega⟩
/-- What the walk wants of the act's box. -/
theorem PSt.ready {W : World} {g ga : Nat} {s : ByteArray} {v : Value} {out : List S36} {X : World} {n : Nat} {bad : Bool} {a : S36} (h : PSt W g ga s v out X n bad a) (j : Nat) (hj : j < 12) : X.cell? ⟨ga, j, none⟩ = some ((cells12 a)[j]'hj) ∧ X.frozen? ⟨ga, j, none⟩ = false :=
  ⟨(h.box.cell j).trans (Array.getElem?_eq_getElem hj), h.box.froz j⟩
theorem pnum_calls {W : World} {g ga : Nat} {s : ByteArray} {v : Value} {out : List S36} {X : World} {n : Nat} {bad : Bool} {a : S36} (h : PSt W g ga s v out X n bad a) (hs : s.size ≤ 281474976710656) (hn : n ≤ s.size + 100) :
    Calls Tryd.prog 29 #[.pointer (some ⟨g, 0, none⟩)] X fun e X' => ∃ (x n' : Nat) (bad' : Bool), e = .returned (.int .i64 (x : Int)) ∧ NumR s n bad x n' bad' ∧ PSt W g ga s v out X' n' bad' a :=
  (wnum_calls X g s n bad h.words hs hn).mono fun _ _ ⟨x, n', b', he, hr, hw, hk⟩ => ⟨x, n', b', he, hr, h.step hw hk⟩
theorem ptext_calls {W : World} {g ga : Nat} {s : ByteArray} {v : Value} {out : List S36} {X : World} {n : Nat} {bad : Bool} {a : S36} (h : PSt W g ga s v out X n bad a) (hs : s.size ≤ 281474976710656) (hn : n ≤ s.size + 100) :
    Calls Tryd.prog 30 #[.pointer (some ⟨g, 0, none⟩)] X fun e X' => ∃ (u : ByteArray) (n' : Nat) (bad' : Bool), e = .returned (.string u) ∧ TextR s n bad u n' bad' ∧ PSt W g ga s v out X' n' bad' a :=
  (text_walk X g s n bad h.words hs hn).mono fun _ _ ⟨u, n', b', he, hr, hw, hk⟩ => ⟨u, n', b', he, hr, h.step hw hk⟩
end

end Go.Proofs.YtdpbklckeamjpaaDoor.Scr
