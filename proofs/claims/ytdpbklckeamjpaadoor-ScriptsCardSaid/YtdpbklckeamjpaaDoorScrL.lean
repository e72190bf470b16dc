/- The package's taker: a row of numbers and a text, step by step. -/
import Derived.Test.YtdpbklckeamjpaaDoorScrK
namespace Go.Proofs.YtdpbklckeamjpaaDoor.Scr
open Go.RowKit Go.Proofs.YtdpbklckeamjpaaDoorW.PrintWords Go.Proofs.YtdpbklckeamjpaaDoorW.PrintLast Go.Proofs.YtdpbklckeamjpaaDoorW.PrintMore Go.Proofs.YtdpbklckeamjpaaDoor.PScripts

/-- All blocks but two stand as they stood. -/
structure Kept2 (g ga : Nat) (W W' : World) : Prop where
  os : W'.os = W.os
  tape : W'.tape = W.tape
  output : W'.output = W.output
  size : W.heap.size ≤ W'.heap.size
  block : ∀ k, k < W.heap.size → k ≠ g → k ≠ ga → W'.heap[k]? = W.heap[k]?
theorem Kept2.refl (g ga : Nat) (W : World) : Kept2 g ga W W := ⟨rfl, rfl, rfl, Nat.le_refl _, fun _ _ _ _ => rfl⟩
theorem Kept2.trans {g ga : Nat} {W W1 W2 : World} (h : Kept2 g ga W W1) (h2 : Kept2 g ga W1 W2) : Kept2 g ga W W2 :=
  ⟨h2.os.trans h.os, h2.tape.trans h.tape, h2.output.trans h.output, Nat.le_trans h.size h2.size, fun k hk h3 h4 => (h2.block k (Nat.lt_of_lt_of_le hk h.size) h3 h4).trans (h.block k hk h3 h4)⟩
theorem Kept2.grown {g ga : Nat} {W W' : World} (h : W.grownBy W' (some g)) : Kept2 g ga W W' := ⟨h.os, h.tape, h.output, h.size, fun k hk h1 _ => h.block k hk (fun e => h1 (Option.some.inj e))⟩
theorem Kept2.of_below {g ga : Nat} {W W' : World} (h : Below W.heap.size W W') : Kept2 g ga W W' := ⟨h.os, h.tape, h.output, h.size, fun k hk _ _ => h.block k hk⟩
theorem Kept2.set {g ga : Nat} {W W1 : World} (h : Kept2 g ga W W1) {b : Nat} (hb : b = g ∨ b = ga) (j : Nat) (v : Value) : Kept2 g ga W (W1.setCell ⟨b, j, none⟩ v) :=
  ⟨h.os, h.tape, h.output, by simpa [World.setCell] using h.size, fun k hk h1 h2 => (Below.heap_setCell W1 ⟨b, j, none⟩ v k (fun e => by rcases hb with rfl | rfl <;> first | exact h1 e | exact h2 e)).trans (h.block k hk h1 h2)⟩
theorem Kept2.below {g ga : Nat} {w0 W W' : World} (h : Kept2 g ga W W') (hB : Below w0.heap.size w0 W) (h1 : w0.heap.size ≤ g) (h2 : w0.heap.size ≤ ga) : Below w0.heap.size w0 W' :=
  ⟨h.os.trans hB.os, h.tape.trans hB.tape, h.output.trans hB.output, Nat.le_trans hB.size h.size, fun k hk => (h.block k (Nat.lt_of_lt_of_le hk hB.size) (by omega) (by omega)).trans (hB.block k hk)⟩

/-- The first k numbers, laid into their places. -/
def put (O : Nat → Nat) (X : Nat → Int) : Nat → Array Value → Array Value
  | 0, C => C
  | k + 1, C => (put O X k C).setIfInBounds (O k) (.int .i64 (X k))
theorem put_size (O : Nat → Nat) (X : Nat → Int) : ∀ k C, (put O X k C).size = C.size
  | 0, _ => rfl
  | k + 1, C => by simp [put, put_size O X k C]
theorem put_congr (O : Nat → Nat) {X Y : Nat → Int} : ∀ k C, (∀ i, i < k → X i = Y i) → put O X k C = put O Y k C
  | 0, _, _ => rfl
  | k + 1, C, h => by simp only [put, put_congr O k C (fun i hi => h i (by omega)), h k (by omega)]

/-- The numbers of a row from the k-th on. -/
def numsFrom (X : Nat → Int) (k : Nat) : List UInt8 := (List.range (5 - k)).flatMap fun i => Lib.itoa (X (k + i)) ++ [32]
theorem numsFrom_zero (X : Nat → Int) : numsFrom X 0 = numsT X 5 := by simp [numsFrom, numsT]
theorem numsFrom_five (X : Nat → Int) : numsFrom X 5 = [] := by simp [numsFrom]
theorem numsFrom_step (X : Nat → Int) (k : Nat) (h : k < 5) : numsFrom X k = Lib.itoa (X k) ++ 32 :: numsFrom X (k + 1) := by
  have : k = 0 ∨ k = 1 ∨ k = 2 ∨ k = 3 ∨ k = 4 := by omega
  rcases this with rfl | rfl | rfl | rfl | rfl
  all_goals simp [numsFrom, List.range_succ]

/-- What may stand there: small numbers, a text. -/
def Small (Y : Nat → Int) (s : ByteArray) : Prop := (∀ i, i < 5 → 0 ≤ Y i ∧ Y i < 9223372036854775808) ∧ s.size < 9223372036854775808

/-- What holds at a round's head. -/
def TakeAt (W : World) (g ga : Nat) (O : Nat → Nat) (C : Array Value) (rest : ByteArray) (bad : Bool) (gk : Nat) (i : Value) (wr : World) : Prop :=
  ∃ (k : Nat) (X : Nat → Int) (rk : ByteArray) (bk : Bool), i = .int .i64 k ∧ k + gk = 5 ∧ Taker wr g rk bk ∧ rk.size ≤ rest.size ∧ wr.heap[ga]? = some (.cells (put O X k C) 36 (0, 0)) ∧ (∀ i, i < k → In64 (X i)) ∧ Kept2 g ga W wr ∧
    (bad = false → ∀ Y s q, Small Y s → rest.data.toList = rowT Y s ++ q → bk = false ∧ (∀ i, i < k → X i = Y i) ∧ rk.data.toList = numsFrom Y k ++ (Lib.itoa s.size ++ 58 :: s.data.toList) ++ q)

theorem take_step {rest rk rk' : ByteArray} {bad bk bk' : Bool} {X : Nat → Int} {k : Nat} {x : Int} (hk : k < 5) (hn : NumAt rk bk 32 x rk' bk')
    (h : bad = false → ∀ Y s q, Small Y s → rest.data.toList = rowT Y s ++ q → bk = false ∧ (∀ i, i < k → X i = Y i) ∧ rk.data.toList = numsFrom Y k ++ (Lib.itoa s.size ++ 58 :: s.data.toList) ++ q) :
    bad = false → ∀ Y s q, Small Y s → rest.data.toList = rowT Y s ++ q → bk' = false ∧ (∀ i, i < k + 1 → (fun i => if i = k then x else X i) i = Y i) ∧ rk'.data.toList = numsFrom Y (k + 1) ++ (Lib.itoa s.size ++ 58 :: s.data.toList) ++ q := by
  intro hb Y s q hY hr
  obtain ⟨h1, h2, h3⟩ := h hb Y s q hY hr
  obtain ⟨n, hn0⟩ : ∃ n : Nat, Y k = n := ⟨(Y k).toNat, by have := (hY.1 k hk).1; omega⟩
  rw [numsFrom_step Y k hk, hn0, itoa_nat] at h3
  have h4 := hn.at_ n (numsFrom Y (k + 1) ++ (Lib.itoa s.size ++ 58 :: s.data.toList) ++ q) (by have := (hY.1 k hk).2; omega) (by decide) (by rw [h3]; simp)
  obtain ⟨e1, e2, e3⟩ := h4
  refine ⟨e3.trans h1, fun i hi => ?_, e2⟩
  by_cases hik : i = k
  · subst hik
    simp [e1, hn0]
  · simp [hik]
    exact h2 i (by omega)

theorem three {bk : Bool} {x : Int} {r : ByteArray} (h : bk = false → 0 ≤ x) : bk = true ∨ (bk = false ∧ decide ((r.size : Int) < x) = true) ∨ (bk = false ∧ 0 ≤ x ∧ x ≤ (r.size : Int) ∧ decide ((r.size : Int) < x) = false) := by
  cases bk with
  | true => exact .inl rfl
  | false =>
    by_cases hx : (r.size : Int) < x
    · exact .inr (.inl ⟨rfl, decide_eq_true hx⟩)
    · exact .inr (.inr ⟨rfl, h rfl, by omega, decide_eq_false hx⟩)

theorem cell_in {W : World} {b j : Nat} {C : Array Value} {t : TypeId} (h : W.heap[b]? = some (.cells C t (0, 0))) (hj : j < C.size) : ∃ u, W.cell? ⟨b, j, none⟩ = some u := by
  simp [World.cell?, h, hj]

/-- What a row's reading leaves. -/
def Took (W : World) (g ga : Nat) (O : Nat → Nat) (so : Nat) (C : Array Value) (rest : ByteArray) (bad : Bool) (W' : World) : Prop :=
  ∃ (X : Nat → Int) (s : Option ByteArray) (rk : ByteArray) (bk : Bool), Taker W' g rk bk ∧ rk.size ≤ rest.size ∧ (∀ i, i < 5 → In64 (X i)) ∧ Kept2 g ga W W' ∧
    W'.heap[ga]? = some (.cells (match s with | none => put O X 5 C | some s => (put O X 5 C).setIfInBounds so (.string s)) 36 (0, 0)) ∧
    (∀ s', s = some s' → s'.size ≤ rest.size) ∧
    (bad = false → ∀ Y t q, Small Y t → rest.data.toList = rowT Y t ++ q → bk = false ∧ (∀ i, i < 5 → X i = Y i) ∧ s = some t ∧ rk.data.toList = q)

theorem last_num {rest rk rk' : ByteArray} {bad bk bk' : Bool} {X : Nat → Int} {x : Int} (hn : NumAt rk bk 58 x rk' bk')
    (h : bad = false → ∀ Y s q, Small Y s → rest.data.toList = rowT Y s ++ q → bk = false ∧ (∀ i, i < 5 → X i = Y i) ∧ rk.data.toList = numsFrom Y 5 ++ (Lib.itoa s.size ++ 58 :: s.data.toList) ++ q) :
    bad = false → ∀ Y s q, Small Y s → rest.data.toList = rowT Y s ++ q → bk' = false ∧ (∀ i, i < 5 → X i = Y i) ∧ x = s.size ∧ rk'.data.toList = s.data.toList ++ q := by
  intro hb Y s q hY hr
  obtain ⟨h1, h2, h3⟩ := h hb Y s q hY hr
  rw [numsFrom_five, itoa_nat] at h3
  obtain ⟨e1, e2, e3⟩ := hn.at_ s.size (s.data.toList ++ q) (by have := hY.2; omega) (by decide) (by rw [h3]; simp)
  exact ⟨e3.trans h1, h2, e1, e2⟩

theorem toList_size (s : ByteArray) : s.data.toList.length = s.size := by rw [Array.length_toList]; rfl

theorem took_bad {W w1 : World} {g ga so : Nat} {O : Nat → Nat} {C : Array Value} {rest rk' : ByteArray} {bad bk' : Bool} {X : Nat → Int} {x : Int} (hT1 : Taker w1 g rk' bk') (hle : rk'.size ≤ rest.size) (hin : ∀ i, i < 5 → In64 (X i)) (hK : Kept2 g ga W w1) (hne : ga ≠ g)
    (hc : w1.heap[ga]? = some (.cells (put O X 5 C) 36 (0, 0)))
    (h : bad = false → ∀ Y s q, Small Y s → rest.data.toList = rowT Y s ++ q → bk' = false ∧ (∀ i, i < 5 → X i = Y i) ∧ x = s.size ∧ rk'.data.toList = s.data.toList ++ q) (hx : bk' = true ∨ (rk'.size : Int) < x) :
    Took W g ga O so C rest bad (w1.setCell ⟨g, 1, none⟩ (.bool true)) :=
  ⟨X, none, rk', true, setCell_heap w1 g 1 _ 60 (0, 0) _ hT1, hle, hin, hK.set (.inl rfl) _ _, (Below.heap_setCell w1 ⟨g, 1, none⟩ _ ga hne).trans hc, fun s e => (by cases e), fun hb Y s q hY hr => by
    obtain ⟨h1, h2, h3, h4⟩ := h hb Y s q hY hr
    exfalso
    rcases hx with e | e
    · rw [h1] at e
      cases e
    · have := congrArg List.length h4
      rw [List.length_append, toList_size, toList_size] at this
      omega⟩

theorem took_good {W w1 : World} {g ga so : Nat} {O : Nat → Nat} {C : Array Value} {rest rk' : ByteArray} {bad : Bool} {X : Nat → Int} {x : Int} (hT1 : Taker w1 g rk' false) (hle : rk'.size ≤ rest.size) (hin : ∀ i, i < 5 → In64 (X i)) (hK : Kept2 g ga W w1) (hne : ga ≠ g)
    (hc : w1.heap[ga]? = some (.cells (put O X 5 C) 36 (0, 0))) (hx0 : 0 ≤ x)
    (h : bad = false → ∀ Y s q, Small Y s → rest.data.toList = rowT Y s ++ q → false = false ∧ (∀ i, i < 5 → X i = Y i) ∧ x = s.size ∧ rk'.data.toList = s.data.toList ++ q) :
    Took W g ga O so C rest bad (((w1.setCell ⟨ga, so, none⟩ (.string (rk'.extract 0 x.toNat))).setCell ⟨g, 0, none⟩ (.string (rk'.extract x.toNat rk'.size))).drew) := by
  have e1 := setCell_heap w1 ga so _ 36 (0, 0) (.string (rk'.extract 0 x.toNat)) hc
  have e2 : (w1.setCell ⟨ga, so, none⟩ (.string (rk'.extract 0 x.toNat))).heap[g]? = some (.cells #[.string rk', .bool false] 60 (0, 0)) := (Below.heap_setCell w1 ⟨ga, so, none⟩ _ g (Ne.symm hne)).trans hT1
  have e3 := setCell_heap _ g 0 _ 60 (0, 0) (.string (rk'.extract x.toNat rk'.size)) e2
  have e4 := (Below.heap_setCell (w1.setCell ⟨ga, so, none⟩ (.string (rk'.extract 0 x.toNat))) ⟨g, 0, none⟩ (.string (rk'.extract x.toNat rk'.size)) ga hne).trans e1
  refine ⟨X, some (rk'.extract 0 x.toNat), rk'.extract x.toNat rk'.size, false, e3, Nat.le_trans (ext_size _ _ _) hle, hin, ?_, e4, fun s e => ?_, fun hb Y s q hY hr => ?_⟩
  · exact ((hK.set (.inr rfl) so (.string (rk'.extract 0 x.toNat))).set (.inl rfl) 0 (.string (rk'.extract x.toNat rk'.size))).trans (Kept2.of_below (below_drew (Below.refl _ _)))
  · obtain rfl := Option.some.inj e
    exact Nat.le_trans (ext_size _ _ _) hle
  · obtain ⟨h1, h2, h3, h4⟩ := h hb Y s q hY hr
    have hx : x.toNat = s.size := by omega
    have hsz : rk'.size = s.size + q.length := by
      have := congrArg List.length h4
      rw [List.length_append, toList_size, toList_size] at this
      exact this
    refine ⟨rfl, h2, ?_, ?_⟩
    · congr 1
      apply ByteArray.ext
      apply Array.toList_inj.1
      rw [ext_list, h4, hx]
      rw [List.drop_zero, Nat.sub_zero, ← toList_size, List.take_left]
    · rw [ext_list, h4, hx, hsz, ← toList_size]
      rw [List.drop_left, List.take_of_length_le (by omega)]

set_option maxHeartbeats 8000000 in
set_option maxRecDepth 100000 in
theorem takeRow_calls {w0 W : World} (g ga gx : Nat) (O : Nat → Nat) (so : Nat) (C : Array Value) (rest : ByteArray) (bad : Bool) (hv : Vars w0) (hB : Below w0.heap.size w0 W) (hg : w0.heap.size ≤ g) (hga : w0.heap.size ≤ ga) (hne : ga ≠ g) (hgx : gx ≠ g) (hgx2 : gx ≠ ga)
    (hT : Taker W g rest bad) (hs : rest.size ≤ 281474976710656) (hC : W.heap[ga]? = some (.cells C 36 (0, 0))) (hsz : C.size = 12) (hO : ∀ i, i < 5 → O i < 12) (hso : so < 12)
    (hR : W.heap[gx]? = some (.cells #[.pointer (some ⟨ga, O 0, none⟩), .pointer (some ⟨ga, O 1, none⟩), .pointer (some ⟨ga, O 2, none⟩), .pointer (some ⟨ga, O 3, none⟩), .pointer (some ⟨ga, O 4, none⟩)] 73 (0, 0))) :
    Calls Tryd.prog 36 #[.pointer (some ⟨g, 0, none⟩), .slice (some ⟨gx, 0, none⟩) 5 5, .pointer (some ⟨ga, so, none⟩)] W fun e W' => e = .returned (.tuple #[]) ∧ Took W g ga O so C rest bad W' := by
  have hgxl : gx < W.heap.size := (Array.getElem?_eq_some_iff.1 hR).1
  have hstart : Aside0 (TakeAt W g ga O C rest bad 5 (.int .i64 0) W) := ⟨0, fun _ => 0, rest, bad, rfl, rfl, hT, Nat.le_refl _, hC, fun i hi => by omega, Kept2.refl _ _ _, fun hb Y s q _ hr => ⟨hb, fun i hi => by omega, by rw [numsFrom_zero, hr]; rfl⟩⟩
  replace hv := Aside0.mk hv
  replace hB := Aside0.mk hB
  replace hR := Aside0.mk hR
  clear hT hC
  go_enter Tryd.func36, Tryd.ntmps36
  go_wp2_with fail
  go_loopg [11] 5 (fun gk i wr => TakeAt W g ga O C rest bad gk i wr)
  case atStart => exact hstart.out
  case round =>
    clear hstart
    obtain ⟨k, X, rk, bk, rfl, hk, hT, hle, hc, hin, hK, hat⟩ := hrel
    by_cases h5 : k < 5
    · have d1 : decide ((k : Int) < 5) = true := decide_eq_true (by omega)
      have k0 : (0 : Int) ≤ (k : Int) := by omega
      have k1 : (k : Int) < 5 := by omega
      have kw : IntKind.i64.wrap ((k : Int) + 1) = ((k + 1 : Nat) : Int) := by rw [IntKind.wrap_i64]; omega
      obtain ⟨gk', rfl⟩ : ∃ gk', gk = gk' + 1 := ⟨gk - 1, by omega⟩
      have hp := row5 ((hK.block gx hgxl hgx hgx2).trans hR.out) k h5
      have hvw := Aside0.mk (hv.out.belowW (hK.below hB.out hg hga))
      replace hin := Aside0.mk hin
      replace hat := Aside0.mk hat
      replace hT := Aside0.mk hT
      replace hK := Aside0.mk hK
      replace hc := Aside0.mk hc
      go_wp2_with (go_at_call 45; (with_reducible refine (number_calls _ g rk bk 32 hvw.out hT.out (by omega)).mono ?_); rintro e w1 ⟨x, rk', bk', rfl, hn, hT1, hg1⟩; have hc1 := (hg1.block ga (Array.getElem?_eq_some_iff.1 hc.out).1 (fun e => hne (Option.some.inj e))).trans hc.out; have f1 : w1.frozen? ⟨ga, O k, none⟩ = false := (by simp [World.frozen?, hc1]); obtain ⟨u, hu⟩ : ∃ u, w1.cell? ⟨ga, O k, none⟩ = some u := (cell_in hc1 (by rw [put_size, hsz]; exact hO k h5)); replace hn := Aside0.mk hn; replace hT1 := Aside0.mk hT1; replace hg1 := Aside0.mk hg1; replace hc1 := Aside0.mk hc1)
      have hk3 : put O (fun i => if i = k then x else X i) (k + 1) C = (put O X k C).setIfInBounds (O k) (.int .i64 x) := by
        simp only [put, ite_true]
        rw [put_congr O k C (fun i hi => by simp [show i ≠ k by omega] : ∀ i, i < k → (fun i => if i = k then x else X i) i = X i)]
      have hrel : Aside0 (TakeAt W g ga O C rest bad gk' (.int .i64 ((k + 1 : Nat) : Int)) (w1.setCell ⟨ga, O k, none⟩ (.int .i64 x))) := ⟨k + 1, fun i => if i = k then x else X i, rk', bk', rfl, by omega,
        (Below.heap_setCell w1 ⟨ga, O k, none⟩ _ g (Ne.symm hne)).trans hT1.out, Nat.le_trans hn.out.le hle, by rw [hk3]; exact setCell_heap w1 ga (O k) _ 36 (0, 0) _ hc1.out,
        fun i hi => by
          by_cases hik : i = k
          · simp only [hik, ite_true]
            exact hn.out.in_
          · simp only [hik, ite_false]
            exact hin.out i (by omega),
        (hK.out.trans (Kept2.grown hg1.out)).set (.inr rfl) _ _, take_step h5 hn.out hat.out⟩
      clear hk3 hT1 hg1 hc1 hn hin hat hT hK hc hp hu f1
      go_wp2_with fail
      go_roundg gk'
      case measure => exact Nat.lt_succ_self _
      case rel => exact hrel.out
    · have d1 : decide ((k : Int) < 5) = false := decide_eq_false (by omega)
      obtain rfl : k = 5 := by omega
      have hvw := Aside0.mk (hv.out.belowW (hK.below hB.out hg hga))
      replace hin := Aside0.mk hin
      replace hat := Aside0.mk hat
      replace hT := Aside0.mk hT
      replace hK := Aside0.mk hK
      replace hc := Aside0.mk hc
      go_wp2_with (go_at_call 45; (with_reducible refine (number_calls _ g rk bk 58 hvw.out hT.out (by omega)).mono ?_); rintro e w1 ⟨x, rk', bk', rfl, hn, hT1, hg1⟩; have hc1 := (hg1.block ga (Array.getElem?_eq_some_iff.1 hc.out).1 (fun e => hne (Option.some.inj e))).trans hc.out; have hT2 : w1.heap[g]? = _ := hT1; have p0 : w1.cell? ⟨g, 0, none⟩ = some (.string rk') := (by simp [World.cell?, hT2]); have p1 : w1.cell? ⟨g, 1, none⟩ = some (.bool bk') := (by simp [World.cell?, hT2]); have f0 : w1.frozen? ⟨g, 0, none⟩ = false := (by simp [World.frozen?, hT2]); have f1 : w1.frozen? ⟨g, 1, none⟩ = false := (by simp [World.frozen?, hT2]); have f2 : w1.frozen? ⟨ga, so, none⟩ = false := (by simp [World.frozen?, hc1]); obtain ⟨u, hu⟩ : ∃ u, w1.cell? ⟨ga, so, none⟩ = some u := (cell_in hc1 (by rw [put_size, hsz]; exact hso)); clear hT2; have h3 := three (x := x) (r := rk') hn.pos; replace hn := Aside0.mk hn; replace hT1 := Aside0.mk hT1; replace hg1 := Aside0.mk hg1; replace hc1 := Aside0.mk hc1; rcases h3 with rfl | ⟨rfl, d2⟩ | ⟨rfl, hx0, hx1, d2⟩)
      · exact bodyPost_ret (v := .tuple #[]) (by simp [results, Tryd.results36, go_sem]) rfl ⟨rfl, took_bad hT1.out (Nat.le_trans hn.out.le hle) hin.out (hK.out.trans (Kept2.grown hg1.out)) hne hc1.out (last_num hn.out hat.out) (.inl rfl)⟩
      · exact bodyPost_ret (v := .tuple #[]) (by simp [results, Tryd.results36, go_sem]) rfl ⟨rfl, took_bad hT1.out (Nat.le_trans hn.out.le hle) hin.out (hK.out.trans (Kept2.grown hg1.out)) hne hc1.out (last_num hn.out hat.out) (.inr (of_decide_eq_true d2))⟩
      · go_region
        have hE := took_good (so := so) hT1.out (Nat.le_trans hn.out.le hle) hin.out (hK.out.trans (Kept2.grown hg1.out)) hne hc1.out hx0 (last_num hn.out hat.out)
        go_end0
        exact ⟨rfl, hE⟩

end Go.Proofs.YtdpbklckeamjpaaDoor.Scr
