/- The package's variables; Itoa; the teller's row, step by step. -/
import Derived.Test.YtdpbklckeamjpaaDoorScrE
import Derived.Test.YtdpbklckeamjpaaDoorScrC
import Derived.Lib.ItoaLen
import Derived.Lib.AppendIntMem
namespace Go.Proofs.YtdpbklckeamjpaaDoor.Scr
open Go.RowKit Go.Proofs.YtdpbklckeamjpaaDoorW.PrintWords Go.Proofs.YtdpbklckeamjpaaDoorW.PrintLast Go.Proofs.YtdpbklckeamjpaaDoorW.PrintMore Go.Proofs.YtdpbklckeamjpaaDoor.PScripts

/-- The library's variables, as its text lays them. -/
structure Vars (w : World) : Prop where
  tab : Lib.TabIs Tryd.prog w "internal/strconv.uint64pow10" .u64 Lib.pow10Tab
  syn : ∃ te pe, w.var? Tryd.prog "strconv.ErrSyntax" = some #[.iface te pe]
  rng : ∃ te pe, w.var? Tryd.prog "strconv.ErrRange" = some #[.iface te pe]

theorem var_below {n : String} {cs : Array Value} {w w' : World} (h : w.var? Tryd.prog n = some cs) (hb : Below w.heap.size w w') : w'.var? Tryd.prog n = some cs := by
  unfold World.var? at h ⊢
  cases hg : Tryd.prog.globalNamed n with
  | none =>
    rw [hg] at h
    cases h
  | some g =>
    rw [hg] at h
    simp only [Option.bind_some] at h ⊢
    have hlt : g < w.heap.size := by
      rcases Nat.lt_or_ge g w.heap.size with h' | h'
      · exact h'
      · rw [Array.getElem?_eq_none h'] at h; cases h
    rw [hb.block g hlt]
    exact h
theorem Vars.below {w w' : World} (h : Vars w) (hb : Below w.heap.size w w') : Vars w' := by
  obtain ⟨h1, ⟨a, b, h2⟩, ⟨c, d, h3⟩⟩ := h
  exact ⟨var_below h1 hb, ⟨a, b, var_below h2 hb⟩, ⟨c, d, var_below h3 hb⟩⟩

/-- An int? -/
def In64 (n : Int) : Prop := -9223372036854775808 ≤ n ∧ n ≤ 9223372036854775807
def itoaB (n : Int) : ByteArray := ⟨(Lib.itoa n).toArray⟩
theorem itoaB_size (n : Int) (h : In64 n) : (itoaB n).size ≤ 21 := by
  have := Lib.itoa_length_le n h.1 h.2
  simpa [itoaB, ByteArray.size] using this

theorem itoa_calls (n : Int) (h : In64 n) (w : World) (hv : Vars w) : Calls Tryd.prog 35 #[.int .i64 n] w fun e w' => e = .returned (.string (itoaB n)) ∧ Below w.heap.size w w' :=
  (Tryd.strconv_Itoa n h.1 h.2 w hv.tab).mono fun e w' h => ⟨h.1, by
    obtain ⟨k, os, rfl⟩ := h.2
    exact Lib.below_grow _ w (Nat.le_refl _) k os⟩

theorem Box.kept5 {W W' : World} {b ga : Nat} {a : S36} (h : Box W ga a) (hk : Kept5 b W W') (hne : ga ≠ b) : Box W' ga a := ⟨hk.2 _ _ _ _ h.out hne (by decide)⟩

/-- The text of numbers, the first k of them. -/
def numsT (X : Nat → Int) (k : Nat) : List UInt8 := (List.range k).flatMap fun i => Lib.itoa (X i) ++ [32]
theorem numsT_succ (X : Nat → Int) (k : Nat) : numsT X (k + 1) = numsT X k ++ (Lib.itoa (X k) ++ [32]) := by
  simp [numsT, List.range_succ]
theorem numsT_length (X : Nat → Int) (hX : ∀ i, i < 5 → In64 (X i)) : ∀ k, k ≤ 5 → (numsT X k).length ≤ k * 22
  | 0, _ => by simp [numsT]
  | k + 1, h => by
    rw [numsT_succ]
    have h1 := numsT_length X hX k (by omega)
    have h2 := Lib.itoa_length_le (X k) (hX k (by omega)).1 (hX k (by omega)).2
    simp
    omega
/-- The text of a row: five numbers, and a text behind its length. -/
def rowT (X : Nat → Int) (s : ByteArray) : List UInt8 := numsT X 5 ++ (Lib.itoa s.size ++ 58 :: s.data.toList)

theorem Vars.belowW {w0 w : World} (h : Vars w0) (hb : Below w0.heap.size w0 w) : Vars w := h.below hb
theorem keepA {W W' : World} {ga : Nat} {a : S36} {O : Nat → Nat} {X : Nat → Int} {k : Nat} (hO : ∀ W', Box W' ga a → ∀ i, i < 5 → W'.cell? ⟨ga, O i, none⟩ = some (.int .i64 (X i))) (hk : k < 5) (h : W.cell? ⟨ga, O k, none⟩ = some (.int .i64 (X k)) ∧ Aside0 (Box W ga a)) (hb : Below W.heap.size W W') :
    W'.cell? ⟨ga, O k, none⟩ = some (.int .i64 (X k)) ∧ Aside0 (Box W' ga a) := ⟨hO W' (h.2.out.below hb) k hk, ⟨h.2.out.below hb⟩⟩
theorem keepK {W W' : World} {b ga : Nat} {a : S36} {O : Nat → Nat} {X : Nat → Int} {k : Nat} (hO : ∀ W', Box W' ga a → ∀ i, i < 5 → W'.cell? ⟨ga, O i, none⟩ = some (.int .i64 (X i))) (hk : k < 5) (hne : ga ≠ b) (h : W.cell? ⟨ga, O k, none⟩ = some (.int .i64 (X k)) ∧ Aside0 (Box W ga a)) (hb : Kept5 b W W') :
    W'.cell? ⟨ga, O k, none⟩ = some (.int .i64 (X k)) ∧ Aside0 (Box W' ga a) := ⟨hO W' (h.2.out.kept5 hb hne) k hk, ⟨h.2.out.kept5 hb hne⟩⟩
theorem row5 {W : World} {g : Nat} {ga : Nat} {O : Nat → Nat} (h : W.heap[g]? = some (.cells #[.pointer (some ⟨ga, O 0, none⟩), .pointer (some ⟨ga, O 1, none⟩), .pointer (some ⟨ga, O 2, none⟩), .pointer (some ⟨ga, O 3, none⟩), .pointer (some ⟨ga, O 4, none⟩)] 73 (0, 0))) (k : Nat) (hk : k < 5) :
    W.cell? ⟨g, k, none⟩ = some (.pointer (some ⟨ga, O k, none⟩)) := by
  have : k = 0 ∨ k = 1 ∨ k = 2 ∨ k = 3 ∨ k = 4 := by omega
  rcases this with rfl | rfl | rfl | rfl | rfl
  all_goals simp [World.cell?, h]

/-- What holds at a round's head. -/
def RowAt (w0 W : World) (b : Nat) (l : List UInt8) (X : Nat → Int) (gk : Nat) (i : Value) (wr : World) : Prop :=
  ∃ k : Nat, i = .int .i64 k ∧ k + gk = 5 ∧ Tell w0 wr b (l ++ numsT X k) ∧ Kept5 b W wr

set_option maxHeartbeats 8000000 in
set_option maxRecDepth 100000 in
theorem row_calls {w0 W : World} {b : Nat} {l : List UInt8} (hv : Vars w0) (hT : Tell w0 W b l) (hl : l.length ≤ 900000000) (ga gx : Nat) (a : S36) (hga : ga ≠ b) (hgx : gx ≠ b) (hA : Box W ga a) (O : Nat → Nat) (X : Nat → Int) (hX : ∀ i, i < 5 → In64 (X i))
    (hO : ∀ W', Box W' ga a → ∀ i, i < 5 → W'.cell? ⟨ga, O i, none⟩ = some (.int .i64 (X i))) (hR : W.heap[gx]? = some (.cells #[.pointer (some ⟨ga, O 0, none⟩), .pointer (some ⟨ga, O 1, none⟩), .pointer (some ⟨ga, O 2, none⟩), .pointer (some ⟨ga, O 3, none⟩), .pointer (some ⟨ga, O 4, none⟩)] 73 (0, 0)))
    (s : ByteArray) (hs : s.size ≤ 1000000) :
    Calls Tryd.prog 17 #[.pointer (some ⟨b, 0, none⟩), .slice (some ⟨gx, 0, none⟩) 5 5, .string s] W fun e W' => e = .returned (.tuple #[]) ∧ Tell w0 W' b (l ++ rowT X s) ∧ Kept5 b W W' := by
  replace hX := Aside0.mk hX
  replace hO := Aside0.mk hO
  replace hR := Aside0.mk hR
  replace hA := Aside0.mk hA
  replace hv := Aside0.mk hv
  replace hT := Aside0.mk hT
  go_enter Tryd.func17, Tryd.ntmps17
  go_wp2_with fail
  go_loopg [10] 5 (fun gk i wr => RowAt w0 W b l X gk i wr)
  case atStart => exact ⟨0, rfl, rfl, by simpa [numsT] using hT.out, Kept5.refl _ _⟩
  case round =>
    clear hT
    obtain ⟨k, rfl, hk, hT, hK⟩ := hrel
    by_cases h5 : k < 5
    · have d1 : decide ((k : Int) < 5) = true := decide_eq_true (by omega)
      have k0 : (0 : Int) ≤ (k : Int) := by omega
      have k1 : (k : Int) < 5 := by omega
      have kw : IntKind.i64.wrap ((k : Int) + 1) = ((k + 1 : Nat) : Int) := by rw [IntKind.wrap_i64]; omega
      obtain ⟨gk', rfl⟩ : ∃ gk', gk = gk' + 1 := ⟨gk - 1, by omega⟩
      have hp := row5 (hK.2 _ _ _ _ hR.out hgx (by decide)) k h5
      have hA' := hA.out.kept5 hK hga
      have hx := hO.out wr hA' k h5
      have hin := hX.out k h5
      have hsz : (9223372036854775807 < (itoaB (X k)).size + 1) = False := eq_false (by have := itoaB_size _ hin; omega)
      have hln : (l ++ numsT X k).length + (itoaB (X k) ++ ⟨#[32]⟩ : ByteArray).size ≤ 1000000000 := by
        have h1 := itoaB_size _ hin
        have h2 := numsT_length X hX.out k (by omega)
        have h3 : (⟨#[32]⟩ : ByteArray).size = 1 := rfl
        simp
        omega
      have hcat : (l ++ numsT X k) ++ (itoaB (X k) ++ ⟨#[32]⟩ : ByteArray).data.toList = l ++ numsT X (k + 1) := by
        rw [numsT_succ]
        simp [itoaB]
      replace hcat := Aside0.mk hcat
      replace hln := Aside0.mk hln
      replace hin := Aside0.mk hin
      replace hT := Aside0.mk hT
      replace hA' := Aside0.mk hA'
      replace hK := Aside0.mk hK
      go_wp2_with fail
      go_region_held3 (fun W' => W'.cell? ⟨ga, O k, none⟩ = some (.int .i64 (X k)) ∧ Aside0 (Box W' ga a))
        (first | assumption | exact keepA hO.out h5 (by assumption) hb1 | exact keepK hO.out h5 hga (by assumption) hk5 | exact keepA hO.out h5 ⟨hx, hA'⟩ (below_drew (Below.refl _ _)) | exact ⟨hx, hA'⟩)
        (first
          | (go_at_call 35; (with_reducible refine (itoa_calls (X k) hin.out _ (hv.out.belowW (hT.out.below (below_drew (Below.refl _ _))).base)).mono ?_); rintro e w1 ⟨rfl, hb1⟩; have hT1 := Aside0.mk ((hT.out.below (below_drew (Below.refl _ _))).below hb1))
          | (go_at_call 34; (with_reducible refine (write_calls hT1.out (itoaB (X k) ++ ⟨#[32]⟩) hln.out).mono ?_); rintro e w2 ⟨rfl, hT2, hk5⟩))
      rename_i hHeld
      rw [hcat.out] at hT2
      have hT3 := Aside0.mk hT2
      have hK3 := Aside0.mk ((hK.out.trans (Kept5.of_below (below_drew (Below.refl _ _)))).trans ((Kept5.of_below hb1).trans hk5))
      clear hHeld hT2 hk5 hb1 hT1 hT hK hp hx
      go_wp2_with fail
      go_roundg gk'
      case measure => exact Nat.lt_succ_self _
      case rel => exact ⟨k + 1, rfl, by omega, hT3.out, hK3.out⟩
    · have d1 : decide ((k : Int) < 5) = false := decide_eq_false (by omega)
      obtain rfl : k = 5 := by omega
      have hin : In64 (s.size : Int) := ⟨by omega, by omega⟩
      have hsz := itoaB_size _ hin
      have hsz1 : (9223372036854775807 < (itoaB (s.size : Int)).size + 1) = False := eq_false (by omega)
      have hsz2 : (9223372036854775807 < (itoaB (s.size : Int)).size + 1 + s.size) = False := eq_false (by omega)
      have hln : (l ++ numsT X 5).length + (itoaB (s.size : Int) ++ ⟨#[58]⟩ ++ s : ByteArray).size ≤ 1000000000 := by
        have h2 := numsT_length X hX.out 5 (by omega)
        have h3 : (⟨#[58]⟩ : ByteArray).size = 1 := rfl
        simp
        omega
      have hcat : (l ++ numsT X 5) ++ (itoaB (s.size : Int) ++ ⟨#[58]⟩ ++ s : ByteArray).data.toList = l ++ rowT X s := by
        simp [rowT, itoaB]
      replace hsz := Aside0.mk hsz
      replace hcat := Aside0.mk hcat
      replace hln := Aside0.mk hln
      replace hin := Aside0.mk hin
      replace hT := Aside0.mk hT
      replace hK := Aside0.mk hK
      go_wp2_with fail
      go_region_held3 (fun _ => True) (first | exact trivial)
        (first
          | (go_at_call 35; (with_reducible refine (itoa_calls (s.size : Int) hin.out _ (hv.out.belowW (hT.out.below (below_drew (Below.refl _ _))).base)).mono ?_); rintro e w1 ⟨rfl, hb1⟩; have hT1 := Aside0.mk ((hT.out.below (below_drew (Below.refl _ _))).below hb1))
          | (go_at_call 34; (with_reducible refine (write_calls hT1.out (itoaB (s.size : Int) ++ ⟨#[58]⟩ ++ s) hln.out).mono ?_); rintro e w2 ⟨rfl, hT2, hk5⟩))
      rw [hcat.out] at hT2
      have hT3 := Aside0.mk hT2
      have hK3 := Aside0.mk ((hK.out.trans (Kept5.of_below (below_drew (Below.refl _ _)))).trans ((Kept5.of_below hb1).trans hk5))
      clear hT2 hk5 hb1 hT1 hT hK
      go_wp2_with fail
      go_end0
      exact ⟨rfl, hT3.out, hK3.out⟩

end Go.Proofs.YtdpbklckeamjpaaDoor.Scr
