/- The laws' helpers: two lists that are one, a number; the text read back in plain Lean. -/
import Derived.Test.YtdpbklckeamjpaaDoorScrN
import Derived.Test.YtdpbklckeamjpaaDoorPScriptsx5
namespace Go.Proofs.YtdpbklckeamjpaaDoor.Scr
open Go.RowKit Go.Proofs.YtdpbklckeamjpaaDoorW.PrintWords Go.Proofs.YtdpbklckeamjpaaDoorW.PrintLast Go.Proofs.YtdpbklckeamjpaaDoorW.PrintMore Go.Proofs.YtdpbklckeamjpaaDoor.PScripts

theorem same_l0 (l : List S36) (hl : l.length < 4611686018427387904) : ∀ (k : Nat) (i : Nat), i + k = l.length → watchwordlaw0_SameActs.l0 (k + 1) l l (i : Int) = some true
  | 0, i, h => by
    unfold watchwordlaw0_SameActs.l0
    rw [if_neg (by omega)]
  | k + 1, i, h => by
    unfold watchwordlaw0_SameActs.l0
    rw [if_pos (by omega), if_pos (by omega), if_pos (by omega)]
    simp only [beq_self_eq_true, Bool.not_true, Bool.or_self, Bool.false_eq_true, if_false]
    have hw : wrap64 ((i : Int) + 1) = ((i + 1 : Nat) : Int) := by
      unfold wrap64
      omega
    rw [hw]
    exact same_l0 l hl k (i + 1) (by omega)

theorem same_calls (A0 : Option Addr) (c0 : Nat) (l : List S36) (A1 : Option Addr) (c1 : Nat) (w : World) (hl : l.length < 4611686018427387904) (hr0 : Kd.C k36 w A0 l.length l) (hc0 : l.length ≤ c0) (hr1 : Kd.C k36 w A1 l.length l) (hc1 : l.length ≤ c1) :
    Calls Tryd.prog 12 #[.slice A0 l.length c0, .slice A1 l.length c1] w fun e w' => e = .returned (.bool true) ∧ Drawn0 w w' :=
  watchwordlaw0_SameActs.calls (l.length + 1) A0 c0 l A1 c1 l true w hr0 hc0 hr1 hc1 (by
    unfold watchwordlaw0_SameActs.f
    rw [if_pos rfl]
    exact same_l0 l hl l.length 0 (by omega))

theorem num_calls (x : Int) (w : World) : Calls Tryd.prog 10 #[.int .i64 x] w fun e w' => e = .returned (.int .i64 x) ∧ w' = w := by
  go_enter Tryd.func10, Tryd.ntmps10
  go_wp2
  go_ret
  exact ⟨rfl, rfl⟩

/-- Digits at the front, and the rest. -/
def takeDig : List UInt8 → List UInt8 × List UInt8
  | [] => ([], [])
  | c :: l => if 48 ≤ c.toNat ∧ c.toNat ≤ 57 then (c :: (takeDig l).1, (takeDig l).2) else ([], c :: l)
def valP (l : List UInt8) : Int := match Lib.parseUint10 0 l with | .ok n => n | _ => 0
def numP (l : List UInt8) : Int × List UInt8 := (valP (takeDig l).1, (takeDig l).2.drop 1)
theorem takeDig_app : ∀ (d : List UInt8) (c : UInt8) (q : List UInt8), (∀ x, x ∈ d → 48 ≤ x.toNat ∧ x.toNat ≤ 57) → ¬ (48 ≤ c.toNat ∧ c.toNat ≤ 57) → takeDig (d ++ c :: q) = (d, c :: q)
  | [], c, q, _, hc => by
    simp only [List.nil_append, takeDig]
    rw [if_neg hc]
  | x :: d, c, q, h, hc => by
    simp only [List.cons_append, takeDig]
    rw [if_pos (h x (by simp)), takeDig_app d c q (fun y hy => h y (by simp [hy])) hc]
theorem numP_itoa (x : Int) (h0 : 0 ≤ x) (h1 : x < 9223372036854775808) (c : UInt8) (hc : ¬ (48 ≤ c.toNat ∧ c.toNat ≤ 57)) (q : List UInt8) : numP (Lib.itoa x ++ c :: q) = (x, q) := by
  obtain ⟨n, rfl⟩ : ∃ n : Nat, x = n := ⟨x.toNat, by omega⟩
  rw [itoa_nat]
  unfold numP
  rw [takeDig_app _ c q (dec_digits n) hc]
  unfold valP
  rw [parse_dec n (by omega)]
  rfl
/-- A row: five numbers, a text. -/
structure RowP where
  a : Int
  b : Int
  c : Int
  d : Int
  e : Int
  s : ByteArray
  r : List UInt8
def rowP (l : List UInt8) : RowP :=
  let a := numP l
  let b := numP a.2
  let c := numP b.2
  let d := numP c.2
  let e := numP d.2
  let n := numP e.2
  ⟨a.1, b.1, c.1, d.1, e.1, ⟨(n.2.take n.1.toNat).toArray⟩, n.2.drop n.1.toNat⟩
theorem rowP_row (X : Nat → Int) (s : ByteArray) (h : Small X s) (q : List UInt8) : rowP (rowT X s ++ q) = ⟨X 0, X 1, X 2, X 3, X 4, s, q⟩ := by
  have hX := h.1
  have h32 : ¬ (48 ≤ (32 : UInt8).toNat ∧ (32 : UInt8).toNat ≤ 57) := by decide
  have h58 : ¬ (48 ≤ (58 : UInt8).toNat ∧ (58 : UInt8).toNat ≤ 57) := by decide
  have e : rowT X s ++ q = Lib.itoa (X 0) ++ 32 :: (Lib.itoa (X 1) ++ 32 :: (Lib.itoa (X 2) ++ 32 :: (Lib.itoa (X 3) ++ 32 :: (Lib.itoa (X 4) ++ 32 :: (Lib.itoa (s.size : Int) ++ 58 :: (s.data.toList ++ q)))))) := by
    unfold rowT
    rw [← numsFrom_zero, numsFrom_step X 0 (by omega), numsFrom_step X 1 (by omega), numsFrom_step X 2 (by omega), numsFrom_step X 3 (by omega), numsFrom_step X 4 (by omega), numsFrom_five]
    simp
  rw [e]
  unfold rowP
  simp only
  rw [numP_itoa _ (hX 0 (by omega)).1 (hX 0 (by omega)).2 _ h32]
  simp only
  rw [numP_itoa _ (hX 1 (by omega)).1 (hX 1 (by omega)).2 _ h32]
  simp only
  rw [numP_itoa _ (hX 2 (by omega)).1 (hX 2 (by omega)).2 _ h32]
  simp only
  rw [numP_itoa _ (hX 3 (by omega)).1 (hX 3 (by omega)).2 _ h32]
  simp only
  rw [numP_itoa _ (hX 4 (by omega)).1 (hX 4 (by omega)).2 _ h32]
  simp only
  rw [numP_itoa _ (by omega) (by have := h.2; omega) _ h58]
  have hz : s.data.toList.length = s.size := by rw [Array.length_toList]; rfl
  simp only [Int.toNat_natCast]
  rw [← hz, List.take_left, List.drop_left]
def actP (l : List UInt8) : S36 × List UInt8 :=
  let r := rowP l
  if r.a = 7 then
    let k := rowP r.r
    (⟨r.a, r.b, r.c, r.d, r.e, r.s, ⟨k.a, k.s, k.b, k.c, k.d, k.e⟩⟩, k.r)
  else (⟨r.a, r.b, r.c, r.d, r.e, r.s, z34⟩, r.r)
theorem actP_tell (a : S36) (h : mayB a = true) (q : List UInt8) : actP (tell1 a ++ q) = (a, q) := by
  unfold actP
  rw [tell_row, rowP_row _ _ (small_nums h)]
  by_cases h7 : a.f0 = 7
  · have h7' : nums5 a 0 = 7 := h7
    simp only [h7', h7, if_true]
    rw [rowP_row _ _ (small_keys h h7)]
    obtain ⟨f0, f1, f2, f3, f4, f5, g0, g1, g2, g3, g4, g5⟩ := a
    have : f0 = 7 := h7
    subst this
    rfl
  · have h7' : ¬ nums5 a 0 = 7 := h7
    simp only [h7', h7, if_false, List.nil_append]
    have hk := no_key h h7
    obtain ⟨f0, f1, f2, f3, f4, f5, g⟩ := a
    have : g = z34 := hk
    subst this
    rfl
def actsP : Nat → List UInt8 → List S36
  | 0, _ => []
  | n + 1, l => if l.isEmpty then [] else (actP l).1 :: actsP n (actP l).2
theorem actsP_tell : ∀ (c : List S36) (n : Nat), (∀ a, a ∈ c → mayB a = true) → c.length ≤ n → actsP n (tellT c) = c
  | [], 0, _, _ => rfl
  | [], n + 1, _, _ => rfl
  | a :: c, 0, _, h => by simp at h
  | a :: c, n + 1, hm, h => by
    have e : tellT (a :: c) = tell1 a ++ tellT c := by unfold tellT; rw [List.flatMap_cons]
    have hne : (tell1 a ++ tellT c).isEmpty = false := by
      cases h : tell1 a with
      | nil => exact absurd h (tell1_ne a)
      | cons x l => rfl
    unfold actsP
    rw [e, hne, actP_tell a (hm a (by simp))]
    simp only [Bool.false_eq_true, if_false]
    rw [actsP_tell c n (fun x hx => hm x (by simp [hx])) (by simpa using h)]
/-- One text is one row of acts. -/
theorem tell_inj {c c' : List S36} (h : okB c = true) (h' : okB c' = true) (e : tellT c = tellT c') : c = c' := by
  rw [← actsP_tell c 256 (ok_may h).2 (ok_may h).1, ← actsP_tell c' 256 (ok_may h').2 (ok_may h').1, e]
/-- A text that tells no acts that may be. -/
def noTell (s : List UInt8) : Bool := !(okB (actsP 256 s) && decide (tellT (actsP 256 s) = s))
theorem no_tell {s : List UInt8} (h : noTell s = true) (c : List S36) (hc : okB c = true) : s ≠ tellT c := by
  intro e
  subst e
  unfold noTell at h
  rw [actsP_tell c 256 (ok_may hc).2 (ok_may hc).1, hc, decide_eq_true rfl] at h
  cases h

end Go.Proofs.YtdpbklckeamjpaaDoor.Scr
