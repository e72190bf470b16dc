/- The text of acts; the package's Show, step by step. -/
import Derived.Test.YtdpbklckeamjpaaDoorScrG
namespace Go.Proofs.YtdpbklckeamjpaaDoor.Scr
open Go.RowKit Go.Proofs.YtdpbklckeamjpaaDoorW.PrintWords Go.Proofs.YtdpbklckeamjpaaDoorW.PrintLast Go.Proofs.YtdpbklckeamjpaaDoorW.PrintMore Go.Proofs.YtdpbklckeamjpaaDoor.PScripts

/-- The five numbers of an act, of a key. -/
def nums5 (a : S36) : Nat → Int | 0 => a.f0 | 1 => a.f1 | 2 => a.f2 | 3 => a.f3 | _ => a.f4
def keys5 (k : S34) : Nat → Int | 0 => k.f0 | 1 => k.f2 | 2 => k.f3 | 3 => k.f4 | _ => k.f5
def offs5 : Nat → Nat | 0 => 6 | 1 => 8 | 2 => 9 | 3 => 10 | _ => 11
/-- The text of an act; of acts. -/
def tell1 (a : S36) : List UInt8 := rowT (nums5 a) a.f5 ++ (if a.f0 = 7 then rowT (keys5 a.f6) a.f6.f1 else [])
def tellT (ac : List S36) : List UInt8 := ac.flatMap tell1

theorem upB_true {x m : Int} (h : upB x m = true) : 0 ≤ x ∧ x ≤ m := by
  unfold upB at h
  simpa using h
/-- What an act that may be keeps to. -/
theorem may_bounds {a : S36} (h : mayB a = true) : (∀ i, i < 5 → 0 ≤ nums5 a i ∧ nums5 a i ≤ 65535) ∧ a.f5.size ≤ 556 ∧ (a.f0 = 7 → (∀ i, i < 5 → 0 ≤ keys5 a.f6 i ∧ keys5 a.f6 i ≤ 1048576) ∧ a.f6.f1.size ≤ 32) := by
  unfold mayB at h
  simp only [Bool.and_eq_true] at h
  obtain ⟨⟨⟨⟨⟨⟨⟨⟨⟨⟨⟨h0, h1⟩, h2⟩, h3⟩, h4⟩, hk⟩, hs⟩, -⟩, -⟩, -⟩, -⟩, -⟩ := h
  have h0 := upB_true h0
  have h1 := upB_true h1
  have h2 := upB_true h2
  have h3 := upB_true h3
  have h4 := upB_true h4
  refine ⟨fun i hi => ?_, by have := of_decide_eq_true hs; omega, fun h7 => ?_⟩
  · have : i = 0 ∨ i = 1 ∨ i = 2 ∨ i = 3 ∨ i = 4 := by omega
    rcases this with rfl | rfl | rfl | rfl | rfl
    all_goals
      simp only [nums5]
      omega
  · have hkey : keyB a.f6 = true := by simpa [h7] using hk.2
    unfold keyB at hkey
    simp only [Bool.and_eq_true] at hkey
    obtain ⟨k0, k1, k2, k3, k4, k5⟩ := hkey
    have k0 := upB_true k0
    have k2 := upB_true k2
    have k3 := upB_true k3
    have k4 := upB_true k4
    have k5 := upB_true k5
    unfold secretB at k1
    simp only [Bool.and_eq_true, decide_eq_true_eq] at k1
    refine ⟨fun i hi => ?_, by omega⟩
    have : i = 0 ∨ i = 1 ∨ i = 2 ∨ i = 3 ∨ i = 4 := by omega
    rcases this with rfl | rfl | rfl | rfl | rfl
    all_goals
      simp only [keys5]
      omega
theorem in64_of {X : Nat → Int} {m : Int} (hm : m ≤ 9223372036854775807) (h : ∀ i, i < 5 → 0 ≤ X i ∧ X i ≤ m) : ∀ i, i < 5 → In64 (X i) := fun i hi => ⟨by have := h i hi; omega, by have := h i hi; omega⟩
theorem rowT_length {X : Nat → Int} (hX : ∀ i, i < 5 → In64 (X i)) (s : ByteArray) (hs : s.size ≤ 1000000) : (rowT X s).length ≤ 132 + s.size := by
  unfold rowT
  have h1 := numsT_length X hX 5 (by omega)
  have h2 := Lib.itoa_length_le (s.size : Int) (by omega) (by omega)
  have h3 : s.data.toList.length = s.size := by rw [Array.length_toList]; rfl
  simp only [List.length_append, List.length_cons, h3]
  omega
theorem tell1_length {a : S36} (h : mayB a = true) : (tell1 a).length ≤ 1000 := by
  obtain ⟨h1, h2, h3⟩ := may_bounds h
  have e1 := rowT_length (in64_of (by omega) h1) a.f5 (by omega)
  unfold tell1
  rw [List.length_append]
  split
  · rename_i h7
    obtain ⟨k1, k2⟩ := h3 h7
    have e2 := rowT_length (in64_of (by omega) k1) a.f6.f1 (by omega)
    omega
  · simp
    omega
theorem tellT_length {ac : List S36} (h : ∀ a, a ∈ ac → mayB a = true) : (tellT ac).length ≤ 1000 * ac.length := by
  induction ac with
  | nil => simp [tellT]
  | cons a ac ih =>
    have h1 := tell1_length (h a (by simp))
    have h2 := ih (fun x hx => h x (by simp [hx]))
    unfold tellT at h2 ⊢
    simp only [List.flatMap_cons, List.length_append, List.length_cons]
    omega
theorem tellT_snoc (ac : List S36) (a : S36) : tellT (ac ++ [a]) = tellT ac ++ tell1 a := by simp [tellT]

theorem Box.nums {W : World} {ga : Nat} {a : S36} (h : Box W ga a) (i : Nat) (hi : i < 5) : W.cell? ⟨ga, i, none⟩ = some (.int .i64 (nums5 a i)) := by
  have : i = 0 ∨ i = 1 ∨ i = 2 ∨ i = 3 ∨ i = 4 := by omega
  rcases this with rfl | rfl | rfl | rfl | rfl
  all_goals exact (h.cell _).trans rfl
theorem Box.keys {W : World} {ga : Nat} {a : S36} (h : Box W ga a) (i : Nat) (hi : i < 5) : W.cell? ⟨ga, offs5 i, none⟩ = some (.int .i64 (keys5 a.f6 i)) := by
  have : i = 0 ∨ i = 1 ∨ i = 2 ∨ i = 3 ∨ i = 4 := by omega
  rcases this with rfl | rfl | rfl | rfl | rfl
  all_goals exact (h.cell _).trans rfl

/-- The rows of an act in a variable. -/
theorem row_nums {w0 W : World} {b : Nat} {l : List UInt8} (hv : Vars w0) (hT : Tell w0 W b l) (hl : l.length ≤ 900000000) (ga gx : Nat) (a : S36) (hga : ga ≠ b) (hgx : gx ≠ b) (hA : Box W ga a) (ha : mayB a = true)
    (hR : W.heap[gx]? = some (.cells #[.pointer (some ⟨ga, 0, none⟩), .pointer (some ⟨ga, 1, none⟩), .pointer (some ⟨ga, 2, none⟩), .pointer (some ⟨ga, 3, none⟩), .pointer (some ⟨ga, 4, none⟩)] 73 (0, 0))) :
    Calls Tryd.prog 17 #[.pointer (some ⟨b, 0, none⟩), .slice (some ⟨gx, 0, none⟩) 5 5, .string a.f5] W fun e W' => e = .returned (.tuple #[]) ∧ Tell w0 W' b (l ++ rowT (nums5 a) a.f5) ∧ Kept5 b W W' :=
  row_calls hv hT hl ga gx a hga hgx hA (fun i => i) (nums5 a) (in64_of (by omega) (may_bounds ha).1) (fun _ h i hi => h.nums i hi) hR a.f5 (by have := (may_bounds ha).2.1; omega)
theorem row_keys {w0 W : World} {b : Nat} {l : List UInt8} (hv : Vars w0) (hT : Tell w0 W b l) (hl : l.length ≤ 900000000) (ga gx : Nat) (a : S36) (hga : ga ≠ b) (hgx : gx ≠ b) (hA : Box W ga a) (ha : mayB a = true) (h7 : a.f0 = 7)
    (hR : W.heap[gx]? = some (.cells #[.pointer (some ⟨ga, 6, none⟩), .pointer (some ⟨ga, 8, none⟩), .pointer (some ⟨ga, 9, none⟩), .pointer (some ⟨ga, 10, none⟩), .pointer (some ⟨ga, 11, none⟩)] 73 (0, 0))) :
    Calls Tryd.prog 17 #[.pointer (some ⟨b, 0, none⟩), .slice (some ⟨gx, 0, none⟩) 5 5, .string a.f6.f1] W fun e W' => e = .returned (.tuple #[]) ∧ Tell w0 W' b (l ++ rowT (keys5 a.f6) a.f6.f1) ∧ Kept5 b W W' :=
  row_calls hv hT hl ga gx a hga hgx hA offs5 (keys5 a.f6) (in64_of (by omega) ((may_bounds ha).2.2 h7).1) (fun _ h i hi => h.keys i hi) hR a.f6.f1 (by have := ((may_bounds ha).2.2 h7).2; omega)

/-- What Show answers. -/
def okB (ac : List S36) : Bool := decide (ac.length ≤ 256) && ac.all mayB
def showF (ac : List S36) : ByteArray × Int := if okB ac = true then (⟨(tellT ac).toArray⟩, 0) else (⟨#[]⟩, 2300)

end Go.Proofs.YtdpbklckeamjpaaDoor.Scr
