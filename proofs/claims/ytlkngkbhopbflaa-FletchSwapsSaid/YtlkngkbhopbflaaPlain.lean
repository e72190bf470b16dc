/- The sum of chapter 6 over lists of bytes: a fold; what one turned byte, two swapped bytes, zeros ahead and a text ahead do to it. Plain Lean, no program. -/
import Derived.RowKit
namespace Go.Proofs.Ytlkngkbhopbflaa.Plain

def st (p : Int × Int) (c : UInt8) : Int × Int := ((p.1 + c.toNat) % 255, (p.2 + (p.1 + c.toNat) % 255) % 255)
def fl (p : Int × Int) (l : List UInt8) : Int × Int := l.foldl st p
def ok (p : Int × Int) : Prop := 0 ≤ p.1 ∧ p.1 ≤ 254 ∧ 0 ≤ p.2 ∧ p.2 ≤ 254

theorem ok_zero : ok (0, 0) := by unfold ok; decide
theorem st_ok (p : Int × Int) (c : UInt8) : ok (st p c) := by unfold ok st; simp only; omega
theorem fl_ok : ∀ (l : List UInt8) (p : Int × Int), ok p → ok (fl p l)
  | [], _, h => h
  | c :: l, p, _ => fl_ok l (st p c) (st_ok p c)
theorem fl_nil (p : Int × Int) : fl p [] = p := rfl
theorem fl_cons (p : Int × Int) (c : UInt8) (l : List UInt8) : fl p (c :: l) = fl (st p c) l := rfl
theorem fl_append (p : Int × Int) (l m : List UInt8) : fl p (l ++ m) = fl (fl p l) m := List.foldl_append ..
theorem fl_zeros : ∀ n : Nat, fl (0, 0) (List.replicate n 0) = (0, 0)
  | 0 => rfl
  | n + 1 => by
    have h : st (0, 0) 0 = (0, 0) := by decide
    rw [List.replicate_succ, fl_cons, h]; exact fl_zeros n

theorem fl_fst : ∀ (l : List UInt8) (p q : Int × Int), ((fl p l).1 - (fl q l).1) % 255 = (p.1 - q.1) % 255
  | [], _, _ => rfl
  | c :: l, p, q => by
    rw [fl_cons, fl_cons, fl_fst l]; unfold st; simp only; omega

theorem fl_snd : ∀ (l : List UInt8) (p q : Int × Int), p.1 = q.1 → ((fl p l).2 - (fl q l).2) % 255 = (p.2 - q.2) % 255
  | [], _, _, _ => rfl
  | c :: l, p, q, h => by
    rw [fl_cons, fl_cons, fl_snd l _ _ (by unfold st; simp only [h])]; unfold st; simp only [h]; omega

theorem fl_fst_eq (l : List UInt8) (p q : Int × Int) (h : p.1 = q.1) (hp : ok p) (hq : ok q) : (fl p l).1 = (fl q l).1 := by
  have h1 := fl_fst l p q
  obtain ⟨a, b, _, _⟩ := fl_ok l p hp
  obtain ⟨c, d, _, _⟩ := fl_ok l q hq
  rw [h] at h1; omega

/-- The sum of a list. -/
def sum (l : List UInt8) : Int := 256 * (fl (0, 0) l).2 + (fl (0, 0) l).1

theorem sum_range (l : List UInt8) : 0 ≤ sum l ∧ sum l ≤ 65278 := by
  obtain ⟨a, b, c, d⟩ := fl_ok l _ ok_zero
  unfold sum; omega

theorem sum_zeros (n : Nat) (l : List UInt8) : sum (List.replicate n 0 ++ l) = sum l := by
  unfold sum; rw [fl_append, fl_zeros]

/-- One byte turned. -/
theorem sum_turned (l r : List UInt8) (x y : UInt8) (hne : x ≠ y) :
    sum (l ++ x :: r) = sum (l ++ y :: r) ↔ (x = 0 ∧ y = 255 ∨ x = 255 ∧ y = 0) := by
  have hx : x.toNat < 256 := x.toNat_lt
  have hy : y.toNat < 256 := y.toNat_lt
  have hne' : x.toNat ≠ y.toNat := fun h => hne (UInt8.toNat_inj.1 h)
  have e0 : ∀ z : UInt8, z = 0 ↔ z.toNat = 0 := fun z => ⟨fun h => by rw [h]; rfl, fun h => UInt8.toNat_inj.1 (by rw [h]; rfl)⟩
  have e1 : ∀ z : UInt8, z = 255 ↔ z.toNat = 255 := fun z => ⟨fun h => by rw [h]; rfl, fun h => UInt8.toNat_inj.1 (by rw [h]; rfl)⟩
  rw [e0, e0, e1, e1]
  unfold sum
  rw [fl_append, fl_append, fl_cons, fl_cons]
  generalize fl (0, 0) l = p
  have h1 := fl_fst r (st p x) (st p y)
  obtain ⟨a, b, c, d⟩ := fl_ok r (st p x) (st_ok _ _)
  obtain ⟨a', b', c', d'⟩ := fl_ok r (st p y) (st_ok _ _)
  constructor
  · intro h
    have h2 : (fl (st p x) r).1 = (fl (st p y) r).1 := by omega
    rw [h2] at h1
    unfold st at h1; simp only at h1
    omega
  · intro h
    have h2 : st p x = st p y := by unfold st; rcases h with ⟨h, h'⟩ | ⟨h, h'⟩ <;> rw [h, h'] <;> simp <;> omega
    rw [h2]

/-- Two neighbours swapped. -/
theorem sum_swapped (l r : List UInt8) (x y : UInt8) :
    sum (l ++ x :: y :: r) = sum (l ++ y :: x :: r) ↔ (x = y ∨ x = 0 ∧ y = 255 ∨ x = 255 ∧ y = 0) := by
  have hx : x.toNat < 256 := x.toNat_lt
  have hy : y.toNat < 256 := y.toNat_lt
  have e0 : ∀ z : UInt8, z = 0 ↔ z.toNat = 0 := fun z => ⟨fun h => by rw [h]; rfl, fun h => UInt8.toNat_inj.1 (by rw [h]; rfl)⟩
  have e1 : ∀ z : UInt8, z = 255 ↔ z.toNat = 255 := fun z => ⟨fun h => by rw [h]; rfl, fun h => UInt8.toNat_inj.1 (by rw [h]; rfl)⟩
  have e2 : x = y ↔ x.toNat = y.toNat := UInt8.toNat_inj.symm
  rw [e0, e0, e1, e1, e2]
  unfold sum
  rw [fl_append, fl_append, fl_cons, fl_cons, fl_cons, fl_cons]
  generalize fl (0, 0) l = p
  have hs : (st (st p x) y).1 = (st (st p y) x).1 := by unfold st; simp only; omega
  have h1 := fl_snd r (st (st p x) y) (st (st p y) x) hs
  have h0 := fl_fst_eq r _ _ hs (st_ok _ _) (st_ok _ _)
  obtain ⟨a, b, c, d⟩ := fl_ok r (st (st p x) y) (st_ok _ _)
  obtain ⟨a', b', c', d'⟩ := fl_ok r (st (st p y) x) (st_ok _ _)
  generalize fl (st (st p x) y) r = u at *
  generalize fl (st (st p y) x) r = v at *
  have h2 : ((st (st p x) y).2 - (st (st p y) x).2) % 255 = ((x.toNat : Int) - y.toNat) % 255 := by unfold st; simp only; omega
  rw [h2] at h1
  constructor
  · intro h
    have h3 : u.2 = v.2 := by omega
    rw [h3] at h1
    omega
  · intro h
    have h3 : u.2 = v.2 := by omega
    omega

end Go.Proofs.Ytlkngkbhopbflaa.Plain
