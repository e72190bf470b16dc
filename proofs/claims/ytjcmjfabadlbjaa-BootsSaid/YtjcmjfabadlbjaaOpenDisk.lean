/- A disk that comes in by value, opened and shut: two strings. -/
import Derived.Test.YtjcmjfabadlbjaaRows
import Derived.OpenShut
import Derived.ProofKit
import Derived.SizedLaws
import Derived.ChangeArms
import Derived.WideShapes

namespace Go.Proofs.Ytjcmjfabadlbjaa.Disk
open Go.ChangeShapes Go.WideShapes
variable {H : Type} {enc : TypeId × Value → H} {w : World} {base : Nat} {spare : Nat → Bool} {held : Bool}

theorem cells45 : Try.prog.cellsOf 45 = 2 := by kernel_rfl
theorem cells43 : Try.prog.cellsOf 43 = 2 := by kernel_rfl
theorem cells9 : Try.prog.cellsOf 9 = 1 := by kernel_rfl

theorem array2_ {α : Type} {cs : Array α} (h : cs.size = 2) : ∃ c0 c1, cs = #[c0, c1] := by
  obtain ⟨l⟩ := cs
  match l, h with
  | [c0, c1], _ => exact ⟨c0, c1, rfl⟩

/-- A disk's datum. -/
def datum (H : Type) (a b : ByteArray) : DataW H := .agg [.agg [.lit (.string a.data.toList), .lit (.string b.data.toList)]]

theorem open_disk {r : Reach} {b0 : Nat} {v : Value} {d : DataW H} {p : List MemPlace} (hv : Value.okWide Try.prog w r b0 45 v) (h : DataW.Trod enc Try.prog w base spare held 45 v d p) :
    ∃ a b : ByteArray, v = .agg #[.string a, .string b] ∧ d = datum H a b ∧ p = [] ∧ a.size ≤ maxLen ∧ b.size ≤ maxLen := by
  obtain ⟨cs, rfl, hsz⟩ := okWide_struct Try.underlying45 hv
  obtain ⟨c0, c1, rfl⟩ := array2_ (hsz.trans cells45)
  obtain ⟨fuel, hf⟩ := h
  obtain ⟨xs, n, _, hx, _, hlen, hfield⟩ := DataW.trod_struct Try.underlying45 hf
  match xs, hlen with
  | [y], _ =>
    have h0 : DataW.trod enc Try.prog w base spare held n 43 ((([c0, c1] : List Value).drop 0).take (Try.prog.cellsOf 43)) = some y := hfield 0 _ rfl
    rw [cells43] at h0
    have h1 : DataW.trod enc Try.prog w base spare held n 43 [c0, c1] = some y := h0
    obtain ⟨ys, m, _, hy, _, hlen2, helem⟩ := DataW.trod_array Try.underlying43 h1
    match ys, hlen2 with
    | [z0, z1], _ =>
      have e0 := helem 0 (by omega)
      have e1 := helem 1 (by omega)
      rw [cells9] at e0 e1
      have e0' : DataW.trod enc Try.prog w base spare held m 9 [c0] = some z0 := e0
      have e1' : DataW.trod enc Try.prog w base spare held m 9 [c1] = some z1 := e1
      obtain ⟨a, ha, hz0, hsa⟩ := DataW.trod_string Try.underlying9 e0'
      obtain ⟨b, hb, hz1, hsb⟩ := DataW.trod_string Try.underlying9 e1'
      injection ha with ha
      injection hb with hb
      simp only [Prod.mk.injEq] at hx
      refine ⟨a, b, by rw [ha, hb], ?_, ?_, hsa, hsb⟩
      · rw [hx.1]; simp [hy, hz0, hz1, datum]
      · rw [hx.2]; simp [hy, hz0, hz1]

theorem shut9 (n : Nat) (a : ByteArray) (ha : a.size ≤ maxLen) : DataW.trod enc Try.prog w base spare held (n + 1) 9 [.string a] = some (.lit (.string a.data.toList), []) := by
  unfold DataW.trod
  rw [Try.underlying9]
  simp [ha]
theorem shut43 (n : Nat) (a b : ByteArray) (ha : a.size ≤ maxLen) (hb : b.size ≤ maxLen) : DataW.trod enc Try.prog w base spare held (n + 2) 43 [.string a, .string b] = some (.agg [.lit (.string a.data.toList), .lit (.string b.data.toList)], []) := by
  unfold DataW.trod
  rw [Try.underlying43]
  have r2 : List.range 2 = [0, 1] := rfl
  simp [r2, cells43, cells9, shut9, ha, hb]
theorem shut_disk (a b : ByteArray) (ha : a.size ≤ maxLen) (hb : b.size ≤ maxLen) : DataW.Trod enc Try.prog w base spare held 45 (.agg #[.string a, .string b]) (datum H a b) [] := by
  refine ⟨3, ?_⟩
  unfold DataW.trod
  rw [Try.underlying45]
  simp [Value.cells, cells45, cells43, shut43, ha, hb, datum]

end Go.Proofs.Ytjcmjfabadlbjaa.Disk
