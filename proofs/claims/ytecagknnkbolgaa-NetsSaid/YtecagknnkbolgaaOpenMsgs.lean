/- An argument that is a slice of messages, opened to a list of messages. -/
import Derived.Test.YtecagknnkbolgaaNetA
import Derived.Deep.Slices
import Derived.Deep.Fields
import Derived.ChangeSame
import Derived.OpenShut
namespace Go.Proofs.Ytecagknnkbolgaa.NetW
open Go.RowKit Go.ChangeShapes Go.WideShapes Go.Deep Go.Proofs.YtecagknnkbolgaaW.PrintWords Go.Proofs.Ytecagknnkbolgaa.PNets

theorem of_three {α : Type} {l : List α} (h : l.length = 3) : ∃ a b c, l = [a, b, c] := by
  match l, h with
  | [a, b, c], _ => exact ⟨a, b, c, rfl⟩

theorem open_msg {H : Type} {enc : TypeId × Value → H} {w : World} {base : Nat} {spare : Nat → Bool} {held : Bool} {n : Nat} {cs : List Value} {x : DataW H × List MemPlace}
    (h : DataW.trod enc Try.prog w base spare held n 31 cs = some x) : ∃ m : S31, cs = [.int .i64 m.f0, .int .i64 m.f1, .string m.f2] := by
  obtain ⟨ys, n', -, -, hlen, hyl, hf⟩ := DataW.trod_struct Try.underlying31 h
  have hlen3 : cs.length = 3 := hlen.trans (by kernel_rfl)
  have hyl3 : ys.length = 3 := hyl
  obtain ⟨c0, c1, c2, rfl⟩ : ∃ a b c, cs = [a, b, c] := of_three hlen3
  obtain ⟨y0, y1, y2, rfl⟩ : ∃ a b c, ys = [a, b, c] := of_three hyl3
  have e3 : Try.prog.cellsOf 3 = 1 := by kernel_rfl
  have e9 : Try.prog.cellsOf 9 = 1 := by kernel_rfl
  have h0 := hf 0 _ rfl
  have h1 := hf 1 _ rfl
  have h2 := hf 2 _ rfl
  simp [e3, e9] at h0 h1 h2
  obtain ⟨z0, hz0, -, -⟩ := DataW.trod_int Try.underlying3 h0
  obtain ⟨z1, hz1, -, -⟩ := DataW.trod_int Try.underlying3 h1
  obtain ⟨z2, hz2, -, -⟩ := DataW.trod_string Try.underlying9 h2
  obtain rfl := List.cons.inj hz0 |>.1
  obtain rfl := List.cons.inj hz1 |>.1
  obtain rfl := List.cons.inj hz2 |>.1
  exact ⟨⟨z0, z1, z2⟩, rfl⟩

/-- A slice of messages that came in: its list. -/
theorem open_msgs {H : Type} {enc : TypeId × Value → H} {w : World} {base : Nat} {held : Bool} {a : Option Addr} {len cap : Nat} {d : DataW H} {p : List MemPlace}
    (h : DataW.Trod enc Try.prog w base (fun _ => true) held 22 (.slice a len cap) d p) : ∃ L : List S31, L.length = len ∧ len ≤ cap ∧ Kd.C k31 w a len L := by
  obtain ⟨fuel, hf⟩ := h
  rcases open_slice Try.underlying22 hf with ⟨hcs, -⟩ | ⟨x, l, c, m, n, D, Pl, hcs, -, hl, hm, hmm, -, hi⟩
  · simp [Value.cells] at hcs
    obtain ⟨rfl, rfl, rfl⟩ := hcs
    exact ⟨[], rfl, Nat.le_refl _, Kd.C_nil _ _⟩
  · simp [Value.cells] at hcs
    obtain ⟨rfl, rfl, rfl⟩ := hcs
    have e31 : Try.prog.cellsOf 31 = 3 := by kernel_rfl
    simp only [e31, ite_true] at hi hmm
    have hx : ∀ i, ∃ s : S31, i < len → w.cells? base (x.add (i * 3)) 3 = some [.int .i64 s.f0, .int .i64 s.f1, .string s.f2] := fun i => by
      by_cases hil : i < len
      · obtain ⟨cs', h1, h2⟩ := hi i (by omega)
        obtain ⟨s, rfl⟩ := open_msg h2
        exact ⟨s, fun _ => h1⟩
      · exact ⟨z31, fun h => absurd h hil⟩
    obtain ⟨f, hfs⟩ := Classical.axiomOfChoice hx
    refine ⟨(List.range len).map f, by simp, hl, by simp, by unfold maxLen at hm; omega, fun _ => ⟨x, rfl, fun j q hj => ?_⟩⟩
    have hjl : j < len := by
      have := (List.getElem?_eq_some_iff.1 hj).1
      simpa using this
    rw [List.getElem?_map, List.getElem?_range hjl] at hj
    obtain rfl : f j = q := Option.some.inj hj
    obtain ⟨-, -, hc⟩ := World.cells?_some (hfs j hjl)
    refine ⟨_, rfl, k31_mk _ _, fun i u hu => ?_⟩
    have hi3 : i < 3 := (List.getElem?_eq_some_iff.1 hu).1
    rw [← Go.Deep.add_add]
    exact (hc i hi3).trans hu

end Go.Proofs.Ytecagknnkbolgaa.NetW
