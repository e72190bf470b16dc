/- An argument that is a slice of acts, opened to a list of acts. -/
import Derived.Test.YtdpbklckeamjpaaDoorScrQ
import Derived.Deep.Slices
import Derived.Deep.Fields
import Derived.ChangeSame
import Derived.OpenShut
namespace Go.Proofs.YtdpbklckeamjpaaDoor.Scr
open Go.RowKit Go.ChangeShapes Go.WideShapes Go.Deep Go.Proofs.YtdpbklckeamjpaaDoorW.PrintWords Go.Proofs.YtdpbklckeamjpaaDoor.PScripts

theorem of_six {α : Type} {l : List α} (h : l.length = 6) : ∃ a b c d e f, l = [a, b, c, d, e, f] := by
  match l, h with
  | [a, b, c, d, e, f], _ => exact ⟨a, b, c, d, e, f, rfl⟩
theorem of_seven {α : Type} {l : List α} (h : l.length = 7) : ∃ a b c d e f g, l = [a, b, c, d, e, f, g] := by
  match l, h with
  | [a, b, c, d, e, f, g], _ => exact ⟨a, b, c, d, e, f, g, rfl⟩
theorem of_twelve {α : Type} {l : List α} (h : l.length = 12) : ∃ a b c d e f g h i j k m, l = [a, b, c, d, e, f, g, h, i, j, k, m] := by
  match l, h with
  | [a, b, c, d, e, f, g, h, i, j, k, m], _ => exact ⟨a, b, c, d, e, f, g, h, i, j, k, m, rfl⟩

section
variable {H : Type} {enc : TypeId × Value → H} {w : World} {base : Nat} {spare : Nat → Bool} {held : Bool}
theorem e3 : Tryd.prog.cellsOf 3 = 1 := by kernel_rfl
theorem e34 : Tryd.prog.cellsOf 34 = 6 := by kernel_rfl
theorem e36 : Tryd.prog.cellsOf 36 = 12 := by kernel_rfl
theorem open_key {n : Nat} {cs : List Value} {x : DataW H × List MemPlace}
    (h : DataW.trod enc Tryd.prog w base spare held n 34 cs = some x) : ∃ m : S34, cs = [.int .i64 m.f0, .string m.f1, .int .i64 m.f2, .int .i64 m.f3, .int .i64 m.f4, .int .i64 m.f5] := by
  obtain ⟨ys, n', -, -, hlen, hyl, hf⟩ := DataW.trod_struct Tryd.underlying34 h
  have hyl6 : ys.length = 6 := hyl
  obtain ⟨c0, c1, c2, c3, c4, c5, rfl⟩ := of_six (hlen.trans e34)
  obtain ⟨y0, y1, y2, y3, y4, y5, rfl⟩ := of_six hyl6
  have h0 := hf 0 _ rfl
  have h1 := hf 1 _ rfl
  have h2 := hf 2 _ rfl
  have h3 := hf 3 _ rfl
  have h4 := hf 4 _ rfl
  have h5 := hf 5 _ rfl
  simp [e3, c9] at h0 h1 h2 h3 h4 h5
  obtain ⟨z0, hz0, -, -⟩ := DataW.trod_int Tryd.underlying3 h0
  obtain ⟨z1, hz1, -, -⟩ := DataW.trod_string Tryd.underlying9 h1
  obtain ⟨z2, hz2, -, -⟩ := DataW.trod_int Tryd.underlying3 h2
  obtain ⟨z3, hz3, -, -⟩ := DataW.trod_int Tryd.underlying3 h3
  obtain ⟨z4, hz4, -, -⟩ := DataW.trod_int Tryd.underlying3 h4
  obtain ⟨z5, hz5, -, -⟩ := DataW.trod_int Tryd.underlying3 h5
  obtain rfl := List.cons.inj hz0 |>.1
  obtain rfl := List.cons.inj hz1 |>.1
  obtain rfl := List.cons.inj hz2 |>.1
  obtain rfl := List.cons.inj hz3 |>.1
  obtain rfl := List.cons.inj hz4 |>.1
  obtain rfl := List.cons.inj hz5 |>.1
  exact ⟨⟨z0, z1, z2, z3, z4, z5⟩, rfl⟩
theorem open_act {n : Nat} {cs : List Value} {x : DataW H × List MemPlace}
    (h : DataW.trod enc Tryd.prog w base spare held n 36 cs = some x) : ∃ m : S36, cs = (cells12 m).toList := by
  obtain ⟨ys, n', -, -, hlen, hyl, hf⟩ := DataW.trod_struct Tryd.underlying36 h
  have hyl7 : ys.length = 7 := hyl
  obtain ⟨c0, c1, c2, c3, c4, c5, c6, c7, c8, c9', c10, c11, rfl⟩ := of_twelve (hlen.trans e36)
  obtain ⟨y0, y1, y2, y3, y4, y5, y6, rfl⟩ := of_seven hyl7
  have h0 := hf 0 _ rfl
  have h1 := hf 1 _ rfl
  have h2 := hf 2 _ rfl
  have h3 := hf 3 _ rfl
  have h4 := hf 4 _ rfl
  have h5 := hf 5 _ rfl
  have h6 := hf 6 _ rfl
  simp [e3, c9, e34] at h0 h1 h2 h3 h4 h5 h6
  obtain ⟨z0, hz0, -, -⟩ := DataW.trod_int Tryd.underlying3 h0
  obtain ⟨z1, hz1, -, -⟩ := DataW.trod_int Tryd.underlying3 h1
  obtain ⟨z2, hz2, -, -⟩ := DataW.trod_int Tryd.underlying3 h2
  obtain ⟨z3, hz3, -, -⟩ := DataW.trod_int Tryd.underlying3 h3
  obtain ⟨z4, hz4, -, -⟩ := DataW.trod_int Tryd.underlying3 h4
  obtain ⟨z5, hz5, -, -⟩ := DataW.trod_string Tryd.underlying9 h5
  obtain ⟨k, hk⟩ := open_key h6
  obtain rfl := List.cons.inj hz0 |>.1
  obtain rfl := List.cons.inj hz1 |>.1
  obtain rfl := List.cons.inj hz2 |>.1
  obtain rfl := List.cons.inj hz3 |>.1
  obtain rfl := List.cons.inj hz4 |>.1
  obtain rfl := List.cons.inj hz5 |>.1
  simp only [List.cons.injEq, and_true] at hk
  obtain ⟨rfl, rfl, rfl, rfl, rfl, rfl⟩ := hk
  exact ⟨⟨z0, z1, z2, z3, z4, z5, k⟩, rfl⟩
end

/-- A slice of acts that came in: its list. -/
theorem open_acts {H : Type} {enc : TypeId × Value → H} {w : World} {base : Nat} {held : Bool} {a : Option Addr} {len cap : Nat} {d : DataW H} {p : List MemPlace}
    (h : DataW.Trod enc Tryd.prog w base (fun _ => true) held 22 (.slice a len cap) d p) : ∃ L : List S36, L.length = len ∧ len ≤ cap ∧ Kd.C k36 w a len L := by
  obtain ⟨fuel, hf⟩ := h
  rcases open_slice Tryd.underlying22 hf with ⟨hcs, -⟩ | ⟨x, l, c, m, n, D, Pl, hcs, -, hl, hm, hmm, -, hi⟩
  · simp [Value.cells] at hcs
    obtain ⟨rfl, rfl, rfl⟩ := hcs
    exact ⟨[], rfl, Nat.le_refl _, Kd.C_nil _ _⟩
  · simp [Value.cells] at hcs
    obtain ⟨rfl, rfl, rfl⟩ := hcs
    have e36x : Tryd.prog.cellsOf 36 = 12 := by kernel_rfl
    simp only [e36x, ite_true] at hi hmm
    have hx : ∀ i, ∃ s : S36, i < len → w.cells? base (x.add (i * 12)) 12 = some (cells12 s).toList := fun i => by
      by_cases hil : i < len
      · obtain ⟨cs', h1, h2⟩ := hi i (by omega)
        obtain ⟨s, rfl⟩ := open_act h2
        exact ⟨s, fun _ => h1⟩
      · exact ⟨z36, fun h => absurd h hil⟩
    obtain ⟨f, hfs⟩ := Classical.axiomOfChoice hx
    refine ⟨(List.range len).map f, by simp, hl, by simp, by unfold maxLen at hm; omega, fun _ => ⟨x, rfl, fun j q hj => ?_⟩⟩
    have hjl : j < len := by
      have := (List.getElem?_eq_some_iff.1 hj).1
      simpa using this
    rw [List.getElem?_map, List.getElem?_range hjl] at hj
    obtain rfl : f j = q := Option.some.inj hj
    obtain ⟨-, -, hc⟩ := World.cells?_some (hfs j hjl)
    refine ⟨_, rfl, k36_mk _ _, fun i u hu => ?_⟩
    have hi3 : i < 12 := (List.getElem?_eq_some_iff.1 hu).1
    rw [← Go.Deep.add_add]
    exact (hc i hi3).trans hu

end Go.Proofs.YtdpbklckeamjpaaDoor.Scr
