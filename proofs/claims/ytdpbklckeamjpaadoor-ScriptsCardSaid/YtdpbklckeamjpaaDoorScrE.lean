/- A Builder inside the package's teller: what it holds; WriteString, step by step. -/
import Derived.Test.YtdpbklckeamjpaaDoorScrB
import Derived.Lib.AppendStr
import Derived.Lib.UnsafeStr
import Derived.Laws.Externs
import Derived.WalkSpells
import Derived.Shelf.RegionOpenPlain
namespace Go.Proofs.YtdpbklckeamjpaaDoor.Scr
open Go.RowKit Go.Proofs.YtdpbklckeamjpaaDoorW.PrintWords Go.Proofs.YtdpbklckeamjpaaDoorW.PrintLast Go.Proofs.YtdpbklckeamjpaaDoorW.PrintMore Go.Proofs.YtdpbklckeamjpaaDoor.PScripts

theorem size48 : (Tryd.prog.info? 48).map (fun i => i.size) = some 2 := by kernel_rfl
theorem infoByte : (Tryd.prog.info? 5).map (fun i => (i.zero, i.size, i.bytes)) = some (some (.int .u8 0), 1, 1) := by kernel_rfl

set_option maxHeartbeats 1000000 in
set_option maxRecDepth 100000 in
theorem check_used (b : Nat) (w : World) (h0 : w.cell? ⟨b, 0, none⟩ = some (.pointer (some ⟨b, 0, none⟩))) :
    Calls Tryd.prog 43 #[.pointer (some ⟨b, 0, none⟩)] w fun e w' => e = .returned (.tuple #[]) ∧ w' = w := by
  obtain ⟨j, hj, -⟩ := Option.map_eq_some_iff.1 size48
  go_enter Tryd.func43, Tryd.ntmps43
  go_wp2
  rw [Lib.run_neq_ptr_same w _ Tryd.underlying46 hj]
  go_wp2
  go_end0
  exact ⟨rfl, rfl⟩

set_option maxHeartbeats 1000000 in
set_option maxRecDepth 100000 in
theorem check_fresh (b : Nat) (w : World) (h0 : w.cell? ⟨b, 0, none⟩ = some (.pointer none)) (hsh : w.shape? b = some (50, 2)) (hfz : w.frozen? ⟨b, 0, none⟩ = false) :
    Calls Tryd.prog 43 #[.pointer (some ⟨b, 0, none⟩)] w fun e w' => e = .returned (.tuple #[]) ∧ w' = w.setCell ⟨b, 0, none⟩ (.pointer (some ⟨b, 0, none⟩)) := by
  obtain ⟨j, hj, hjs⟩ := Option.map_eq_some_iff.1 size48
  go_enter Tryd.func43, Tryd.ntmps43
  go_wp2
  rw [Lib.run_to_unsafe w ⟨b, 0, none⟩ Tryd.underlying46 Tryd.underlying86 hj (by rw [hjs]; decide) hsh (Nat.zero_lt_succ 1)]
  simp only [Result.andThen]
  rw [Oper.upon_value]
  go_wp2
  rw [run_callFunc_extern Tryd.func47 (by kernel_rfl) (by kernel_rfl) (by kernel_rfl) (e := Extern.AbiNoEscape.same) (by kernel_rfl)]
  rw [Lib.run_noEscape]
  simp only [Result.andThen]
  rw [Oper.upon_value]
  go_wp2
  rw [Lib.run_from_unsafe w ⟨b, 0, none⟩ Tryd.underlying86 Tryd.underlying46 hj hsh (by kernel_rfl)]
  simp only [Result.andThen]
  rw [Oper.upon_value]
  go_wp2
  go_end0
  exact ⟨rfl, rfl⟩

/-- All blocks but b's and rows of bytes stand as they stood. -/
def Kept5 (b : Nat) (W W' : World) : Prop := W.heap.size ≤ W'.heap.size ∧ ∀ k cs t fr, W.heap[k]? = some (.cells cs t fr) → k ≠ b → t ≠ 5 → W'.heap[k]? = some (.cells cs t fr)
theorem Kept5.refl (b : Nat) (W : World) : Kept5 b W W := ⟨Nat.le_refl _, fun _ _ _ _ h _ _ => h⟩
theorem Kept5.trans {b : Nat} {W W1 W2 : World} (h : Kept5 b W W1) (h2 : Kept5 b W1 W2) : Kept5 b W W2 := ⟨Nat.le_trans h.1 h2.1, fun k cs t fr hk hb ht => h2.2 k cs t fr (h.2 k cs t fr hk hb ht) hb ht⟩
theorem Kept5.of_below {b : Nat} {W W' : World} (h : Below W.heap.size W W') : Kept5 b W W' := ⟨h.size, fun k _ _ _ hk _ _ => (h.block k (Array.getElem?_eq_some_iff.1 hk).1).trans hk⟩

/-- A teller at block b that holds the bytes l. -/
def Tell (w0 W : World) (b : Nat) (l : List UInt8) : Prop :=
  ∃ p v, (p = .pointer none ∨ p = .pointer (some ⟨b, 0, none⟩)) ∧ W.heap[b]? = some (.cells #[p, v] 50 (0, 0)) ∧ W.ownsRow w0.heap.size 5 1 v l.length (Lib.byteCells l) ∧ w0.heap.size ≤ b ∧ Below w0.heap.size w0 W
theorem Tell.base {w0 W : World} {b : Nat} {l : List UInt8} (h : Tell w0 W b l) : Below w0.heap.size w0 W := by
  obtain ⟨p, v, h1, h2, h3, h4, h5⟩ := h
  exact h5
theorem Tell.below {w0 W W' : World} {b : Nat} {l : List UInt8} (h : Tell w0 W b l) (hb : Below W.heap.size W W') : Tell w0 W' b l := by
  obtain ⟨p, v, h1, h2, h3, h4, h5⟩ := h
  exact ⟨p, v, h1, (hb.block b (Array.getElem?_eq_some_iff.1 h2).1).trans h2, h3.kept (row := none) ⟨hb.os, hb.tape, hb.output, hb.size, fun k hk _ => hb.block k hk⟩ (by
    rcases h3.2 with ⟨hv, _⟩ | ⟨g, cap, cur, hv, _⟩
    · exact .inl (by rw [hv]; rfl)
    · exact .inr (by rw [hv]; simp [Value.ownBlock])), h4, below_step h5 hb h5.size⟩

theorem setCell_heap (W : World) (b j : Nat) (C : Array Value) (e : TypeId) (fr : Nat × Nat) (v : Value) (h : W.heap[b]? = some (.cells C e fr)) :
    (W.setCell ⟨b, j, none⟩ v).heap[b]? = some (.cells (C.setIfInBounds j v) e fr) := by
  unfold World.setCell
  simp only
  rw [Array.getElem?_modify, if_pos rfl, h]
  simp

/-- copyCheck: the teller's own address is in it. -/
theorem check_calls (b : Nat) (p v : Value) (w : World) (hp : p = .pointer none ∨ p = .pointer (some ⟨b, 0, none⟩)) (hb : w.heap[b]? = some (.cells #[p, v] 50 (0, 0))) :
    Calls Tryd.prog 43 #[.pointer (some ⟨b, 0, none⟩)] w fun e w' => e = .returned (.tuple #[]) ∧ w'.heap[b]? = some (.cells #[.pointer (some ⟨b, 0, none⟩), v] 50 (0, 0)) ∧ w.grownBy w' (some b) := by
  rcases hp with rfl | rfl
  · refine (check_fresh b w (by simp [World.cell?, hb]) (by simp [World.shape?, hb]) (by simp [World.frozen?, hb])).mono ?_
    rintro e w' ⟨rfl, rfl⟩
    exact ⟨rfl, setCell_heap w b 0 _ 50 (0, 0) _ hb, rfl, rfl, rfl, by simp [World.setCell], fun k _ hn => Below.heap_setCell w ⟨b, 0, none⟩ _ k (fun e => hn (by rw [e]))⟩
  · refine (check_used b w (by simp [World.cell?, hb])).mono ?_
    rintro e w' ⟨rfl, rfl⟩
    exact ⟨rfl, hb, rfl, rfl, rfl, Nat.le_refl _, fun k _ _ => rfl⟩

theorem own_form {W : World} {B n : Nat} {v : Value} {xs : List Value} (h : W.ownsRow B 5 1 v n xs) : ∃ ao n cap, v = .slice ao n cap := by
  rcases h.2 with ⟨hv, _⟩ | ⟨g, cap, cur, hv, _⟩
  · exact ⟨_, _, _, hv⟩
  · exact ⟨_, _, _, hv⟩

set_option maxHeartbeats 2000000 in
set_option maxRecDepth 100000 in
theorem write_calls {w0 W : World} {b : Nat} {l : List UInt8} (h : Tell w0 W b l) (s : ByteArray) (hs : l.length + s.size ≤ 1000000000) :
    Calls Tryd.prog 34 #[.pointer (some ⟨b, 0, none⟩), .string s] W fun e W' => e = .returned (.tuple #[.int .i64 s.size, .nilIface]) ∧ Tell w0 W' b (l ++ s.data.toList) ∧ Kept5 b W W' := by
  obtain ⟨p, v, hp, hb, hown, hB, hbe⟩ := h
  obtain ⟨i0, hi, hz0, hz1, hz2⟩ := info_parts infoByte
  have hv : ∃ ao n cap, v = .slice ao n cap := by
    rcases hown.2 with ⟨hv, _⟩ | ⟨g, cap, cur, hv, _⟩
    · exact ⟨_, _, _, hv⟩
    · exact ⟨_, _, _, hv⟩
  have hvb : v.ownBlock ≠ some b := Lib.ownBlock_ne hown hb (by decide)
  replace hbe := Aside0.mk hbe
  go_enter Tryd.func34, Tryd.ntmps34
  have key : ∀ {w1 w2 : World} {v' : Value}, Below w0.heap.size w0 W → W.grownBy w1 (some b) → w1.heap[b]? = some (.cells #[.pointer (some ⟨b, 0, none⟩), v] 50 (0, 0)) → w1.ownsRow w0.heap.size 5 1 v l.length (Lib.byteCells l) → w1.grownBy w2 v.ownBlock → w2.ownsRow w0.heap.size 5 1 v' (l.length + s.size) (Lib.byteCells l ++ Lib.strCells s) →
      w2.heap[b]? = some (.cells #[.pointer (some ⟨b, 0, none⟩), v] 50 (0, 0)) ∧ Tell w0 (w2.setCell ⟨b, 1, none⟩ v') b (l ++ s.data.toList) ∧ Kept5 b W (w2.setCell ⟨b, 1, none⟩ v') := by
    intro w1 w2 v' hbe hg1 hb1 hown1 hg2 hown2
    have hb2 : w2.heap[b]? = some (.cells #[.pointer (some ⟨b, 0, none⟩), v] 50 (0, 0)) := (hg2.block b (Array.getElem?_eq_some_iff.1 hb1).1 (Ne.symm hvb)).trans hb1
    have hb1e : Below w0.heap.size w0 w1 := hbe.grown hg1 hbe.size (fun k hk => by cases hk; exact hB)
    have hb2e : Below w0.heap.size w0 w2 := hb1e.grown hg2 hb1e.size (fun k hk => (hown1.lt k hk).1)
    have hvb' : v'.ownBlock ≠ some b := Lib.ownBlock_ne hown2 hb2 (by decide)
    refine ⟨hb2, ⟨.pointer (some ⟨b, 0, none⟩), v', .inr rfl, setCell_heap w2 b 1 _ 50 (0, 0) v' hb2, ?_, hB, hb2e.setCell (p := ⟨b, 1, none⟩) hB v'⟩, ?_, fun k cs t fr hk hkb ht => ?_⟩
    · have hl : (l ++ s.data.toList).length = l.length + s.size := by
        rw [List.length_append, Array.length_toList]
        rfl
      rw [hl, Lib.byteCells_append, ← Lib.strCells_eq]
      exact hown2.kept (row := some b) ⟨rfl, rfl, rfl, by simp [World.setCell], fun k _ hn => Below.heap_setCell w2 ⟨b, 1, none⟩ v' k (fun e => hn (by rw [e]))⟩ (.inr hvb')
    · have : (w2.setCell ⟨b, 1, none⟩ v').heap.size = w2.heap.size := by simp [World.setCell]
      rw [this]
      exact Nat.le_trans hg1.size hg2.size
    · have hkl : k < W.heap.size := (Array.getElem?_eq_some_iff.1 hk).1
      have e1 : w1.heap[k]? = some (.cells cs t fr) := (hg1.block k hkl (fun e => hkb (Option.some.inj e))).trans hk
      have e2 : w2.heap[k]? = some (.cells cs t fr) := (hg2.block k (Nat.lt_of_lt_of_le hkl hg1.size) (fun e => Lib.ownBlock_ne hown1 e1 ht e.symm)).trans e1
      exact (Below.heap_setCell w2 ⟨b, 1, none⟩ v' k hkb).trans e2
  replace key := Aside0.mk @key
  have hown0 := Aside0.mk hown
  go_wp2_with (first
    | (go_at_call 43; (with_reducible refine (check_calls b p v _ hp hb).mono ?_); rintro e w1 ⟨rfl, hb1, hg1⟩; have c0 : w1.cell? ⟨b, 0, none⟩ = some (.pointer (some ⟨b, 0, none⟩)) := (by simp [World.cell?, hb1]); have c1 : w1.cell? ⟨b, 1, none⟩ = some v := (by simp [World.cell?, hb1]); have hown1 := hown0.out.kept hg1 (.inr hvb); have hsz1 := Nat.le_trans hbe.out.size hg1.size; replace hb1 := Aside0.mk hb1; replace hg1 := Aside0.mk hg1; replace hown1 := Aside0.mk hown1; replace hsz1 := Aside0.mk hsz1; clear hown hb hp)
    | ((with_reducible refine gate_builtin (b := .append) (xs := #[.tmp 12, .tmp 13]) rfl ?_); at_builtin; refine Lib.wpList_append_own_string _ rfl (.tmp 12) (.tmp 13) 45 9 rfl w0.heap.size 5 i0 Tryd.underlying45 Tryd.underlying9 hi hz0 hz1 hz2 v l.length (Lib.byteCells l) rfl hown1.out s rfl (by unfold maxLen; omega) (by omega) hsz1.out ?_; intro v' w2 hown2 hg2 hnil; obtain ⟨hb2, hE⟩ := key.out hbe.out hg1.out hb1.out hown1.out hg2 hown2; have d1 : w2.cell? ⟨b, 1, none⟩ = some v := (by simp [World.cell?, hb2]); have f1 : w2.frozen? ⟨b, 1, none⟩ = false := (by simp [World.frozen?, hb2]); replace hE := Aside0.mk hE; obtain ⟨ao', n', cap', hv'⟩ : ∃ ao n cap, v' = .slice ao n cap := own_form hown2; subst hv'; clear hown2 hg2 hnil hb2))
  go_ret2
  exact ⟨rfl, hE.out⟩

theorem mixed_ : Tryd.prog.follows Departure.mixedOrders = true := by kernel_rfl
theorem string_none (W : World) (q : Option Addr) : (Builtin.unsafeString_ #[78, 3] 9 #[.pointer q, .int .i64 0]).run Tryd.prog W = .ok (.string .empty) W := Lib.run_unsafeString_none W _ _ _ q

set_option maxHeartbeats 2000000 in
set_option maxRecDepth 100000 in
theorem string_nil (B b : Nat) (p : Value) (w : World) (hbk : w.heap[b]? = some (.cells #[p, .slice none 0 0] 50 (0, 0))) :
    Calls Tryd.prog 20 #[.pointer (some ⟨b, 0, none⟩)] w fun e w' => e = .returned (.string ⟨#[]⟩) ∧ Below B w w' := by
  have hUS := string_none
  have c1 : w.drew.cell? ⟨b, 1, none⟩ = some (.slice none 0 0) := by
    have : w.drew.heap[b]? = some (.cells #[p, .slice none 0 0] 50 (0, 0)) := hbk
    rw [Lib.cell_of_heap this]; rfl
  have hSD : (Builtin.unsafeSliceData_ #[45] 78 #[.slice none 0 0]).run Tryd.prog w.drew = .ok (.pointer none) w.drew := rfl
  have mixed := mixed_
  go_enter Tryd.func20, Tryd.ntmps20
  go_wp2
  go_region_o
  all_goals (go_wp2; go_ret; exact ⟨rfl, Below.drew (Below.refl B w)⟩)

set_option maxHeartbeats 2000000 in
set_option maxRecDepth 100000 in
theorem string_noroom (B b g : Nat) (p : Value) (cur : Array Value) (w : World) (hBw : B ≤ w.heap.size) (hbk : w.heap[b]? = some (.cells #[p, .slice (some ⟨g, 0, none⟩) 0 0] 50 (0, 0))) (hg : w.heap[g]? = some (.cells cur 5 (0, 0))) :
    Calls Tryd.prog 20 #[.pointer (some ⟨b, 0, none⟩)] w fun e w' => e = .returned (.string ⟨#[]⟩) ∧ Below B w w' := by
  have hUS := string_none
  have hlt : b < w.heap.size := (Array.getElem?_eq_some_iff.1 hbk).1
  have c1 : w.drew.cell? ⟨b, 1, none⟩ = some (.slice (some ⟨g, 0, none⟩) 0 0) := by
    have : w.drew.heap[b]? = some (.cells #[p, .slice (some ⟨g, 0, none⟩) 0 0] 50 (0, 0)) := hbk
    rw [Lib.cell_of_heap this]; rfl
  have hSD : (Builtin.unsafeSliceData_ #[45] 78 #[.slice (some ⟨g, 0, none⟩) 0 0]).run Tryd.prog w.drew = .ok (.pointer (some ⟨w.drew.heap.size, 0, none⟩)) (w.drew.alloc (.view ⟨g, 0, none⟩ 5)) :=
    Lib.run_unsafeSliceData_zero w.drew _ _ 5 Tryd.underlying78 ⟨g, 0, none⟩ 0 (5, cur.size) (by have hg' : w.drew.heap[g]? = some (.cells cur 5 (0, 0)) := hg; simp [World.shape?, hg'])
  have c2 : (w.drew.alloc (.view ⟨g, 0, none⟩ 5)).cell? ⟨b, 1, none⟩ = some (.slice (some ⟨g, 0, none⟩) 0 0) := by
    have : (w.drew.alloc (.view ⟨g, 0, none⟩ 5)).heap[b]? = _ := (Lib.alloc_old w.drew _ b hlt).trans hbk
    rw [Lib.cell_of_heap this]; rfl
  have c3 : (w.alloc (.view ⟨g, 0, none⟩ 5)).drew.cell? ⟨b, 1, none⟩ = some (.slice (some ⟨g, 0, none⟩) 0 0) := c2
  have c0 : w.cell? ⟨b, 1, none⟩ = some (.slice (some ⟨g, 0, none⟩) 0 0) := c1
  have mixed := mixed_
  go_enter Tryd.func20, Tryd.ntmps20
  go_wp2
  go_region_o
  all_goals (go_wp2; go_ret; exact ⟨rfl, (Below.drew (Below.refl B w)).alloc hBw _⟩)

set_option maxHeartbeats 2000000 in
set_option maxRecDepth 100000 in
theorem string_room (B b g cap : Nat) (p : Value) (w : World) (hc0 : cap ≠ 0) (hbk : w.heap[b]? = some (.cells #[p, .slice (some ⟨g, 0, none⟩) 0 cap] 50 (0, 0))) :
    Calls Tryd.prog 20 #[.pointer (some ⟨b, 0, none⟩)] w fun e w' => e = .returned (.string ⟨#[]⟩) ∧ Below B w w' := by
  have hUS := string_none
  have c1 : w.drew.cell? ⟨b, 1, none⟩ = some (.slice (some ⟨g, 0, none⟩) 0 cap) := by
    have : w.drew.heap[b]? = some (.cells #[p, .slice (some ⟨g, 0, none⟩) 0 cap] 50 (0, 0)) := hbk
    rw [Lib.cell_of_heap this]; rfl
  have hSD : (Builtin.unsafeSliceData_ #[45] 78 #[.slice (some ⟨g, 0, none⟩) 0 cap]).run Tryd.prog w.drew = .ok (.pointer (some ⟨g, 0, none⟩)) w.drew :=
    Lib.run_unsafeSliceData_row _ _ _ _ _ _ hc0
  clear hc0
  have mixed := mixed_
  go_enter Tryd.func20, Tryd.ntmps20
  go_wp2
  go_region_o
  all_goals (go_wp2; go_ret; exact ⟨rfl, Below.drew (Below.refl B w)⟩)

set_option maxHeartbeats 2000000 in
set_option maxRecDepth 100000 in
theorem string_some (B b g cap : Nat) (p : Value) (cur : Array Value) (l : List UInt8) (w : World) (h0 : l ≠ []) (hbk : w.heap[b]? = some (.cells #[p, .slice (some ⟨g, 0, none⟩) l.length cap] 50 (0, 0))) (hbg : B ≤ g) (hg : w.heap[g]? = some (.cells cur 5 (0, 0))) (hnc : l.length ≤ cap) (hcm : cap ≤ maxLen) (hcs : cur.size = cap * 1)
    (hown : w.ownsRow B 5 1 (.slice (some ⟨g, 0, none⟩) l.length cap) l.length (Lib.byteCells l)) :
    Calls Tryd.prog 20 #[.pointer (some ⟨b, 0, none⟩)] w fun e w' => e = .returned (.string ⟨l.toArray⟩) ∧ Below B w w' := by
  have hl0 : l.length ≠ 0 := by simpa using h0
  have c1 : w.drew.cell? ⟨b, 1, none⟩ = some (.slice (some ⟨g, 0, none⟩) l.length cap) := by
    have : w.drew.heap[b]? = some (.cells #[p, .slice (some ⟨g, 0, none⟩) l.length cap] 50 (0, 0)) := hbk
    rw [Lib.cell_of_heap this]; rfl
  have hSD : (Builtin.unsafeSliceData_ #[45] 78 #[.slice (some ⟨g, 0, none⟩) l.length cap]).run Tryd.prog w.drew = .ok (.pointer (some ⟨g, 0, none⟩)) w.drew :=
    Lib.run_unsafeSliceData_row _ _ _ _ _ _ (by omega)
  have hUS : (Builtin.unsafeString_ #[78, 3] 9 #[.pointer (some ⟨g, 0, none⟩), .int .i64 l.length]).run Tryd.prog w.drew = .ok (.string ⟨l.toArray⟩) (w.drew.freeze ⟨g, 0, none⟩ l.length) := by
    refine Lib.run_unsafeString_row w.drew 78 3 9 5 Tryd.underlying78 (by kernel_rfl) g cur.size (by have hg' : w.drew.heap[g]? = some (.cells cur 5 (0, 0)) := hg; simp [World.shape?, hg']) l h0 (by omega) (by unfold maxLen at hcm; omega) ?_
    intro j x hx
    exact hown.cells (g := g) rfl j (.int .u8 x.toNat) (by simp [Lib.byteCells, hx])
  have mixed := mixed_
  go_enter Tryd.func20, Tryd.ntmps20
  go_wp2
  go_region_o
  all_goals (go_wp2; go_ret; exact ⟨rfl, Lib.below_freeze (Below.drew (Below.refl B w)) (p := ⟨g, 0, none⟩) hbg _⟩)

/-- String: what the teller holds. -/
theorem string_calls {w0 W : World} {b : Nat} {l : List UInt8} (h : Tell w0 W b l) :
    Calls Tryd.prog 20 #[.pointer (some ⟨b, 0, none⟩)] W fun e W' => e = .returned (.string ⟨l.toArray⟩) ∧ Below w0.heap.size w0 W' := by
  obtain ⟨p, v, hp, hb, hown, hB, hbe⟩ := h
  have tr : ∀ {W' : World}, Below w0.heap.size W W' → Below w0.heap.size w0 W' := fun {W'} h2 => ⟨h2.os.trans hbe.os, h2.tape.trans hbe.tape, h2.output.trans hbe.output, Nat.le_trans hbe.size h2.size, fun k hk => (h2.block k hk).trans (hbe.block k hk)⟩
  by_cases h0 : l = []
  · subst h0
    rcases hown.2 with ⟨rfl, _⟩ | ⟨g, cap, cur, rfl, hbg, hg, _, _, _, _⟩
    · exact (string_nil w0.heap.size b p W hb).mono fun e w' h => ⟨h.1, tr h.2⟩
    · by_cases hc0 : cap = 0
      · subst hc0
        exact (string_noroom w0.heap.size b g p cur W hbe.size hb hg).mono fun e w' h => ⟨h.1, tr h.2⟩
      · exact (string_room w0.heap.size b g cap p W hc0 hb).mono fun e w' h => ⟨h.1, tr h.2⟩
  · rcases hown.2 with ⟨_, hz⟩ | ⟨g, cap, cur, rfl, hbg, hg, hnc, hcm, hcs, _⟩
    · exact absurd (List.length_eq_zero_iff.1 hz) h0
    · exact (string_some w0.heap.size b g cap p cur l W h0 hb hbg hg hnc hcm hcs hown).mono fun e w' h => ⟨h.1, tr h.2⟩

end Go.Proofs.YtdpbklckeamjpaaDoor.Scr
