/- What boot.New and the reference's NewDisk answer, step by step. Walks alone. -/
import Derived.Test.YtjcmjfabadlbjaaBootD
import Derived.Test.YtjcmjfabadlbjaaShelf

namespace Go.Proofs.Ytjcmjfabadlbjaa.Boot
open Go.RowKit Go.Proofs.YtjcmjfabadlbjaaW.PrintWords Go.Proofs.YtjcmjfabadlbjaaW.PrintLast Go.Proofs.YtjcmjfabadlbjaaW.PrintMore Go.Proofs.Ytjcmjfabadlbjaa.PS3 Go.Proofs.Ytjcmjfabadlbjaa.Byt Go.Proofs.Ytjcmjfabadlbjaa.Slot

/-- The two slots of a disk that nothing has booted from. -/
def newA : ByteArray := ⟨(putL 0).toArray⟩
def newB : ByteArray := ⟨#[0, 0, 0, 0, 0, 0, 0, 0, 0, 0, 0, 0, 0, 0, 0, 0]⟩

theorem repeat_calls (w : World) : Calls Try.prog 38 #[.string ⟨#[0]⟩, .int .i64 16] w fun e w' => e = .returned (.string newB) ∧ Below w.heap.size w w' :=
  Try.strings_Repeat ⟨#[0]⟩ 16 w (by decide) (by decide)

theorem boxed1 {w w1 : World} {a b : ByteArray} (hb : Below (w.alloc (.cells #[.string a, .string b] 45)).heap.size (w.alloc (.cells #[.string a, .string b] 45)) w1) :
    (w1.cell? ⟨w.heap.size, 0, none⟩ = some (.string a) ∧ w1.cell? ⟨w.heap.size, 1, none⟩ = some (.string b)) ∧ (w1.frozen? ⟨w.heap.size, 0, none⟩ = false ∧ w1.frozen? ⟨w.heap.size, 1, none⟩ = false) ∧ Below w.heap.size w w1 := by
  have h1 : w1.heap[w.heap.size]? = some (.cells #[.string a, .string b] 45 (0, 0)) := by
    rw [hb.block w.heap.size (by simp), heap_alloc_new]
  exact ⟨⟨by simp [World.cell?, h1], by simp [World.cell?, h1]⟩, ⟨by simp [World.frozen?, h1], by simp [World.frozen?, h1]⟩, (boxed hb).2.2⟩

theorem in_zero : In 0 := by unfold In; omega

set_option maxHeartbeats 4000000 in
set_option maxRecDepth 100000 in
theorem new_calls (w : World) : Calls Try.prog 29 #[] w fun e w' => e = .returned (.agg #[.string newA, .string newB]) ∧ Below w.heap.size w w' := by
  have hp := Aside0.mk (put_ok 0 in_zero)
  go_enter Try.func29, Try.ntmps29
  go_wp2_with (first
    | (go_at_call 13; (with_reducible refine (hp.out _).mono ?_); rintro e w1 ⟨rfl, hb1⟩; obtain ⟨⟨d0, d1⟩, ⟨f0, f1⟩, hb2⟩ := boxed1 hb1; have HB := Aside0.mk hb2; clear hb1 hb2)
    | (go_at_call 38; (with_reducible refine (repeat_calls _).mono ?_); rintro e w2 ⟨rfl, hb1⟩; replace f0 := frozen_below hb1 d0 f0; replace f1 := frozen_below hb1 d1 f1; replace d0 := pw_cell_below hb1 d0; replace d1 := pw_cell_below hb1 d1; have n0_ := Aside0.mk (below_step HB.out hb1); clear HB hb1; have HB := n0_; clear n0_))
  exact bodyPost_ret (v := .agg #[.string newA, .string newB]) (by simp [results, Try.results29, go_sem, d0, d1, newA]) rfl ⟨rfl, by repeat (first | exact HB.out | (refine Below.setCell ?_ (by simp) _) | (refine Below.setCell ?_ (by simp; omega) _) | (refine Below.alloc ?_ (by simp; omega) _) | apply pw_below_drewN)⟩

theorem make16 (w : World) : (Instr.makeSlice 41 (.int .i64 16) (.int .i64 16)).run Try.prog w = .ok (.slice (some ⟨w.heap.size, 0, none⟩) 16 16) (w.alloc (.cells (madeCells #[.int .u8 0] 16) 5)) :=
  print_make (P := Try.prog) 41 5 .u8 1 Try.underlying41 Slot.info5 (by decide) 16 (by decide) w
theorem string16 (w : World) (g : Nat) (hg : g = w.heap.size) : (convert 41 9 (.slice (some ⟨g, 0, none⟩) 16 16)).run Try.prog (w.alloc (.cells (madeCells #[.int .u8 0] 16) 5)) = .ok (.string newB) (w.alloc (.cells (madeCells #[.int .u8 0] 16) 5)) := by
  subst hg
  exact (BB.alloc w (madeCells #[.int .u8 0] 16) 5 (List.replicate 16 0) (by simp [size_madeCells]) (fun j hj => by
    have hj' : j < 16 := by simpa using hj
    rw [List.getElem_replicate]
    simp [madeCells, hj', Nat.mod_one])).string (P := Try.prog) 41 9 5 16 Try.underlying41 Try.underlying5 Try.underlying9

set_option maxHeartbeats 4000000 in
set_option maxRecDepth 100000 in
theorem newDisk_calls (w : World) : Calls Try.prog 30 #[] w fun e w' => e = .returned (.agg #[.string newA, .string newB]) ∧ Below w.heap.size w w' := by
  have hp : ∀ w, Calls Try.prog 14 #[.int .i64 0] w fun e w' => e = .returned (.tuple #[.string newA, .int .i64 0]) ∧ Below w.heap.size w w' := fun w => by
    have := putRef_calls 0 w
    rwa [putF_in 0 in_zero] at this
  replace hp := Aside0.mk hp
  have hmk := make16
  have hst := string16
  go_enter Try.func30, Try.ntmps30
  go_wp2_with (go_at_call 14; (with_reducible refine (hp.out _).mono ?_); rintro e w1 ⟨rfl, hb1⟩; obtain ⟨⟨d0, d1, d2, d3⟩, ⟨f0, f1, f2, f3⟩, hb2⟩ := boxed2 hb1; have HB := Aside0.mk hb2; have hz : w.heap.size + 1 < w1.heap.size := World.block_lt_of_cell? _ _ d2; have hz0 : w.heap.size < w1.heap.size := World.block_lt_of_cell? _ _ d0; clear hb1 hb2)
  exact bodyPost_ret (v := .agg #[.string newA, .string newB]) (by simp [results, Try.results30, go_sem, d0, d1, hz0]) rfl ⟨rfl, by repeat (first | exact HB.out | (refine Below.setCell ?_ (by simp) _) | (refine Below.setCell ?_ (by simp; omega) _) | (refine Below.alloc ?_ (by simp; omega) _) | apply pw_below_drewN)⟩

end Go.Proofs.Ytjcmjfabadlbjaa.Boot
