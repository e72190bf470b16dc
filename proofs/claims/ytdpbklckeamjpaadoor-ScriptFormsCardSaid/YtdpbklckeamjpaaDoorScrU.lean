/- ScriptForms's code, step by step: acts that may not be, texts that are none. -/
import Derived.Test.YtdpbklckeamjpaaDoorScrT
import Derived.Test.YtdpbklckeamjpaaDoorByt
import Derived.BigRegion
namespace Go.Proofs.YtdpbklckeamjpaaDoor.Scr
open Go.RowKit Go.Proofs.YtdpbklckeamjpaaDoorW.PrintWords Go.Proofs.YtdpbklckeamjpaaDoorW.PrintLast Go.Proofs.YtdpbklckeamjpaaDoorW.PrintMore Go.Proofs.YtdpbklckeamjpaaDoor.PScripts Go.Proofs.YtdpbklckeamjpaaDoor.Byt

theorem and1023 (n : Int) : Go.bits .and .i64 n 1023 = n % 1024 := by
  have h0 : (BitVec.ofInt 64 1023).toNat = 2 ^ 10 - 1 := by decide
  have key : (BitVec.ofInt 64 n &&& BitVec.ofInt 64 1023).toNat = (n % ((2 ^ 64 : Nat) : Int)).toNat % 2 ^ 10 := by
    rw [BitVec.toNat_and, BitVec.toNat_ofInt, h0, Nat.and_two_pow_sub_one_eq_mod]
  show IntKind.i64.wrap ((BitVec.ofInt 64 n &&& BitVec.ofInt 64 1023).toNat : Nat) = n % 1024
  rw [key, IntKind.wrap_i64]
  omega

def zerosB (n : Nat) : ByteArray := ⟨(List.replicate n 0).toArray⟩
theorem zerosB_size (n : Nat) : (zerosB n).size = n := by simp [zerosB, ByteArray.size]

theorem mkB (D : Nat) (hD : D ≤ 1024) (W : World) : (Instr.makeSlice 45 (.int .i64 (556 + (D : Int))) (.int .i64 (556 + (D : Int)))).run Tryd.prog W = .ok (.slice (some ⟨W.heap.size, 0, none⟩) (556 + D) (556 + D)) (W.alloc (.cells (madeCells #[.int .u8 0] (556 + D)) 5)) := by
  have h := print_make_of (P := Tryd.prog) 45 5 (.int .u8 0) 1 Tryd.underlying45 (by kernel_rfl) rfl (by decide) (556 + D) (by omega) W
  rw [show ((556 + D : Nat) : Int) = 556 + (D : Int) by omega] at h
  exact h
theorem cvB (W : World) (n g : Nat) (hg : W.heap.size = g) : (convert 45 9 (.slice (some ⟨g, 0, none⟩) n n)).run Tryd.prog (W.alloc (.cells (madeCells #[.int .u8 0] n) 5)) = .ok (.string (zerosB n)) (W.alloc (.cells (madeCells #[.int .u8 0] n) 5)) := by
  subst hg
  have hs : (madeCells #[.int .u8 0] n).size = n := by simp [size_madeCells]
  have h := (BB.alloc W (madeCells #[.int .u8 0] n) 5 (List.replicate n 0) (by simp [hs]) (fun j hj => by
    have hj' : j < n := by simpa using hj
    rw [List.getElem_replicate]
    simp [madeCells, hj', Nat.mod_one])).string (P := Tryd.prog) 45 9 5 n Tryd.underlying45 Tryd.underlying5 Tryd.underlying9
  rw [List.length_replicate] at h
  exact h

/-- The acts that may not be. -/
def bads (D : Nat) : List S36 := [⟨-D, 0, 0, 0, 0, ⟨#[]⟩, ⟨0, ⟨#[]⟩, 0, 0, 0, 0⟩⟩, ⟨8 + D, 0, 0, 0, 0, ⟨#[]⟩, ⟨0, ⟨#[]⟩, 0, 0, 0, 0⟩⟩, ⟨0, 1, 0, 0, 0, ⟨#[]⟩, ⟨0, ⟨#[]⟩, 0, 0, 0, 0⟩⟩, ⟨0, 0, 1, 0, 0, ⟨#[]⟩, ⟨0, ⟨#[]⟩, 0, 0, 0, 0⟩⟩, ⟨0, 0, 0, -D, 0, ⟨#[]⟩, ⟨0, ⟨#[]⟩, 0, 0, 0, 0⟩⟩, ⟨0, 0, 0, 64 + D, 0, ⟨#[]⟩, ⟨0, ⟨#[]⟩, 0, 0, 0, 0⟩⟩, ⟨0, 0, 0, 0, 0, ⟨#[120]⟩, ⟨0, ⟨#[]⟩, 0, 0, 0, 0⟩⟩, ⟨0, 0, 0, 0, 1, ⟨#[]⟩, ⟨0, ⟨#[]⟩, 0, 0, 0, 0⟩⟩, ⟨0, 0, 0, 0, 0, ⟨#[]⟩, ⟨1, ⟨#[115]⟩, 0, 0, 0, 0⟩⟩, ⟨3, 4 + D, 0, 0, 0, ⟨#[]⟩, ⟨0, ⟨#[]⟩, 0, 0, 0, 0⟩⟩, ⟨3, 0, -D, 0, 0, ⟨#[]⟩, ⟨0, ⟨#[]⟩, 0, 0, 0, 0⟩⟩, ⟨3, 0, 0, 1, 0, ⟨#[]⟩, ⟨0, ⟨#[]⟩, 0, 0, 0, 0⟩⟩, ⟨3, 0, 0, 0, 0, zerosB (556 + D), ⟨0, ⟨#[]⟩, 0, 0, 0, 0⟩⟩, ⟨4, 0, 1, 0, 0, ⟨#[]⟩, ⟨0, ⟨#[]⟩, 0, 0, 0, 0⟩⟩, ⟨5, 0, 0, 1, 0, ⟨#[]⟩, ⟨0, ⟨#[]⟩, 0, 0, 0, 0⟩⟩, ⟨6, 1, 0, 0, 0, ⟨#[]⟩, ⟨0, ⟨#[]⟩, 0, 0, 0, 0⟩⟩, ⟨7, 0, 1, 0, 0, ⟨#[]⟩, ⟨0, ⟨#[]⟩, 0, 0, 0, 0⟩⟩, ⟨7, 0, 1, 1, 0, ⟨#[]⟩, ⟨1, ⟨#[115]⟩, 0, 0, 0, 0⟩⟩, ⟨8, 0, 0, 0, 65535 + D, ⟨#[]⟩, ⟨0, ⟨#[]⟩, 0, 0, 0, 0⟩⟩, ⟨8, 0, 0, 0, -D, ⟨#[]⟩, ⟨0, ⟨#[]⟩, 0, 0, 0, 0⟩⟩, ⟨8, 0, 0, 0, 0, ⟨#[120]⟩, ⟨0, ⟨#[]⟩, 0, 0, 0, 0⟩⟩]
theorem bads_length (D : Nat) : (bads D).length = 21 := rfl
abbrev badCells (D : Nat) : Array Value := #[.int .i64 (-D), .int .i64 0, .int .i64 0, .int .i64 0, .int .i64 0, .string ⟨#[]⟩, .int .i64 0, .string ⟨#[]⟩, .int .i64 0, .int .i64 0, .int .i64 0, .int .i64 0, .int .i64 (8 + D), .int .i64 0, .int .i64 0, .int .i64 0, .int .i64 0, .string ⟨#[]⟩, .int .i64 0, .string ⟨#[]⟩, .int .i64 0, .int .i64 0, .int .i64 0, .int .i64 0, .int .i64 0, .int .i64 1, .int .i64 0, .int .i64 0, .int .i64 0, .string ⟨#[]⟩, .int .i64 0, .string ⟨#[]⟩, .int .i64 0, .int .i64 0, .int .i64 0, .int .i64 0, .int .i64 0, .int .i64 0, .int .i64 1, .int .i64 0, .int .i64 0, .string ⟨#[]⟩, .int .i64 0, .string ⟨#[]⟩, .int .i64 0, .int .i64 0, .int .i64 0, .int .i64 0, .int .i64 0, .int .i64 0, .int .i64 0, .int .i64 (-D), .int .i64 0, .string ⟨#[]⟩, .int .i64 0, .string ⟨#[]⟩, .int .i64 0, .int .i64 0, .int .i64 0, .int .i64 0, .int .i64 0, .int .i64 0, .int .i64 0, .int .i64 (64 + D), .int .i64 0, .string ⟨#[]⟩, .int .i64 0, .string ⟨#[]⟩, .int .i64 0, .int .i64 0, .int .i64 0, .int .i64 0, .int .i64 0, .int .i64 0, .int .i64 0, .int .i64 0, .int .i64 0, .string ⟨#[120]⟩, .int .i64 0, .string ⟨#[]⟩, .int .i64 0, .int .i64 0, .int .i64 0, .int .i64 0, .int .i64 0, .int .i64 0, .int .i64 0, .int .i64 0, .int .i64 1, .string ⟨#[]⟩, .int .i64 0, .string ⟨#[]⟩, .int .i64 0, .int .i64 0, .int .i64 0, .int .i64 0, .int .i64 0, .int .i64 0, .int .i64 0, .int .i64 0, .int .i64 0, .string ⟨#[]⟩, .int .i64 1, .string ⟨#[115]⟩, .int .i64 0, .int .i64 0, .int .i64 0, .int .i64 0, .int .i64 3, .int .i64 (4 + D), .int .i64 0, .int .i64 0, .int .i64 0, .string ⟨#[]⟩, .int .i64 0, .string ⟨#[]⟩, .int .i64 0, .int .i64 0, .int .i64 0, .int .i64 0, .int .i64 3, .int .i64 0, .int .i64 (-D), .int .i64 0, .int .i64 0, .string ⟨#[]⟩, .int .i64 0, .string ⟨#[]⟩, .int .i64 0, .int .i64 0, .int .i64 0, .int .i64 0, .int .i64 3, .int .i64 0, .int .i64 0, .int .i64 1, .int .i64 0, .string ⟨#[]⟩, .int .i64 0, .string ⟨#[]⟩, .int .i64 0, .int .i64 0, .int .i64 0, .int .i64 0, .int .i64 3, .int .i64 0, .int .i64 0, .int .i64 0, .int .i64 0, .string (zerosB (556 + D)), .int .i64 0, .string ⟨#[]⟩, .int .i64 0, .int .i64 0, .int .i64 0, .int .i64 0, .int .i64 4, .int .i64 0, .int .i64 1, .int .i64 0, .int .i64 0, .string ⟨#[]⟩, .int .i64 0, .string ⟨#[]⟩, .int .i64 0, .int .i64 0, .int .i64 0, .int .i64 0, .int .i64 5, .int .i64 0, .int .i64 0, .int .i64 1, .int .i64 0, .string ⟨#[]⟩, .int .i64 0, .string ⟨#[]⟩, .int .i64 0, .int .i64 0, .int .i64 0, .int .i64 0, .int .i64 6, .int .i64 1, .int .i64 0, .int .i64 0, .int .i64 0, .string ⟨#[]⟩, .int .i64 0, .string ⟨#[]⟩, .int .i64 0, .int .i64 0, .int .i64 0, .int .i64 0, .int .i64 7, .int .i64 0, .int .i64 1, .int .i64 0, .int .i64 0, .string ⟨#[]⟩, .int .i64 0, .string ⟨#[]⟩, .int .i64 0, .int .i64 0, .int .i64 0, .int .i64 0, .int .i64 7, .int .i64 0, .int .i64 1, .int .i64 1, .int .i64 0, .string ⟨#[]⟩, .int .i64 1, .string ⟨#[115]⟩, .int .i64 0, .int .i64 0, .int .i64 0, .int .i64 0, .int .i64 8, .int .i64 0, .int .i64 0, .int .i64 0, .int .i64 (65535 + D), .string ⟨#[]⟩, .int .i64 0, .string ⟨#[]⟩, .int .i64 0, .int .i64 0, .int .i64 0, .int .i64 0, .int .i64 8, .int .i64 0, .int .i64 0, .int .i64 0, .int .i64 (-D), .string ⟨#[]⟩, .int .i64 0, .string ⟨#[]⟩, .int .i64 0, .int .i64 0, .int .i64 0, .int .i64 0, .int .i64 8, .int .i64 0, .int .i64 0, .int .i64 0, .int .i64 0, .string ⟨#[120]⟩, .int .i64 0, .string ⟨#[]⟩, .int .i64 0, .int .i64 0, .int .i64 0, .int .i64 0]
set_option maxRecDepth 100000 in
abbrev badParts (D : Nat) : Array (Nat × Value) := #[(0, .agg #[.int .i64 (-D), .int .i64 0, .int .i64 0, .int .i64 0, .int .i64 0, .string ⟨#[]⟩, .int .i64 0, .string ⟨#[]⟩, .int .i64 0, .int .i64 0, .int .i64 0, .int .i64 0]), (1, .agg #[.int .i64 (8 + D), .int .i64 0, .int .i64 0, .int .i64 0, .int .i64 0, .string ⟨#[]⟩, .int .i64 0, .string ⟨#[]⟩, .int .i64 0, .int .i64 0, .int .i64 0, .int .i64 0]), (2, .agg #[.int .i64 0, .int .i64 1, .int .i64 0, .int .i64 0, .int .i64 0, .string ⟨#[]⟩, .int .i64 0, .string ⟨#[]⟩, .int .i64 0, .int .i64 0, .int .i64 0, .int .i64 0]), (3, .agg #[.int .i64 0, .int .i64 0, .int .i64 1, .int .i64 0, .int .i64 0, .string ⟨#[]⟩, .int .i64 0, .string ⟨#[]⟩, .int .i64 0, .int .i64 0, .int .i64 0, .int .i64 0]), (4, .agg #[.int .i64 0, .int .i64 0, .int .i64 0, .int .i64 (-D), .int .i64 0, .string ⟨#[]⟩, .int .i64 0, .string ⟨#[]⟩, .int .i64 0, .int .i64 0, .int .i64 0, .int .i64 0]), (5, .agg #[.int .i64 0, .int .i64 0, .int .i64 0, .int .i64 (64 + D), .int .i64 0, .string ⟨#[]⟩, .int .i64 0, .string ⟨#[]⟩, .int .i64 0, .int .i64 0, .int .i64 0, .int .i64 0]), (6, .agg #[.int .i64 0, .int .i64 0, .int .i64 0, .int .i64 0, .int .i64 0, .string ⟨#[120]⟩, .int .i64 0, .string ⟨#[]⟩, .int .i64 0, .int .i64 0, .int .i64 0, .int .i64 0]), (7, .agg #[.int .i64 0, .int .i64 0, .int .i64 0, .int .i64 0, .int .i64 1, .string ⟨#[]⟩, .int .i64 0, .string ⟨#[]⟩, .int .i64 0, .int .i64 0, .int .i64 0, .int .i64 0]), (8, .agg #[.int .i64 0, .int .i64 0, .int .i64 0, .int .i64 0, .int .i64 0, .string ⟨#[]⟩, .int .i64 1, .string ⟨#[115]⟩, .int .i64 0, .int .i64 0, .int .i64 0, .int .i64 0]), (9, .agg #[.int .i64 3, .int .i64 (4 + D), .int .i64 0, .int .i64 0, .int .i64 0, .string ⟨#[]⟩, .int .i64 0, .string ⟨#[]⟩, .int .i64 0, .int .i64 0, .int .i64 0, .int .i64 0]), (10, .agg #[.int .i64 3, .int .i64 0, .int .i64 (-D), .int .i64 0, .int .i64 0, .string ⟨#[]⟩, .int .i64 0, .string ⟨#[]⟩, .int .i64 0, .int .i64 0, .int .i64 0, .int .i64 0]), (11, .agg #[.int .i64 3, .int .i64 0, .int .i64 0, .int .i64 1, .int .i64 0, .string ⟨#[]⟩, .int .i64 0, .string ⟨#[]⟩, .int .i64 0, .int .i64 0, .int .i64 0, .int .i64 0]), (12, .agg #[.int .i64 3, .int .i64 0, .int .i64 0, .int .i64 0, .int .i64 0, .string (zerosB (556 + D)), .int .i64 0, .string ⟨#[]⟩, .int .i64 0, .int .i64 0, .int .i64 0, .int .i64 0]), (13, .agg #[.int .i64 4, .int .i64 0, .int .i64 1, .int .i64 0, .int .i64 0, .string ⟨#[]⟩, .int .i64 0, .string ⟨#[]⟩, .int .i64 0, .int .i64 0, .int .i64 0, .int .i64 0]), (14, .agg #[.int .i64 5, .int .i64 0, .int .i64 0, .int .i64 1, .int .i64 0, .string ⟨#[]⟩, .int .i64 0, .string ⟨#[]⟩, .int .i64 0, .int .i64 0, .int .i64 0, .int .i64 0]), (15, .agg #[.int .i64 6, .int .i64 1, .int .i64 0, .int .i64 0, .int .i64 0, .string ⟨#[]⟩, .int .i64 0, .string ⟨#[]⟩, .int .i64 0, .int .i64 0, .int .i64 0, .int .i64 0]), (16, .agg #[.int .i64 7, .int .i64 0, .int .i64 1, .int .i64 0, .int .i64 0, .string ⟨#[]⟩, .int .i64 0, .string ⟨#[]⟩, .int .i64 0, .int .i64 0, .int .i64 0, .int .i64 0]), (17, .agg #[.int .i64 7, .int .i64 0, .int .i64 1, .int .i64 1, .int .i64 0, .string ⟨#[]⟩, .int .i64 1, .string ⟨#[115]⟩, .int .i64 0, .int .i64 0, .int .i64 0, .int .i64 0]), (18, .agg #[.int .i64 8, .int .i64 0, .int .i64 0, .int .i64 0, .int .i64 (65535 + D), .string ⟨#[]⟩, .int .i64 0, .string ⟨#[]⟩, .int .i64 0, .int .i64 0, .int .i64 0, .int .i64 0]), (19, .agg #[.int .i64 8, .int .i64 0, .int .i64 0, .int .i64 0, .int .i64 (-D), .string ⟨#[]⟩, .int .i64 0, .string ⟨#[]⟩, .int .i64 0, .int .i64 0, .int .i64 0, .int .i64 0]), (20, .agg #[.int .i64 8, .int .i64 0, .int .i64 0, .int .i64 0, .int .i64 0, .string ⟨#[120]⟩, .int .i64 0, .string ⟨#[]⟩, .int .i64 0, .int .i64 0, .int .i64 0, .int .i64 0])]
set_option maxRecDepth 100000 in
theorem bads_cells (D : Nat) : ((bads D).flatMap fun a => (cells12 a).toList).toArray = badCells D := rfl
def badRow (D : Nat) : Obj := .cells (badCells D) 36
theorem bads_C (D : Nat) (W : World) (g : Nat) (hg : W.heap.size = g) : Kd.C k36 (W.alloc (badRow D)) (some ⟨g, 0, none⟩) 21 (bads D) := by
  subst hg
  have h := builtL W (bads D) (by rw [bads_length]; decide)
  rw [bads_cells] at h
  exact h
theorem up_no {m n : Int} (h : m < n) : upB n m = false := Bool.eq_false_iff.2 fun e => by have := upB_true e; omega
theorem dn_no {D : Nat} (h : 1 ≤ D) (m : Int) : upB (-(D : Int)) m = false := Bool.eq_false_iff.2 fun e => by have := upB_true e; omega
theorem bad_0 (D : Nat) (h0 : 1 ≤ D) : mayB ⟨-D, 0, 0, 0, 0, ⟨#[]⟩, ⟨0, ⟨#[]⟩, 0, 0, 0, 0⟩⟩ = false := by
  unfold mayB
  rw [dn_no h0]
  rfl
theorem bad_1 (D : Nat) (h0 : 1 ≤ D) : mayB ⟨8 + D, 0, 0, 0, 0, ⟨#[]⟩, ⟨0, ⟨#[]⟩, 0, 0, 0, 0⟩⟩ = false := by
  unfold mayB
  rw [up_no (show (8 : Int) < 8 + D by omega)]
  rfl
theorem bad_2 (D : Nat) (_h0 : 1 ≤ D) : mayB ⟨0, 1, 0, 0, 0, ⟨#[]⟩, ⟨0, ⟨#[]⟩, 0, 0, 0, 0⟩⟩ = false := by kernel_rfl
theorem bad_3 (D : Nat) (_h0 : 1 ≤ D) : mayB ⟨0, 0, 1, 0, 0, ⟨#[]⟩, ⟨0, ⟨#[]⟩, 0, 0, 0, 0⟩⟩ = false := by kernel_rfl
theorem bad_4 (D : Nat) (h0 : 1 ≤ D) : mayB ⟨0, 0, 0, -D, 0, ⟨#[]⟩, ⟨0, ⟨#[]⟩, 0, 0, 0, 0⟩⟩ = false := by
  unfold mayB
  rw [dn_no h0]
  rfl
theorem bad_5 (D : Nat) (h0 : 1 ≤ D) : mayB ⟨0, 0, 0, 64 + D, 0, ⟨#[]⟩, ⟨0, ⟨#[]⟩, 0, 0, 0, 0⟩⟩ = false := by
  unfold mayB
  rw [up_no (show (64 : Int) < 64 + D by omega)]
  rfl
theorem bad_6 (D : Nat) (_h0 : 1 ≤ D) : mayB ⟨0, 0, 0, 0, 0, ⟨#[120]⟩, ⟨0, ⟨#[]⟩, 0, 0, 0, 0⟩⟩ = false := by kernel_rfl
theorem bad_7 (D : Nat) (_h0 : 1 ≤ D) : mayB ⟨0, 0, 0, 0, 1, ⟨#[]⟩, ⟨0, ⟨#[]⟩, 0, 0, 0, 0⟩⟩ = false := by kernel_rfl
theorem bad_8 (D : Nat) (_h0 : 1 ≤ D) : mayB ⟨0, 0, 0, 0, 0, ⟨#[]⟩, ⟨1, ⟨#[115]⟩, 0, 0, 0, 0⟩⟩ = false := by kernel_rfl
theorem bad_9 (D : Nat) (h0 : 1 ≤ D) : mayB ⟨3, 4 + D, 0, 0, 0, ⟨#[]⟩, ⟨0, ⟨#[]⟩, 0, 0, 0, 0⟩⟩ = false := by
  unfold mayB
  rw [up_no (show (4 : Int) < 4 + D by omega)]
  rfl
theorem bad_10 (D : Nat) (h0 : 1 ≤ D) : mayB ⟨3, 0, -D, 0, 0, ⟨#[]⟩, ⟨0, ⟨#[]⟩, 0, 0, 0, 0⟩⟩ = false := by
  unfold mayB
  rw [dn_no h0]
  rfl
theorem bad_11 (D : Nat) (_h0 : 1 ≤ D) : mayB ⟨3, 0, 0, 1, 0, ⟨#[]⟩, ⟨0, ⟨#[]⟩, 0, 0, 0, 0⟩⟩ = false := by kernel_rfl
theorem bad_12 (D : Nat) (_h0 : 1 ≤ D) : mayB ⟨3, 0, 0, 0, 0, zerosB (556 + D), ⟨0, ⟨#[]⟩, 0, 0, 0, 0⟩⟩ = false := by
  have hz : decide (((zerosB (556 + D)).size : Int) ≤ 556) = false := decide_eq_false (by rw [zerosB_size]; omega)
  unfold mayB
  simp only [hz, Bool.and_false, Bool.false_and]
theorem bad_13 (D : Nat) (_h0 : 1 ≤ D) : mayB ⟨4, 0, 1, 0, 0, ⟨#[]⟩, ⟨0, ⟨#[]⟩, 0, 0, 0, 0⟩⟩ = false := by kernel_rfl
theorem bad_14 (D : Nat) (_h0 : 1 ≤ D) : mayB ⟨5, 0, 0, 1, 0, ⟨#[]⟩, ⟨0, ⟨#[]⟩, 0, 0, 0, 0⟩⟩ = false := by kernel_rfl
theorem bad_15 (D : Nat) (_h0 : 1 ≤ D) : mayB ⟨6, 1, 0, 0, 0, ⟨#[]⟩, ⟨0, ⟨#[]⟩, 0, 0, 0, 0⟩⟩ = false := by kernel_rfl
theorem bad_16 (D : Nat) (_h0 : 1 ≤ D) : mayB ⟨7, 0, 1, 0, 0, ⟨#[]⟩, ⟨0, ⟨#[]⟩, 0, 0, 0, 0⟩⟩ = false := by kernel_rfl
theorem bad_17 (D : Nat) (_h0 : 1 ≤ D) : mayB ⟨7, 0, 1, 1, 0, ⟨#[]⟩, ⟨1, ⟨#[115]⟩, 0, 0, 0, 0⟩⟩ = false := by kernel_rfl
theorem bad_18 (D : Nat) (h0 : 1 ≤ D) : mayB ⟨8, 0, 0, 0, 65535 + D, ⟨#[]⟩, ⟨0, ⟨#[]⟩, 0, 0, 0, 0⟩⟩ = false := by
  unfold mayB
  rw [up_no (show (65535 : Int) < 65535 + D by omega)]
  rfl
theorem bad_19 (D : Nat) (h0 : 1 ≤ D) : mayB ⟨8, 0, 0, 0, -D, ⟨#[]⟩, ⟨0, ⟨#[]⟩, 0, 0, 0, 0⟩⟩ = false := by
  unfold mayB
  rw [dn_no h0]
  rfl
theorem bad_20 (D : Nat) (_h0 : 1 ≤ D) : mayB ⟨8, 0, 0, 0, 0, ⟨#[120]⟩, ⟨0, ⟨#[]⟩, 0, 0, 0, 0⟩⟩ = false := by kernel_rfl
theorem bads_no (D : Nat) (h0 : 1 ≤ D) (i : Int) (hi : 0 ≤ i) (hi7 : i < 21) : mayB (rd_T36 (bads D) i) = false := by
  obtain rfl | rfl | rfl | rfl | rfl | rfl | rfl | rfl | rfl | rfl | rfl | rfl | rfl | rfl | rfl | rfl | rfl | rfl | rfl | rfl | rfl : i = 0 ∨ i = 1 ∨ i = 2 ∨ i = 3 ∨ i = 4 ∨ i = 5 ∨ i = 6 ∨ i = 7 ∨ i = 8 ∨ i = 9 ∨ i = 10 ∨ i = 11 ∨ i = 12 ∨ i = 13 ∨ i = 14 ∨ i = 15 ∨ i = 16 ∨ i = 17 ∨ i = 18 ∨ i = 19 ∨ i = 20 := by omega
  · exact bad_0 D h0
  · exact bad_1 D h0
  · exact bad_2 D h0
  · exact bad_3 D h0
  · exact bad_4 D h0
  · exact bad_5 D h0
  · exact bad_6 D h0
  · exact bad_7 D h0
  · exact bad_8 D h0
  · exact bad_9 D h0
  · exact bad_10 D h0
  · exact bad_11 D h0
  · exact bad_12 D h0
  · exact bad_13 D h0
  · exact bad_14 D h0
  · exact bad_15 D h0
  · exact bad_16 D h0
  · exact bad_17 D h0
  · exact bad_18 D h0
  · exact bad_19 D h0
  · exact bad_20 D h0

/-- Texts that are none. -/
def nones : List ByteArray := [⟨#[52]⟩, ⟨#[52, 32, 48, 32, 48, 32, 48, 32, 48, 32, 48]⟩, ⟨#[52, 32, 48, 32, 48, 32, 48, 32, 48, 32, 48, 58, 32]⟩, ⟨#[48, 52, 32, 48, 32, 48, 32, 48, 32, 48, 32, 48, 58]⟩, ⟨#[52, 32, 48, 32, 48, 32, 48, 32, 48, 32, 49, 58, 120]⟩, ⟨#[52, 32, 48, 32, 48, 32, 48, 32, 48, 32, 49, 58]⟩, ⟨#[52, 32, 48, 32, 48, 32, 48, 32, 48, 32, 48, 59]⟩, ⟨#[55, 32, 48, 32, 49, 32, 48, 32, 48, 32, 48, 58]⟩, ⟨#[55, 32, 48, 32, 49, 32, 48, 32, 48, 32, 48, 58, 49, 32, 48, 32, 48, 32, 48, 32, 48, 32, 48, 58]⟩, ⟨#[52, 44, 48, 32, 48, 32, 48, 32, 48, 32, 48, 58]⟩, ⟨#[57, 32, 48, 32, 48, 32, 48, 32, 48, 32, 48, 58]⟩]
theorem nones_no : ∀ s ∈ nones, noTell s.data.toList = true ∧ s.size ≤ 100 := by
  intro s hs
  simp only [nones, List.mem_cons, List.not_mem_nil, or_false] at hs
  obtain rfl | rfl | rfl | rfl | rfl | rfl | rfl | rfl | rfl | rfl | rfl := hs
  all_goals exact ⟨by kernel_rfl, by decide⟩
abbrev noneCells : Array Value := #[.string ⟨#[52]⟩, .string ⟨#[52, 32, 48, 32, 48, 32, 48, 32, 48, 32, 48]⟩, .string ⟨#[52, 32, 48, 32, 48, 32, 48, 32, 48, 32, 48, 58, 32]⟩, .string ⟨#[48, 52, 32, 48, 32, 48, 32, 48, 32, 48, 32, 48, 58]⟩, .string ⟨#[52, 32, 48, 32, 48, 32, 48, 32, 48, 32, 49, 58, 120]⟩, .string ⟨#[52, 32, 48, 32, 48, 32, 48, 32, 48, 32, 49, 58]⟩, .string ⟨#[52, 32, 48, 32, 48, 32, 48, 32, 48, 32, 48, 59]⟩, .string ⟨#[55, 32, 48, 32, 49, 32, 48, 32, 48, 32, 48, 58]⟩, .string ⟨#[55, 32, 48, 32, 49, 32, 48, 32, 48, 32, 48, 58, 49, 32, 48, 32, 48, 32, 48, 32, 48, 32, 48, 58]⟩, .string ⟨#[52, 44, 48, 32, 48, 32, 48, 32, 48, 32, 48, 58]⟩, .string ⟨#[57, 32, 48, 32, 48, 32, 48, 32, 48, 32, 48, 58]⟩]
theorem nones_at (W : World) (g : Nat) (hg : W.heap.size = g) (r : Int) (h0 : 0 ≤ r) (h1 : r < 11) : ∃ s, s ∈ nones ∧ (W.alloc (.cells noneCells 9)).cell? ⟨g, r.toNat, none⟩ = some (.string s) ∧ noneCells[r.toNat]? = some (.string s) := by
  subst hg
  have hc : ∀ j, (W.alloc (.cells noneCells 9)).cell? ⟨W.heap.size, j, none⟩ = noneCells[j]? := fun j => blk_cell (heap_alloc_new W (.cells noneCells 9)) j
  obtain rfl | rfl | rfl | rfl | rfl | rfl | rfl | rfl | rfl | rfl | rfl : r = 0 ∨ r = 1 ∨ r = 2 ∨ r = 3 ∨ r = 4 ∨ r = 5 ∨ r = 6 ∨ r = 7 ∨ r = 8 ∨ r = 9 ∨ r = 10 := by omega
  all_goals exact ⟨_, by simp [nones], (hc _).trans rfl, rfl⟩
theorem parse_bad (W : World) (s : ByteArray) (hv : Vars W) (hs : s ∈ nones) :
    Calls Tryd.prog 11 #[.string s] W fun e W' => e = .returned (.tuple #[.slice none 0 0, .int .i64 2300]) ∧ Below W.heap.size W W' :=
  parse_no W s hv (by have := (nones_no s hs).2; omega) fun c hc => no_tell (nones_no s hs).1 c hc


theorem tick_bad (W : World) (hv : Vars W) (a : S36) (h : mayB a = false) (g : Nat) (hg : W.heap.size = g) :
    Calls Tryd.prog 9 #[.slice (some ⟨g, 0, none⟩) 2 2] (W.alloc (.cells #[.int .i64 4, .int .i64 0, .int .i64 0, .int .i64 0, .int .i64 0, .string ⟨#[]⟩, .int .i64 0, .string ⟨#[]⟩, .int .i64 0, .int .i64 0, .int .i64 0, .int .i64 0, .int .i64 a.f0, .int .i64 a.f1, .int .i64 a.f2, .int .i64 a.f3, .int .i64 a.f4, .string a.f5, .int .i64 a.f6.f0, .string a.f6.f1, .int .i64 a.f6.f2, .int .i64 a.f6.f3, .int .i64 a.f6.f4, .int .i64 a.f6.f5] 36)) fun e w' => e = .returned (.tuple #[.string ⟨#[]⟩, .int .i64 2300]) ∧ Below W.heap.size W w' := by
  subst hg
  have h1 := below_alloc (Below.refl W.heap.size W) (.cells #[.int .i64 4, .int .i64 0, .int .i64 0, .int .i64 0, .int .i64 0, .string ⟨#[]⟩, .int .i64 0, .string ⟨#[]⟩, .int .i64 0, .int .i64 0, .int .i64 0, .int .i64 0, .int .i64 a.f0, .int .i64 a.f1, .int .i64 a.f2, .int .i64 a.f3, .int .i64 a.f4, .string a.f5, .int .i64 a.f6.f0, .string a.f6.f1, .int .i64 a.f6.f2, .int .i64 a.f6.f3, .int .i64 a.f6.f4, .int .i64 a.f6.f5] 36)
  have hno : okB [⟨4, 0, 0, 0, 0, ⟨#[]⟩, z34⟩, a] = false := by
    unfold okB
    simp only [List.all_cons, h, Bool.false_and, Bool.and_false]
  refine (show_calls _ (some ⟨W.heap.size, 0, none⟩) [⟨4, 0, 0, 0, 0, ⟨#[]⟩, z34⟩, a] 2 (hv.below h1) (builtL W [⟨4, 0, 0, 0, 0, ⟨#[]⟩, z34⟩, a] (show (2 : Nat) ≤ 300 by decide))).mono ?_
  rintro e w1 ⟨rfl, hb⟩
  rw [showF_no hno]
  exact ⟨rfl, below_step h1 hb h1.size⟩
theorem show_made (W : World) (A : Option Addr) : Calls Tryd.prog 9 #[.slice A 257 257] W fun e W' => e = .returned (.tuple #[.string ⟨#[]⟩, .int .i64 2300]) ∧ Below W.heap.size W W' := show_long W A 257 257 (by decide)
theorem mkA (W : World) : (Instr.makeSlice 22 (.int .i64 257) (.int .i64 257)).run Tryd.prog W = .ok (.slice (some ⟨W.heap.size, 0, none⟩) 257 257) (W.alloc (.cells (madeCells (cells12 z36) 3084) 36)) := by kernel_rfl

theorem cvD (W : World) (n : Nat) : (convert 45 9 (.slice (some ⟨W.heap.size, 0, none⟩) n n)).run Tryd.prog (W.alloc (.cells (madeCells #[.int .u8 0] n) 5)).drew = .ok (.string (zerosB n)) (W.alloc (.cells (madeCells #[.int .u8 0] n) 5)).drew := cvB W.drew n W.heap.size rfl
def bigSlice (p : Array (Nat × Value)) : Sem Value := Instr.buildSlice 22 21 p
theorem bigSlice_eq (p : Array (Nat × Value)) : Instr.buildSlice 22 21 p = bigSlice p := rfl
theorem bsB (D : Nat) (W : World) : (bigSlice (badParts D)).run Tryd.prog W = .ok (.slice (some ⟨W.heap.size, 0, none⟩) 21 21) (W.alloc (badRow D)) := by kernel_rfl
attribute [local go_sem ↓] bigSlice_eq
theorem keyCells {w1 w2 : World} (h : w2 = w1.alloc (.cells #[.int .i64 1, .string ⟨#[115]⟩, .int .i64 0, .int .i64 0, .int .i64 0, .int .i64 0] 34)) : w2.cell? ⟨w1.heap.size, 0, none⟩ = some (.int .i64 1) ∧ w2.cell? ⟨w1.heap.size, 1, none⟩ = some (.string ⟨#[115]⟩) ∧ w2.cell? ⟨w1.heap.size, 2, none⟩ = some (.int .i64 0) ∧ w2.cell? ⟨w1.heap.size, 3, none⟩ = some (.int .i64 0) ∧ w2.cell? ⟨w1.heap.size, 4, none⟩ = some (.int .i64 0) ∧ w2.cell? ⟨w1.heap.size, 5, none⟩ = some (.int .i64 0) ∧ w1.heap.size < w2.heap.size := by
  subst h
  have h1 := heap_alloc_new w1 (.cells #[.int .i64 1, .string ⟨#[115]⟩, .int .i64 0, .int .i64 0, .int .i64 0, .int .i64 0] 34)
  exact ⟨(blk_cell h1 0).trans rfl, (blk_cell h1 1).trans rfl, (blk_cell h1 2).trans rfl, (blk_cell h1 3).trans rfl, (blk_cell h1 4).trans rfl, (blk_cell h1 5).trans rfl, by simp⟩
theorem badBelow {W w2 w3 : World} {D : Nat} (h : Below W.heap.size W w2) (e : w3 = ((w2.alloc (.cells (madeCells #[.int .u8 0] (556 + D)) 5)).alloc (badRow D)).drew) : Below W.heap.size W w3 := by
  subst e
  exact below_drew (below_alloc (below_alloc h _) _)
theorem badAt {w2 w3 : World} {D : Nat} (e : w3 = ((w2.alloc (.cells (madeCells #[.int .u8 0] (556 + D)) 5)).alloc (badRow D)).drew) (q : Int) (h0 : 0 ≤ q) (h1 : q < 21) :
    w3.cell? ⟨w2.heap.size + 1, q.toNat * 12, none⟩ = some (.int .i64 (rd_T36 (bads D) q).f0) ∧ w3.cell? ⟨w2.heap.size + 1, q.toNat * 12 + 1, none⟩ = some (.int .i64 (rd_T36 (bads D) q).f1) ∧ w3.cell? ⟨w2.heap.size + 1, q.toNat * 12 + 2, none⟩ = some (.int .i64 (rd_T36 (bads D) q).f2) ∧ w3.cell? ⟨w2.heap.size + 1, q.toNat * 12 + 3, none⟩ = some (.int .i64 (rd_T36 (bads D) q).f3) ∧ w3.cell? ⟨w2.heap.size + 1, q.toNat * 12 + 4, none⟩ = some (.int .i64 (rd_T36 (bads D) q).f4) ∧ w3.cell? ⟨w2.heap.size + 1, q.toNat * 12 + 5, none⟩ = some (.string (rd_T36 (bads D) q).f5) ∧ w3.cell? ⟨w2.heap.size + 1, q.toNat * 12 + 6, none⟩ = some (.int .i64 (rd_T36 (bads D) q).f6.f0) ∧ w3.cell? ⟨w2.heap.size + 1, q.toNat * 12 + 7, none⟩ = some (.string (rd_T36 (bads D) q).f6.f1) ∧ w3.cell? ⟨w2.heap.size + 1, q.toNat * 12 + 8, none⟩ = some (.int .i64 (rd_T36 (bads D) q).f6.f2) ∧ w3.cell? ⟨w2.heap.size + 1, q.toNat * 12 + 9, none⟩ = some (.int .i64 (rd_T36 (bads D) q).f6.f3) ∧ w3.cell? ⟨w2.heap.size + 1, q.toNat * 12 + 10, none⟩ = some (.int .i64 (rd_T36 (bads D) q).f6.f4) ∧ w3.cell? ⟨w2.heap.size + 1, q.toNat * 12 + 11, none⟩ = some (.int .i64 (rd_T36 (bads D) q).f6.f5) := by
  have hC := Kd.C_drew (bads_C D (w2.alloc (.cells (madeCells #[.int .u8 0] (556 + D)) 5)) (w2.heap.size + 1) (by simp))
  rw [← e] at hC
  obtain ⟨ad, ea, c0, c1, c2, c3, c4, c5, c6, c7, c8, c9, c10, c11⟩ := at_T36 hC q h0 (by omega)
  obtain rfl := Option.some.inj ea
  rw [show Addr.add ⟨w2.heap.size + 1, 0, none⟩ (q.toNat * 12) = ⟨w2.heap.size + 1, q.toNat * 12, none⟩ by (simp [Addr.add]; try omega)] at c0 c1 c2 c3 c4 c5 c6 c7 c8 c9 c10 c11
  exact ⟨c0, c1, c2, c3, c4, c5, c6, c7, c8, c9, c10, c11⟩
theorem Box.step {W W' : World} {b : Nat} {a : S36} (h : Box W b a) {o : Obj} (hb : Below (W.alloc o).heap.size (W.alloc o) W') : Box W' b a := Box.below ⟨(heap_alloc_old W o h.lt).trans h.out⟩ hb
theorem keyBelow {W w1 w2 : World} {o : Obj} (h : Below W.heap.size W w1) (e : w2 = w1.alloc o) : Below W.heap.size W w2 := by
  subst e
  exact below_alloc h _

set_option maxHeartbeats 8000000 in
set_option maxRecDepth 100000 in
theorem forms_walk (n x : Int) (D : Nat) (W : World) (hv : Vars W) (hx : Go.bits .and .i64 x 1023 = (D : Int) - 1) (hD0 : 1 ≤ D) (hD1 : D ≤ 1024) :
    Calls Tryd.prog 7 #[.int .i64 n, .int .i64 x] W fun e w' => e = .returned (.bool true) ∧ Below W.heap.size W w' := by
  have hd : IntKind.i64.wrap (1 + ((D : Int) - 1)) = (D : Int) := by rw [IntKind.wrap_i64]; omega
  have h2 : IntKind.i64.wrap (8 + (D : Int)) = 8 + (D : Int) := by rw [IntKind.wrap_i64]; omega
  have h3 : IntKind.i64.wrap (-(D : Int)) = -(D : Int) := by rw [IntKind.wrap_i64]; omega
  have h4 : IntKind.i64.wrap (556 + (D : Int)) = 556 + (D : Int) := by rw [IntKind.wrap_i64]; omega
  have h5 : IntKind.i64.wrap (64 + (D : Int)) = 64 + (D : Int) := by rw [IntKind.wrap_i64]; omega
  have h6 : IntKind.i64.wrap (4 + (D : Int)) = 4 + (D : Int) := by rw [IntKind.wrap_i64]; omega
  have h7 : IntKind.i64.wrap (65535 + (D : Int)) = 65535 + (D : Int) := by rw [IntKind.wrap_i64]; omega
  have hu : 0 ≤ IntKind.u64.wrap n := by rw [IntKind.wrap_u64]; omega
  obtain ⟨q, hq, hq0, hq7⟩ : ∃ q, (IntKind.u64.wrap n).tmod 21 = q ∧ 0 ≤ q ∧ q < 21 := ⟨_, rfl, by rw [Int.tmod_eq_emod_of_nonneg hu]; omega, by rw [Int.tmod_eq_emod_of_nonneg hu]; omega⟩
  obtain ⟨r, hr, hr0, hr7⟩ : ∃ r, (IntKind.u64.wrap n).tmod 11 = r ∧ 0 ≤ r ∧ r < 11 := ⟨_, rfl, by rw [Int.tmod_eq_emod_of_nonneg hu]; omega, by rw [Int.tmod_eq_emod_of_nonneg hu]; omega⟩
  have hqw : IntKind.i64.wrap q = q := by rw [IntKind.wrap_i64]; omega
  have hrw : IntKind.i64.wrap r = r := by rw [IntKind.wrap_i64]; omega
  clear hu
  have hmk := mkB D hD1
  have hmka := mkA
  have hbad := Aside0.mk (bads_no D hD0 q hq0 hq7)
  replace hv := Aside0.mk hv
  go_enter Tryd.func7, Tryd.ntmps7
  go_wp2_with (first
    | (go_at_call 8; (with_reducible refine (awake_calls _ hv.out).mono ?_); rintro e w1 ⟨rfl, hb1⟩; replace hb1 := Aside0.mk hb1; skip)
    | (go_at_call 10; (with_reducible refine (num_same _ _).mono ?_); rintro e wn ⟨rfl, rfl⟩))
  obtain ⟨w2, hw2⟩ : ∃ w2, w2 = w1.alloc (.cells #[.int .i64 1, .string ⟨#[115]⟩, .int .i64 0, .int .i64 0, .int .i64 0, .int .i64 0] 34) := ⟨_, rfl⟩
  rw [← hw2]
  have hcv := cvD w2 (556 + D)
  have l0 := keyCells hw2
  obtain ⟨x0, x1, x2, x3, x4, x5, hsz⟩ := l0
  have hB2 := Aside0.mk (keyBelow hb1.out hw2)
  replace hw2 := Aside0.mk hw2
  unfold cells12 z36 z34 at hmka
  have hbs := bsB D (w2.alloc (.cells (madeCells #[.int .u8 0] (556 + D)) 5)).drew
  unfold badParts at hbs
  go_region
  obtain ⟨w3, hw3⟩ : ∃ w3, w3 = ((w2.alloc (.cells (madeCells #[.int .u8 0] (556 + D)) 5)).alloc (badRow D)).drew := ⟨_, rfl⟩
  rw [← hw3]
  have hB3 := Aside0.mk (badBelow hB2.out hw3)
  obtain ⟨c0, c1, c2, c3, c4, c5, c6, c7, c8, c9, c10, c11⟩ := badAt hw3 q hq0 hq7
  obtain ⟨gz, hgz⟩ : ∃ gz, gz = w2.heap.size + 1 := ⟨_, rfl⟩
  rw [← hgz] at c0 c1 c2 c3 c4 c5 c6 c7 c8 c9 c10 c11 ⊢
  replace hgz := Aside0.mk hgz
  clear hcv hbs hmk x0 x1 x2 x3 x4 x5 hsz hw3 hw2 hB2 hb1 hd h2 h3 h4 h5 h6 h7 hx hgz
  obtain ⟨b, hb⟩ : ∃ b, b = rd_T36 (bads D) q := ⟨_, rfl⟩
  rw [← hb] at hbad c0 c1 c2 c3 c4 c5 c6 c7 c8 c9 c10 c11
  clear hb
  go_wp2_with (first
    | (go_at_call 9; (with_reducible refine (tick_bad (newAct w3 b) (hv.out.below (below_alloc hB3.out _)) b hbad.out (w3.heap.size + 1) (by simp)).mono ?_); rintro e w4 ⟨rfl, hb4⟩; have hK4 := Aside0.mk ((Box.new w3 b).below hb4); replace hb4 := Aside0.mk (below_step (below_alloc hB3.out _) hb4 (below_alloc hB3.out _).size); obtain ⟨s, hs, ht0, ht1⟩ := nones_at w4 w4.heap.size rfl r hr0 hr7; replace hs := Aside0.mk hs)
    | (go_at_call 11; (with_reducible refine (parse_bad _ s (hv.out.below (below_alloc hb4.out _)) hs.out).mono ?_); rintro e w5 ⟨rfl, hb5⟩; have hK5 := Aside0.mk (hK4.out.step hb5); replace hb5 := Aside0.mk (below_step (below_alloc hb4.out _) hb5 (below_alloc hb4.out _).size))
    | (go_at_call 9; (with_reducible refine (show_made _ _).mono ?_); rintro e w6 ⟨rfl, hb6⟩; have ⟨y0, y1, y2, y3, y4, y5, y6, y7, y8, y9, y10, y11⟩ := (hK5.out.step hb6).cells; replace hb6 := Aside0.mk (below_step (below_alloc hb5.out _) hb6 (below_alloc hb5.out _).size))
    | (go_at_call 13; (with_reducible refine (may_now b false hbad.out _).mono ?_); rintro e w7 ⟨rfl, hb7⟩; replace hb7 := Aside0.mk (below_step hb6.out hb7 hb6.out.size))
    | (go_at_call 10; (with_reducible refine (num_same _ _).mono ?_); rintro e wn ⟨rfl, rfl⟩))
  go_ret
  exact ⟨rfl, hb7.out⟩

theorem forms_row (n x : Int) (W : World) (hv : Vars W) : Calls Tryd.prog 7 #[.int .i64 n, .int .i64 x] W fun e w' => e = .returned (.bool true) ∧ Below W.heap.size W w' := by
  have h0 : 0 ≤ x % 1024 := by omega
  have h1 : x % 1024 < 1024 := by omega
  exact forms_walk n x (x % 1024 + 1).toNat W hv (by rw [and1023]; omega) (by omega) (by omega)

end Go.Proofs.YtdpbklckeamjpaaDoor.Scr
