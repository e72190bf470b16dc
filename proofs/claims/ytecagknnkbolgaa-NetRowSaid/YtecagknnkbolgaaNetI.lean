/- One net and two of them, behind calls; the texts' own helpers (Num, SameMsgs, SpoilMsgs). -/
import Derived.Test.YtecagknnkbolgaaNetH
namespace Go.Proofs.Ytecagknnkbolgaa.NetW
open Go.RowKit Go.Proofs.YtecagknnkbolgaaW.PrintWords Go.Proofs.YtecagknnkbolgaaW.PrintLast Go.Proofs.YtecagknnkbolgaaW.PrintMore Go.Proofs.Ytecagknnkbolgaa.PNets

/-- A net whose row is L; the blocks P are not its own. -/
def One (T : Nat) (w0 W : World) (g : Nat) (L : List S31) (P : Nat → Prop) : Prop :=
  ∃ v, Net T w0 W g v L ∧ Below w0.heap.size w0 W ∧ ∀ k, P k → k < W.heap.size ∧ k ≠ g ∧ v.ownBlock ≠ some k
/-- Two nets. -/
def Two (T1 T2 : Nat) (w0 W : World) (g r : Nat) (L M : List S31) (P : Nat → Prop) : Prop :=
  ∃ v u, Net T1 w0 W g v L ∧ Net T2 w0 W r u M ∧ Below w0.heap.size w0 W ∧ g ≠ r ∧ (∀ b, v.ownBlock = some b → u.ownBlock ≠ some b) ∧
    ∀ k, P k → k < W.heap.size ∧ k ≠ g ∧ k ≠ r ∧ v.ownBlock ≠ some k ∧ u.ownBlock ≠ some k
/-- The blocks P stand as they stood. -/
def Keep (P : Nat → Prop) (W W' : World) : Prop := W.heap.size ≤ W'.heap.size ∧ ∀ k, P k → W'.heap[k]? = W.heap[k]?

theorem Box.keep {W W' : World} {P : Nat → Prop} {b : Nat} {x y : Int} {s : ByteArray} (h : Box W b x y s) (hk : Keep P W W') (hP : P b) : Box W' b x y s := ⟨(hk.2 b hP).trans h.out⟩

theorem One.left {T : Nat} {w0 W W' : World} {g : Nat} {v : Value} {L' : List S31} {P : Nat → Prop} (hP : ∀ k, P k → k < W.heap.size ∧ k ≠ g ∧ v.ownBlock ≠ some k) (h : Left T w0 W g v L' W') : One T w0 W' g L' P ∧ Keep P W W' := by
  obtain ⟨v', hN, hB, hK, hf⟩ := h
  refine ⟨⟨v', hN, hB, fun k hk => ?_⟩, hK.1, fun k hk => ?_⟩
  · obtain ⟨h1, h2, h3⟩ := hP k hk
    refine ⟨Nat.lt_of_lt_of_le h1 hK.1, h2, fun e => ?_⟩
    rcases hf k e with h | h
    · exact h3 h
    · omega
  · obtain ⟨h1, h2, h3⟩ := hP k hk
    exact hK.2 k h1 (fun h => h.elim h2 (fun e => h3 e.symm))

theorem Net.kept {T : Nat} {w0 W W' : World} {g : Nat} {v : Value} {L : List S31} {S : Nat → Prop} (h : Net T w0 W g v L) (hk : Kept W W' S) (hg : ¬ S g) (hv : ∀ b, v.ownBlock = some b → ¬ S b) : Net T w0 W' g v L :=
  ⟨blk_kept h.blk hk hg, h.ge, Kd.R_mono (Kd.R_kept (Kd.R_tight rfl h.row) hk (fun k e => hv k e.symm)) (fun _ _ => trivial)⟩

theorem Net.own_ne {T T' : Nat} {w0 W : World} {g g' : Nat} {v v' : Value} {L L' : List S31} (h : Net T w0 W g v L) (h' : Net T' w0 W g' v' L') (ht : 31 ≠ T') : v.ownBlock ≠ some g' := fun e => Kd.R_ne h.row h'.blk ht e.symm

theorem Two.left1 {T1 T2 : Nat} {w0 W W' : World} {g r : Nat} {v u : Value} {L0 L' M : List S31} {P : Nat → Prop} (h2 : Net T2 w0 W r u M) (hgr : g ≠ r) (ht : 31 ≠ T1) (hvr : v.ownBlock ≠ some r) (h1 : Net T1 w0 W g v L0) (hvu : ∀ b, v.ownBlock = some b → u.ownBlock ≠ some b)
    (hP : ∀ k, P k → k < W.heap.size ∧ k ≠ g ∧ k ≠ r ∧ v.ownBlock ≠ some k ∧ u.ownBlock ≠ some k) (h : Left T1 w0 W g v L' W') : Two T1 T2 w0 W' g r L' M P ∧ Keep P W W' := by
  have hug := h2.own_ne h1 ht
  obtain ⟨v', hN, hB, hK, hf⟩ := h
  refine ⟨⟨v', u, hN, h2.kept hK (fun h => h.elim (fun e => hgr e.symm) (fun e => hvr e.symm)) (fun b e h => h.elim (fun e' => hug (e' ▸ e)) (fun e' => hvu b e'.symm e)), hB, hgr, fun b e e' => ?_, fun k hk => ?_⟩, hK.1, fun k hk => ?_⟩
  · rcases hf b e with h | h
    · exact hvu b h e'
    · have := Kd.R_lt h2.row b e'
      omega
  · obtain ⟨p1, p2, p3, p4, p5⟩ := hP k hk
    refine ⟨Nat.lt_of_lt_of_le p1 hK.1, p2, p3, fun e => ?_, p5⟩
    rcases hf k e with h | h
    · exact p4 h
    · omega
  · obtain ⟨p1, p2, p3, p4, p5⟩ := hP k hk
    exact hK.2 k p1 (fun h => h.elim p2 (fun e => p4 e.symm))

theorem Two.swap {T1 T2 : Nat} {w0 W : World} {g r : Nat} {L M : List S31} {P : Nat → Prop} (h : Two T1 T2 w0 W g r L M P) : Two T2 T1 w0 W r g M L P := by
  obtain ⟨v, u, h1, h2, h3, h4, h5, h6⟩ := h
  exact ⟨u, v, h2, h1, h3, Ne.symm h4, fun b e e' => h5 b e' e, fun k hk => by
    obtain ⟨p1, p2, p3, p4, p5⟩ := h6 k hk
    exact ⟨p1, p3, p2, p5, p4⟩⟩

theorem One.below {T : Nat} {w0 W W' : World} {g : Nat} {L : List S31} {P : Nat → Prop} (h : One T w0 W g L P) (hb : Below W.heap.size W W') : One T w0 W' g L P := by
  obtain ⟨v, h1, h2, h3⟩ := h
  exact ⟨v, h1.below hb, below_step h2 hb h2.size, fun k hk => ⟨Nat.lt_of_lt_of_le (h3 k hk).1 hb.size, (h3 k hk).2⟩⟩
theorem Two.below {T1 T2 : Nat} {w0 W W' : World} {g r : Nat} {L M : List S31} {P : Nat → Prop} (h : Two T1 T2 w0 W g r L M P) (hb : Below W.heap.size W W') : Two T1 T2 w0 W' g r L M P := by
  obtain ⟨v, u, h1, h2, h3, h4, h5, h6⟩ := h
  exact ⟨v, u, h1.below hb, h2.below hb, below_step h3 hb h3.size, h4, h5, fun k hk => ⟨Nat.lt_of_lt_of_le (h6 k hk).1 hb.size, (h6 k hk).2⟩⟩
theorem Keep.of_below {P : Nat → Prop} {W W' : World} (hP : ∀ k, P k → k < W.heap.size) (hb : Below W.heap.size W W') : Keep P W W' := ⟨hb.size, fun k hk => hb.block k (hP k hk)⟩
theorem One.mono {T : Nat} {w0 W : World} {g : Nat} {L : List S31} {P P' : Nat → Prop} (h : One T w0 W g L P) (hp : ∀ k, P' k → P k) : One T w0 W g L P' := by
  obtain ⟨v, h1, h2, h3⟩ := h
  exact ⟨v, h1, h2, fun k hk => h3 k (hp k hk)⟩
theorem Two.mono {T1 T2 : Nat} {w0 W : World} {g r : Nat} {L M : List S31} {P P' : Nat → Prop} (h : Two T1 T2 w0 W g r L M P) (hp : ∀ k, P' k → P k) : Two T1 T2 w0 W g r L M P' := by
  obtain ⟨v, u, h1, h2, h3, h4, h5, h6⟩ := h
  exact ⟨v, u, h1, h2, h3, h4, h5, fun k hk => h6 k (hp k hk)⟩
theorem Net.inside {T : Nat} {w0 W : World} {g : Nat} {v : Value} {L : List S31} (h : Net T w0 W g v L) : g < W.heap.size := blk_lt h.blk
/-- A new block is no net's. -/
theorem One.alloc {T : Nat} {w0 W : World} {g : Nat} {L : List S31} {P : Nat → Prop} (h : One T w0 W g L P) (o : Obj) : One T w0 (W.alloc o) g L (fun k => P k ∨ k = W.heap.size) := by
  obtain ⟨v, h1, h2, h3⟩ := h
  have hb := below_alloc (Below.refl W.heap.size W) o
  refine ⟨v, h1.below hb, below_step h2 hb h2.size, fun k hk => ?_⟩
  rcases hk with hk | rfl
  · exact ⟨Nat.lt_of_lt_of_le (h3 k hk).1 hb.size, (h3 k hk).2⟩
  · refine ⟨by simp, by have := h1.inside; omega, fun e => ?_⟩
    have := Kd.R_lt h1.row _ e
    omega
theorem Two.alloc {T1 T2 : Nat} {w0 W : World} {g r : Nat} {L M : List S31} {P : Nat → Prop} (h : Two T1 T2 w0 W g r L M P) (o : Obj) : Two T1 T2 w0 (W.alloc o) g r L M (fun k => P k ∨ k = W.heap.size) := by
  obtain ⟨v, u, h1, h2, h3, h4, h5, h6⟩ := h
  have hb := below_alloc (Below.refl W.heap.size W) o
  refine ⟨v, u, h1.below hb, h2.below hb, below_step h3 hb h3.size, h4, h5, fun k hk => ?_⟩
  rcases hk with hk | rfl
  · exact ⟨Nat.lt_of_lt_of_le (h6 k hk).1 hb.size, (h6 k hk).2⟩
  · refine ⟨by simp, by have := h1.inside; omega, by have := h2.inside; omega, fun e => ?_, fun e => ?_⟩
    · have := Kd.R_lt h1.row _ e
      omega
    · have := Kd.R_lt h2.row _ e
      omega
theorem One.far {T : Nat} {w0 W : World} {g b : Nat} {L : List S31} {P : Nat → Prop} (h : One T w0 W g L P) (hb : P b) (hw : w0.heap.size ≤ b) (j : Nat) (u : Value) : One T w0 (W.setCell ⟨b, j, none⟩ u) g L P := by
  obtain ⟨v, h1, h2, h3⟩ := h
  have hs : (W.setCell ⟨b, j, none⟩ u).heap.size = W.heap.size := by simp [World.setCell]
  exact ⟨v, h1.other (Ne.symm (h3 b hb).2.1) (fun e => (h3 b hb).2.2 e.symm) j u, h2.setCell (p := ⟨b, j, none⟩) hw u, fun k hk => by rw [hs]; exact h3 k hk⟩
theorem Two.far {T1 T2 : Nat} {w0 W : World} {g r b : Nat} {L M : List S31} {P : Nat → Prop} (h : Two T1 T2 w0 W g r L M P) (hb : P b) (hw : w0.heap.size ≤ b) (j : Nat) (x : Value) : Two T1 T2 w0 (W.setCell ⟨b, j, none⟩ x) g r L M P := by
  obtain ⟨v, u, h1, h2, h3, h4, h5, h6⟩ := h
  have hs : (W.setCell ⟨b, j, none⟩ x).heap.size = W.heap.size := by simp [World.setCell]
  obtain ⟨p1, p2, p3, p4, p5⟩ := h6 b hb
  exact ⟨v, u, h1.other (Ne.symm p2) (fun e => p4 e.symm) j x, h2.other (Ne.symm p3) (fun e => p5 e.symm) j x, h3.setCell (p := ⟨b, j, none⟩) hw x, h4, h5, fun k hk => by rw [hs]; exact h6 k hk⟩

section calls
variable {w0 W : World} {g r : Nat} {L M : List S31} {P : Nat → Prop} {T2 : Nat}
theorem send1 (h : One 52 w0 W g L P) (m : S31) (hl : L.length ≤ 64) :
    Calls Try.prog 9 #[.pointer (some ⟨g, 0, none⟩), .agg #[.int .i64 m.f0, .int .i64 m.f1, .string m.f2]] W fun e W' => e = .returned (.int .i64 (sendF L m).2) ∧ One 52 w0 W' g (sendF L m).1 P ∧ Keep P W W' := by
  obtain ⟨v, h1, h2, h3⟩ := h
  exact (send_raw w0 W g v L m h1 h2 hl).mono fun e w' h => ⟨h.1, One.left h3 h.2.left⟩
theorem copy1 (h : One 52 w0 W g L P) (k : Int) (hl : L.length ≤ 64) :
    Calls Try.prog 13 #[.pointer (some ⟨g, 0, none⟩), .int .i64 k] W fun e W' => e = .returned (.int .i64 (copyF L k).2) ∧ One 52 w0 W' g (copyF L k).1 P ∧ Keep P W W' := by
  obtain ⟨v, h1, h2, h3⟩ := h
  exact (copy_calls w0 W g v L k h1 h2 hl).mono fun e w' h => ⟨h.1, One.left h3 h.2.left⟩
theorem take1 (h : One 52 w0 W g L P) (k : Int) (hl : L.length ≤ 64) :
    Calls Try.prog 11 #[.pointer (some ⟨g, 0, none⟩), .int .i64 k] W fun e W' => e = .returned (.tuple #[val (takeF L k).2.1, .int .i64 (takeF L k).2.2]) ∧ One 52 w0 W' g (takeF L k).1 P ∧ Keep P W W' := by
  obtain ⟨v, h1, h2, h3⟩ := h
  exact (take_calls w0 W g v L k h1 h2 (by omega)).mono fun e w' h => ⟨h.1, One.left h3 h.2.left⟩
theorem all1 (h : One 52 w0 W g L P) (hl : L.length ≤ 64) :
    Calls Try.prog 15 #[.pointer (some ⟨g, 0, none⟩)] W fun e W' => ∃ v', e = .returned v' ∧ Kd.R k31 31 W' W.heap.size (fun _ => True) v' L ∧ Below W.heap.size W W' := by
  obtain ⟨v, h1, h2, h3⟩ := h
  exact all_calls w0 W g v L h1 (by omega)

theorem send2 (h : Two 52 T2 w0 W g r L M P) (ht : 31 ≠ T2) (m : S31) (hl : L.length ≤ 64) :
    Calls Try.prog 9 #[.pointer (some ⟨g, 0, none⟩), .agg #[.int .i64 m.f0, .int .i64 m.f1, .string m.f2]] W fun e W' => e = .returned (.int .i64 (sendF L m).2) ∧ Two 52 T2 w0 W' g r (sendF L m).1 M P ∧ Keep P W W' := by
  obtain ⟨v, u, h1, h2, h3, h4, h5, h6⟩ := h
  exact (send_raw w0 W g v L m h1 h3 hl).mono fun e w' h => ⟨h.1, Two.left1 h2 h4 (by decide) (h1.own_ne h2 ht) h1 h5 h6 h.2.left⟩
theorem take2 (h : Two 52 T2 w0 W g r L M P) (ht : 31 ≠ T2) (k : Int) (hl : L.length ≤ 64) :
    Calls Try.prog 11 #[.pointer (some ⟨g, 0, none⟩), .int .i64 k] W fun e W' => e = .returned (.tuple #[val (takeF L k).2.1, .int .i64 (takeF L k).2.2]) ∧ Two 52 T2 w0 W' g r (takeF L k).1 M P ∧ Keep P W W' := by
  obtain ⟨v, u, h1, h2, h3, h4, h5, h6⟩ := h
  exact (take_calls w0 W g v L k h1 h3 (by omega)).mono fun e w' h => ⟨h.1, Two.left1 h2 h4 (by decide) (h1.own_ne h2 ht) h1 h5 h6 h.2.left⟩
theorem copy2 (h : Two 52 T2 w0 W g r L M P) (ht : 31 ≠ T2) (k : Int) (hl : L.length ≤ 64) :
    Calls Try.prog 13 #[.pointer (some ⟨g, 0, none⟩), .int .i64 k] W fun e W' => e = .returned (.int .i64 (copyF L k).2) ∧ Two 52 T2 w0 W' g r (copyF L k).1 M P ∧ Keep P W W' := by
  obtain ⟨v, u, h1, h2, h3, h4, h5, h6⟩ := h
  exact (copy_calls w0 W g v L k h1 h3 hl).mono fun e w' h => ⟨h.1, Two.left1 h2 h4 (by decide) (h1.own_ne h2 ht) h1 h5 h6 h.2.left⟩
theorem rsend2 (h : Two 52 28 w0 W g r L M P) (m : S31) :
    Calls Try.prog 10 #[.pointer (some ⟨r, 0, none⟩), .agg #[.int .i64 m.f0, .int .i64 m.f1, .string m.f2]] W fun e W' => e = .returned (.int .i64 (sendF M m).2) ∧ Two 52 28 w0 W' g r L (sendF M m).1 P ∧ Keep P W W' := by
  obtain ⟨v, u, h1, h2, h3, h4, h5, h6⟩ := h.swap
  exact (rsend_raw w0 W r v M m h1 h3).mono fun e w' h => ⟨h.1, by
    have := Two.left1 h2 h4 (by decide) (h1.own_ne h2 (by decide)) h1 h5 h6 h.2.left
    exact ⟨this.1.swap, this.2⟩⟩
theorem rtake2 (h : Two 52 28 w0 W g r L M P) (k : Int) (hl : M.length ≤ 64) :
    Calls Try.prog 12 #[.pointer (some ⟨r, 0, none⟩), .int .i64 k] W fun e W' => e = .returned (.tuple #[val (takeF M k).2.1, .int .i64 (takeF M k).2.2]) ∧ Two 52 28 w0 W' g r L (takeF M k).1 P ∧ Keep P W W' := by
  obtain ⟨v, u, h1, h2, h3, h4, h5, h6⟩ := h.swap
  exact (rtake_calls w0 W r v M k h1 h3 (by omega)).mono fun e w' h => ⟨h.1, by
    have := Two.left1 h2 h4 (by decide) (h1.own_ne h2 (by decide)) h1 h5 h6 h.2
    exact ⟨this.1.swap, this.2⟩⟩
theorem rcopy2 (h : Two 52 28 w0 W g r L M P) (k : Int) :
    Calls Try.prog 14 #[.pointer (some ⟨r, 0, none⟩), .int .i64 k] W fun e W' => e = .returned (.int .i64 (copyF M k).2) ∧ Two 52 28 w0 W' g r L (copyF M k).1 P ∧ Keep P W W' := by
  obtain ⟨v, u, h1, h2, h3, h4, h5, h6⟩ := h.swap
  exact (rcopy_calls w0 W r v M k h1 h3).mono fun e w' h => ⟨h.1, by
    have := Two.left1 h2 h4 (by decide) (h1.own_ne h2 (by decide)) h1 h5 h6 h.2.left
    exact ⟨this.1.swap, this.2⟩⟩
theorem all2 (h : Two 52 T2 w0 W g r L M P) (hl : L.length ≤ 64) :
    Calls Try.prog 15 #[.pointer (some ⟨g, 0, none⟩)] W fun e W' => ∃ v', e = .returned v' ∧ Kd.R k31 31 W' W.heap.size (fun _ => True) v' L ∧ Below W.heap.size W W' := by
  obtain ⟨v, u, h1, h2, h3, h4, h5, h6⟩ := h
  exact all_calls w0 W g v L h1 (by omega)
end calls

theorem num_below (n : Int) (w : World) : Calls Try.prog 8 #[.int .i64 n] w fun e w' => e = .returned (.int .i64 n) ∧ Below w.heap.size w w' :=
  (watchwordlaw0_Num.calls n n w rfl).mono fun _ _ h => ⟨h.1, h.2.below⟩

theorem same_l0 (L : List S31) (hL : L.length ≤ 1000) : ∀ d (k : Nat) (i : Nat), L.length - i = d → i ≤ L.length → d < k → watchwordlaw0_SameMsgs.l0 k L L (i : Int) = some true := by
  intro d
  induction d with
  | zero =>
    intro k i hd hi hk
    obtain ⟨k, rfl⟩ : ∃ m, k = m + 1 := ⟨k - 1, by omega⟩
    simp only [watchwordlaw0_SameMsgs.l0]
    rw [if_neg (by omega)]
  | succ d ih =>
    intro k i hd hi hk
    obtain ⟨k, rfl⟩ : ∃ m, k = m + 1 := ⟨k - 1, by omega⟩
    simp only [watchwordlaw0_SameMsgs.l0]
    rw [if_pos (by omega), if_pos (by omega), if_pos (by omega), if_neg (by simp)]
    have : wrap64 ((i : Int) + 1) = ((i + 1 : Nat) : Int) := by
      unfold wrap64
      omega
    rw [this]
    exact ih k (i + 1) (by omega) (by omega) (by omega)

theorem same_true {A0 A1 : Option Addr} {c0 c1 : Nat} {L : List S31} {w : World} (h0 : Kd.C k31 w A0 L.length L) (hc0 : L.length ≤ c0) (h1 : Kd.C k31 w A1 L.length L) (hc1 : L.length ≤ c1) (hl : L.length ≤ 64) :
    Calls Try.prog 16 #[.slice A0 L.length c0, .slice A1 L.length c1] w fun e w' => e = .returned (.bool true) ∧ Below w.heap.size w w' :=
  (watchwordlaw0_SameMsgs.calls (L.length + 1) A0 c0 L A1 c1 L true w h0 hc0 h1 hc1 (by
    unfold watchwordlaw0_SameMsgs.f
    rw [if_pos rfl]
    exact same_l0 L (by omega) L.length (L.length + 1) 0 (by omega) (by omega) (by omega))).mono fun _ _ h => ⟨h.1, h.2.below⟩

theorem spoil_l0 : ∀ d (k : Nat) (L : List S31) (i : Nat), L.length ≤ 1000 → L.length - i = d → i ≤ L.length → d < k → ∃ r, watchwordlaw0_SpoilMsgs.l0 k L (i : Int) = some r := by
  intro d
  induction d with
  | zero =>
    intro k L i hL hd hi hk
    obtain ⟨k, rfl⟩ : ∃ m, k = m + 1 := ⟨k - 1, by omega⟩
    simp only [watchwordlaw0_SpoilMsgs.l0]
    rw [if_neg (by omega)]
    exact ⟨_, rfl⟩
  | succ d ih =>
    intro k L i hL hd hi hk
    obtain ⟨k, rfl⟩ : ∃ m, k = m + 1 := ⟨k - 1, by omega⟩
    simp only [watchwordlaw0_SpoilMsgs.l0]
    rw [if_pos (by omega), if_pos (by omega)]
    have : wrap64 ((i : Int) + 1) = ((i + 1 : Nat) : Int) := by
      unfold wrap64
      omega
    rw [this]
    exact ih k _ (i + 1) (by simpa using hL) (by simp; omega) (by simp; omega) (by omega)

/-- A row of one's own that is spoiled: nothing ahead of it is. -/
theorem spoil_calls {W w : World} {v : Value} {L : List S31} (hB : Below W.heap.size W w) (hR : Kd.R k31 31 w W.heap.size (fun _ => True) v L) (hl : L.length ≤ 64) :
    Calls Try.prog 17 #[v] w fun e w' => e = .returned (.tuple #[]) ∧ Below W.heap.size W w' := by
  obtain ⟨r, hr⟩ := spoil_l0 L.length (L.length + 1) L 0 (by omega) (by omega) (by omega) (by omega)
  exact (watchwordlaw0_SpoilMsgs.calls (L.length + 1) (fun _ => True) v L r W w hB hR hr).mono fun _ _ h => ⟨h.1, h.2.2.1⟩

end Go.Proofs.Ytecagknnkbolgaa.NetW
