/- BootRises's code, step by step: boots, some of them torn anywhere: each count that is told is greater than all ahead of it. -/
import Derived.Test.YtjcmjfabadlbjaaBootPlain
import Derived.Deep.RegionHeld3
import Derived.Deep.DeepCutAuto
import Derived.Deep.LoopGhost
import Derived.Outline
namespace Go.Proofs.Ytjcmjfabadlbjaa.Boot
open Go.RowKit Go.Proofs.YtjcmjfabadlbjaaW.PrintWords Go.Proofs.YtjcmjfabadlbjaaW.PrintLast Go.Proofs.YtjcmjfabadlbjaaW.PrintMore Go.Proofs.Ytjcmjfabadlbjaa.PS3 Go.Proofs.Ytjcmjfabadlbjaa.Byt Go.Proofs.Ytjcmjfabadlbjaa.Slot

theorem num_below (n : Int) (w : World) : Calls Try.prog 19 #[.int .i64 n] w fun e w' => e = .returned (.int .i64 n) ∧ Below w.heap.size w w' :=
  (num_calls n w).mono fun _ _ h => ⟨h.1, h.2.below⟩

theorem half17 (n : Int) : 0 ≤ IntKind.i64.wrap ((IntKind.u64.wrap n / 2).tmod 17) ∧ IntKind.i64.wrap ((IntKind.u64.wrap n / 2).tmod 17) ≤ 16 := by
  have hu : 0 ≤ IntKind.u64.wrap n ∧ IntKind.u64.wrap n < 18446744073709551616 := by rw [IntKind.wrap_u64]; omega
  rw [Int.tmod_eq_emod_of_nonneg (by omega), IntKind.wrap_i64]
  omega

/-- A disk in a variable: block g. -/
structure Var (W : World) (g : Nat) (a b : ByteArray) : Prop where mk :: (out : W.heap[g]? = some (.cells #[.string a, .string b] 45 (0, 0)))
theorem Var.c0 {W : World} {g : Nat} {a b : ByteArray} (h : Var W g a b) : W.cell? ⟨g, 0, none⟩ = some (.string a) := by simp [World.cell?, h.out]
theorem Var.c1 {W : World} {g : Nat} {a b : ByteArray} (h : Var W g a b) : W.cell? ⟨g, 1, none⟩ = some (.string b) := by simp [World.cell?, h.out]
theorem Var.f0 {W : World} {g : Nat} {a b : ByteArray} (h : Var W g a b) : W.frozen? ⟨g, 0, none⟩ = false := by simp [World.frozen?, h.out]
theorem Var.f1 {W : World} {g : Nat} {a b : ByteArray} (h : Var W g a b) : W.frozen? ⟨g, 1, none⟩ = false := by simp [World.frozen?, h.out]
theorem Var.lt {W : World} {g : Nat} {a b : ByteArray} (h : Var W g a b) : g < W.heap.size := (Array.getElem?_eq_some_iff.1 h.out).1
theorem Var.below {W W' : World} {g : Nat} {a b : ByteArray} (h : Var W g a b) (hb : Below W.heap.size W W') : Var W' g a b := ⟨(hb.block g h.lt).trans h.out⟩
theorem Var.new (W : World) (a b : ByteArray) : Var (W.alloc (.cells #[.string a, .string b] 45)) W.heap.size a b := ⟨heap_alloc_new W _⟩
theorem Var.alloc {W : World} {g : Nat} {a b : ByteArray} (h : Var W g a b) (o : Obj) : Var (W.alloc o) g a b := ⟨(heap_alloc_old W o h.lt).trans h.out⟩
theorem Var.drewN {W : World} {g : Nat} {a b : ByteArray} (h : Var W g a b) (n : Nat) : Var (W.drewN n) g a b := ⟨h.out⟩
theorem Var.store {W : World} {g : Nat} {a b : ByteArray} (h : Var W g a b) (c d : ByteArray) : Var ((W.setCell ⟨g, 0, none⟩ (.string c)).setCell ⟨g, 1, none⟩ (.string d)) g c d := by
  have h1 := setCell_heap W g 0 _ 45 (0, 0) (.string c) h.out
  have h2 := setCell_heap _ g 1 _ 45 (0, 0) (.string d) h1
  exact ⟨h2⟩
theorem Var.other {W : World} {g g' : Nat} {a b : ByteArray} (h : Var W g a b) (hne : g ≠ g') (j : Nat) (v : Value) : Var (W.setCell ⟨g', j, none⟩ v) g a b :=
  ⟨(heap_setCell_other W ⟨g', j, none⟩ g v hne).trans h.out⟩

theorem keep_alloc {W : World} {o : Obj} {g : Nat} {ad : Addr} {x y z : Value} (h : W.cell? ⟨g, 0, none⟩ = some x ∧ W.cell? ⟨g, 1, none⟩ = some y ∧ W.cell? ad = some z) :
    (W.alloc o).cell? ⟨g, 0, none⟩ = some x ∧ (W.alloc o).cell? ⟨g, 1, none⟩ = some y ∧ (W.alloc o).cell? ad = some z :=
  ⟨(World.cell?_alloc_lt _ _ _ (World.block_lt_of_cell? _ _ h.1)).trans h.1, (World.cell?_alloc_lt _ _ _ (World.block_lt_of_cell? _ _ h.2.1)).trans h.2.1, (World.cell?_alloc_lt _ _ _ (World.block_lt_of_cell? _ _ h.2.2)).trans h.2.2⟩

theorem keep_call {W w' : World} {g : Nat} {ad : Addr} {x y z : Value} (h : W.cell? ⟨g, 0, none⟩ = some x ∧ W.cell? ⟨g, 1, none⟩ = some y ∧ W.cell? ad = some z) (hb : Below W.heap.size W w') :
    w'.cell? ⟨g, 0, none⟩ = some x ∧ w'.cell? ⟨g, 1, none⟩ = some y ∧ w'.cell? ad = some z := ⟨pw_cell_below hb h.1, pw_cell_below hb h.2.1, pw_cell_below hb h.2.2⟩

theorem boxed1d {w w1 : World} {a b : ByteArray} (hb : Below ((w.alloc (.cells #[.string a, .string b] 45)).drew).heap.size ((w.alloc (.cells #[.string a, .string b] 45)).drew) w1) :
    (w1.cell? ⟨w.heap.size, 0, none⟩ = some (.string a) ∧ w1.cell? ⟨w.heap.size, 1, none⟩ = some (.string b)) ∧ (w1.frozen? ⟨w.heap.size, 0, none⟩ = false ∧ w1.frozen? ⟨w.heap.size, 1, none⟩ = false) ∧ Below w.heap.size w w1 :=
  boxed1 (a := a) (b := b) ⟨hb.os, hb.tape, hb.output, hb.size, hb.block⟩

theorem tornB_boxed (w : World) (a b : ByteArray) (k : Int) (r1 r2 : ByteArray) (e : Int) (h : tornBF a b k = ((r1, r2), e)) :
    Calls Try.prog 25 #[.agg #[.string a, .string b], .int .i64 k] (w.alloc (.cells #[.string ⟨#[]⟩, .string ⟨#[]⟩] 45)).drew fun e' w' => e' = .returned (.tuple #[.agg #[.string r1, .string r2], .int .i64 e]) ∧
      Below (w.alloc (.cells #[.string ⟨#[]⟩, .string ⟨#[]⟩] 45)).drew.heap.size (w.alloc (.cells #[.string ⟨#[]⟩, .string ⟨#[]⟩] 45)).drew w' ∧
      w'.cell? ⟨w.heap.size, 0, none⟩ = some (.string ⟨#[]⟩) ∧ w'.cell? ⟨w.heap.size, 1, none⟩ = some (.string ⟨#[]⟩) ∧ w'.frozen? ⟨w.heap.size, 0, none⟩ = false ∧ w'.frozen? ⟨w.heap.size, 1, none⟩ = false :=
  (tornB_calls a b k r1 r2 e h _).mono fun _ _ ⟨h1, h2⟩ => ⟨h1, h2, (boxed1d h2).1.1, (boxed1d h2).1.2, (boxed1d h2).2.1.1, (boxed1d h2).2.1.2⟩

theorem keep_store {W : World} {g n : Nat} {ad : Addr} {x y z u v : Value} (h : W.cell? ⟨g, 0, none⟩ = some x ∧ W.cell? ⟨g, 1, none⟩ = some y ∧ W.cell? ad = some z) (hg : g < n) (ha : ad.block < n) :
    ((W.setCell ⟨n, 0, none⟩ u).setCell ⟨n, 1, none⟩ v).cell? ⟨g, 0, none⟩ = some x ∧ ((W.setCell ⟨n, 0, none⟩ u).setCell ⟨n, 1, none⟩ v).cell? ⟨g, 1, none⟩ = some y ∧ ((W.setCell ⟨n, 0, none⟩ u).setCell ⟨n, 1, none⟩ v).cell? ad = some z := by
  have e : ∀ a : Addr, a.block < n → ((W.setCell ⟨n, 0, none⟩ u).setCell ⟨n, 1, none⟩ v).cell? a = W.cell? a := fun a hl => by
    rw [World.cell?_setCell_other _ _ _ _ (fun e => by rw [← e] at hl; exact Nat.lt_irrefl _ hl), World.cell?_setCell_other _ _ _ _ (fun e => by rw [← e] at hl; exact Nat.lt_irrefl _ hl)]
  exact ⟨(e _ hg).trans h.1, (e _ hg).trans h.2.1, (e _ ha).trans h.2.2⟩

theorem keep_realloc {W : World} {o o' : Obj} {g : Nat} {ad : Addr} {x y z : Value} (h : (W.alloc o).cell? ⟨g, 0, none⟩ = some x ∧ (W.alloc o).cell? ⟨g, 1, none⟩ = some y ∧ (W.alloc o).cell? ad = some z) (hg : g < W.heap.size) (ha : ad.block < W.heap.size) :
    (W.alloc o').cell? ⟨g, 0, none⟩ = some x ∧ (W.alloc o').cell? ⟨g, 1, none⟩ = some y ∧ (W.alloc o').cell? ad = some z := by
  have e : ∀ (o : Obj) (a : Addr), a.block < W.heap.size → (W.alloc o).cell? a = W.cell? a := fun o a hl => World.cell?_alloc_lt _ _ _ hl
  rw [e o _ hg, e o _ hg, e o _ ha] at h
  rw [e o' _ hg, e o' _ hg, e o' _ ha]
  exact h

/-- What holds at a round's head. -/
def RisesAt (w : World) (l : List Int) (g : Nat) (gk : Nat) (v i : Value) (wr : World) : Prop :=
  ∃ (k : Nat) (last c : Int) (a b : ByteArray), i = .int .i64 k ∧ v = .int .i64 last ∧ k ≤ l.length ∧ k + gk = 40 ∧ 0 ≤ last ∧ last ≤ c ∧ c ≤ k ∧ Inv a b c ∧ Var wr g a b ∧ Below w.heap.size w wr ∧ w.heap.size ≤ g

set_option maxHeartbeats 4000000 in
set_option maxRecDepth 100000 in
theorem rises_walk (a0 : Option Addr) (l : List Int) (cap : Nat) (w : World) (hr : ReadsInt w .i64 a0 l.length l) (hl : l.length * 8 ≤ 140737488351232) :
    Calls Try.prog 9 #[.slice a0 l.length cap] w fun e w' => e = .returned (.bool true) ∧ Below w.heap.size w w' := by
  replace hr := Aside0.mk hr
  go_enter Try.func9, Try.ntmps9
  go_wp2_with (first
    | (go_at_call 31; (with_reducible refine (awake_calls _).mono ?_); rintro e w1 ⟨rfl, hb1⟩; have HB := Aside0.mk hb1; clear hb1)
    | (go_at_call 29; (with_reducible refine (new_calls _).mono ?_); rintro e w2 ⟨rfl, hb1⟩; have n0_ := Aside0.mk (below_step HB.out hb1); clear HB hb1; have HB := n0_; clear n0_))
  have hstart : Aside0 (RisesAt w l w2.heap.size 40 (.int .i64 0) (.int .i64 0) (w2.alloc (.cells #[.string newA, .string newB] 45))) :=
    ⟨0, 0, 0, newA, newB, rfl, rfl, by omega, by omega, by omega, by omega, by omega, inv_new, Var.new _ _ _, below_alloc HB.out _, HB.out.size⟩
  clear HB
  generalize w2.alloc (.cells #[.string newA, .string newB] 45) = W at *
  generalize w2.heap.size = g at *
  go_loopg [4, 5] 40 (fun gk v i wr => RisesAt w l g gk v i wr)
  case atStart => exact hstart.out
  case round =>
    clear hstart
    obtain ⟨k, last, c, a, b, rfl, rfl, hk, hk40, hl0, hlc, hck, hI, hV, hB, hg⟩ := hrel
    have hR := hr.out.below hB
    by_cases hlt : k < l.length
    · by_cases h40 : k < 40
      · obtain ⟨ad, rfl, hcell⟩ := hR.at_ (k : Int) (by omega) (by omega)
        rw [Int.toNat_natCast] at hcell
        have d1 : decide ((k : Int) < (l.length : Int)) = true := decide_eq_true (by omega)
        have d2 : decide ((k : Int) < 40) = true := decide_eq_true (by omega)
        replace hI := Aside0.mk hI
        replace hB := Aside0.mk hB
        clear hR
        obtain ⟨gk', rfl⟩ : ∃ gk', gk = gk' + 1 := ⟨gk - 1, by omega⟩
        have p0 := hV.c0
        have p1 := hV.c1
        replace hV := Aside0.mk hV
        by_cases hodd : Go.bits .and .i64 (rd l k) 1 = 1
        · have d3 : (Go.bits .and .i64 (rd l k) 1 == 1) = true := beq_iff_eq.mpr hodd
          replace hodd := Aside0.mk hodd
          go_wp2
          have hq := half17 (rd l k)
          obtain ⟨a', b', hw, hI2, -, -, -, -, -, -⟩ := inv_write hI.out (by omega) _ hq.1 hq.2
          have ht := inv_tornBF hI.out _ hq.1 hq.2
          rw [hw] at ht
          replace ht := Aside0.mk ht
          replace hI2 := Aside0.mk hI2
          clear hw hq
          go_cut [6, 7] from 16 to 64 (fun v6 v7 wc => ∃ g6 : Nat, v6 = .pointer (some ⟨g6, 0, none⟩) ∧ v7 = .int .i64 0 ∧ Aside0 (Var wc g6 a' b' ∧ Below wr.heap.size wr wc ∧ wr.heap.size ≤ g6))
          case first =>
            have hlt2 : g < wr.heap.size := hV.out.lt
            have hlt3 : (ad.add k).block < wr.heap.size := World.block_lt_of_cell? _ _ hcell
            go_region_held3 (fun W => W.cell? ⟨g, 0, none⟩ = some (.string a) ∧ W.cell? ⟨g, 1, none⟩ = some (.string b) ∧ W.cell? (ad.add k) = some (.int .i64 (rd l k)))
              (first | go_keep | exact keep_call (by assumption) hb1 | exact keep_alloc (by assumption) | exact keep_store (by assumption) hlt2 hlt3 | exact keep_realloc (by assumption) (Nat.lt_of_lt_of_le hlt2 hb1.size) (Nat.lt_of_lt_of_le hlt3 hb1.size))
              (first | (go_at_call 25; (first | ((with_reducible refine (tornB_boxed wr a b _ a' b' 0 ht.out).mono ?_); rintro e w3 ⟨rfl, hb1, q0, q1, q2, q3⟩) | ((with_reducible refine (tornB_calls a b _ a' b' 0 ht.out _).mono ?_); rintro e w3 ⟨rfl, hb1⟩))))
            · rename_i hHeld
              have hV2 := Aside0.mk (Var.new w3 a' b')
              have hB2 := Aside0.mk (below_alloc (below_step (below_drew (Below.refl _ _)) hb1) (.cells #[.string a', .string b'] 45))
              have hz2 : wr.heap.size ≤ w3.heap.size := hb1.size
              clear hHeld hb1
              go_wp2_with fail
              go_meet
              case rel => exact ⟨_, rfl, rfl, ⟨hV2.out, hB2.out, hz2⟩⟩
            · rename_i hHeld
              have hV2 := Aside0.mk ((Var.below (W := (wr.alloc (.cells #[.string ⟨#[]⟩, .string ⟨#[]⟩] 45)).drew) ⟨(Var.new wr _ _).out⟩ hb1).store a' b')
              have hB2 := Aside0.mk (((boxed1d hb1).2.2.setCell (p := ⟨wr.heap.size, 0, none⟩) (Nat.le_refl _) (.string a')).setCell (p := ⟨wr.heap.size, 1, none⟩) (Nat.le_refl _) (.string b'))
              clear hHeld hb1 q0 q1 q2 q3
              go_wp2_with fail
              go_meet
              case rel => exact ⟨_, rfl, rfl, ⟨hV2.out, hB2.out, Nat.le_refl _⟩⟩
          case rest =>
            obtain ⟨g6, rfl, rfl, hc6⟩ := hcut
            obtain ⟨hV6, hB6, hg6⟩ := hc6
            have p2 := hV6.c0
            have p3 := hV6.c1
            have hW := hV.out.below hB6
            replace hB6 := Aside0.mk (below_step hB.out hB6)
            replace hV6 := Aside0.mk hV6
            clear hV p0 p1 hcell
            go_wp2_with (go_at_call 19; (with_reducible refine (num_below 0 _).mono ?_); rintro e w4 ⟨rfl, hb1⟩; replace p2 := pw_cell_below hb1 p2; replace p3 := pw_cell_below hb1 p3; replace hW := hW.below hb1; have f0 := hW.f0; have f1 := hW.f1; have c0 := hW.c0; have c1 := hW.c1; replace hW := Aside0.mk hW; have n0_ := Aside0.mk (below_step hB6.out hb1); clear hB6 hb1; have hB6 := n0_; clear n0_)
            have hV7 := Aside0.mk (hW.out.store a' b')
            have hB7 := Aside0.mk ((hB6.out.setCell (p := ⟨g, 0, none⟩) hg (.string a')).setCell (p := ⟨g, 1, none⟩) hg (.string b'))
            clear hW hB6 hV6 p2 p3 f0 f1 c0 c1
            go_roundg gk'
            case measure => exact Nat.lt_succ_self _
            case rel =>
              rcases hI2.out with hI3 | hI3
              · exact ⟨k + 1, last, c, a', b', rfl, rfl, by omega, by omega, hl0, hlc, by omega, hI3, hV7.out, hB7.out, hg⟩
              · exact ⟨k + 1, last, c + 1, a', b', rfl, rfl, by omega, by omega, hl0, by omega, by omega, hI3, hV7.out, hB7.out, hg⟩
        · have d3 : (Go.bits .and .i64 (rd l k) 1 == 1) = false := beq_eq_false_iff_ne.mpr hodd
          clear hodd
          obtain ⟨a', b', hw, -, hI2, -, -, -, -, -⟩ := inv_write hI.out (by omega) 16 (by omega) (by omega)
          have ht := inv_bootF hI.out 16
          rw [hw] at ht
          replace ht := Aside0.mk ht
          replace hI2 := Aside0.mk (hI2 rfl)
          have d4 : decide (c + 1 ≤ last) = false := decide_eq_false (by omega)
          replace hV := hV.out
          clear hw
          go_wp2_with (first
            | (go_at_call 23; (with_reducible refine (boot_calls a b _ _ _ _ ht.out _).mono ?_); rintro e w3 ⟨rfl, hb1⟩; have hV := hV.below hb1; have n0_ := Aside0.mk (below_step hB.out hb1); clear hB hb1; have hB := n0_; clear n0_; have hV6 := Var.new w3 a' b'; have hV := hV.alloc (.cells #[.string a', .string b'] 45); have n0_ := Aside0.mk (below_alloc hB.out (.cells #[.string a', .string b'] 45)); clear hB; have hB := n0_; clear n0_)
            | (go_at_call 19; (with_reducible refine (num_below 0 _).mono ?_); rintro e w4 ⟨rfl, hb1⟩; have hV6 := hV6.below hb1; have p2 := hV6.c0; have p3 := hV6.c1; have hW := hV.below hb1; have f0 := hW.f0; have f1 := hW.f1; have c0 := hW.c0; have c1 := hW.c1; replace hW := Aside0.mk hW; have n0_ := Aside0.mk (below_step hB.out hb1); clear hB hb1; have hB := n0_; clear n0_))
          have hV7 := Aside0.mk (hW.out.store a' b')
          have hB7 := Aside0.mk ((hB.out.setCell (p := ⟨g, 0, none⟩) hg (.string a')).setCell (p := ⟨g, 1, none⟩) hg (.string b'))
          clear hW hB hV hV6 p2 p3 f0 f1 c0 c1
          go_roundg gk'
          case measure => exact Nat.lt_succ_self _
          case rel => exact ⟨k + 1, c + 1, c + 1, a', b', rfl, rfl, by omega, by omega, by omega, Int.le_refl _, by omega, hI2.out, hV7.out, hB7.out, hg⟩
      · have d1 : decide ((k : Int) < (l.length : Int)) = true := decide_eq_true (by omega)
        have d2 : decide ((k : Int) < 40) = false := decide_eq_false (by omega)
        have hcnt := Aside0.mk (inv_count hI)
        have d5 : decide (last ≤ c) = true := decide_eq_true hlc
        have d6 : decide (c ≤ (l.length : Int) + 1) = true := decide_eq_true (by omega)
        have p0 := hV.c0
        have p1 := hV.c1
        replace hB := Aside0.mk hB
        clear hV hR hI hck
        go_wp2_with (first
          | (go_at_call 21; (with_reducible refine (count_calls a b c 0 hcnt.out _).mono ?_); rintro e w3 ⟨rfl, hb1⟩; have n0_ := Aside0.mk (below_step hB.out hb1); clear hB hb1; have hB := n0_; clear n0_)
          | (go_at_call 19; (with_reducible refine (num_below 0 _).mono ?_); rintro e w4 ⟨rfl, hb1⟩; have n0_ := Aside0.mk (below_step hB.out hb1); clear hB hb1; have hB := n0_; clear n0_))
        go_ret
        exact ⟨rfl, hB.out⟩
    · have d1 : decide ((k : Int) < (l.length : Int)) = false := decide_eq_false (by omega)
      have hcnt := Aside0.mk (inv_count hI)
      have d5 : decide (last ≤ c) = true := decide_eq_true hlc
      have d6 : decide (c ≤ (l.length : Int) + 1) = true := decide_eq_true (by omega)
      have p0 := hV.c0
      have p1 := hV.c1
      replace hB := Aside0.mk hB
      clear hV hR hI hck
      go_wp2_with (first
        | (go_at_call 21; (with_reducible refine (count_calls a b c 0 hcnt.out _).mono ?_); rintro e w3 ⟨rfl, hb1⟩; have n0_ := Aside0.mk (below_step hB.out hb1); clear hB hb1; have hB := n0_; clear n0_)
        | (go_at_call 19; (with_reducible refine (num_below 0 _).mono ?_); rintro e w4 ⟨rfl, hb1⟩; have n0_ := Aside0.mk (below_step hB.out hb1); clear hB hb1; have hB := n0_; clear n0_))
      go_ret
      exact ⟨rfl, hB.out⟩

theorem rises_row (a : Option Addr) (len cap : Nat) (zs : List Int) (W : World) (h : (a = none ∧ len = 0 ∧ cap = 0 ∧ zs = []) ∨ ∃ x, a = some x ∧ len ≤ cap ∧ cap ≤ maxLen ∧ zs.length = cap ∧ (∀ i, i < zs.length → W.cell? (x.add i) = some (.int .i64 (zs.getD i 0))) ∧ ∀ n ∈ zs, (Lit.int .i64 n).wf = true) (y : len * 8 ≤ 140737488351232) :
    Calls Try.prog 9 #[.slice a len cap] W fun e w' => e = .returned (.bool true) ∧ Below W.heap.size W w' := by
  obtain ⟨l, rfl, hr, -, -, -⟩ := ReadsInt.ofRowC h
  exact rises_walk a l cap W hr y

end Go.Proofs.Ytjcmjfabadlbjaa.Boot
