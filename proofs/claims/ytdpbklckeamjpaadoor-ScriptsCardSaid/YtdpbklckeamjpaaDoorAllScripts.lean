/- Scripts's code, step by step. -/
import Derived.Test.YtdpbklckeamjpaaDoorOpenActs
import Derived.SizedLaws
import Derived.ChangeSlices
import Derived.Test.YtdpbklckeamjpaaDoorScrZ
import Derived.Test.YtdpbklckeamjpaaDoorScrS
namespace Go.Proofs.YtdpbklckeamjpaaDoor.Scr
section
open Go.RowKit Go.ChangeShapes Go.WideShapes Go.Deep Go.Proofs.YtdpbklckeamjpaaDoorW.PrintWords Go.Proofs.YtdpbklckeamjpaaDoor.PScripts

theorem sized_acts {H : Type} {enc : TypeId × Value → H} {W : World} {base : Nat} {held : Bool} {a : Option Addr} {len cap : Nat} {d : DataW H} {ps : List MemPlace} {ts : List TypeId} {ds : List (DataW H)} {j : Nat}
    (hsz : (DataW.weightsEach Tryd.prog ts ds).all (· ≤ reachBytes) = true) (ht : ts[j]? = some 22) (hd : ds[j]? = some d)
    (h : DataW.Trod enc Tryd.prog W base (fun _ => true) held 22 (.slice a len cap) d ps) : len * 112 ≤ 140737488351232 := by
  obtain ⟨fuel, hf⟩ := h
  rcases open_slice Tryd.underlying22 hf with ⟨hcs, _⟩ | ⟨x, l, c, m, n, D, Pl, hcs, _, hl, hm, hmm, hx, _⟩
  · simp [Value.cells] at hcs
    obtain ⟨rfl, rfl, rfl⟩ := hcs
    simp
  · simp [Value.cells] at hcs
    obtain ⟨rfl, rfl, rfl⟩ := hcs
    obtain ⟨hx, _⟩ := Prod.mk.inj hx
    subst hx
    have z := sized_slice hsz ht hd Tryd.underlying22
    have hB : Tryd.prog.bytesOf 36 = 112 := by kernel_rfl
    rw [hB] at z
    rw [List.length_map, List.length_range] at z
    exact Nat.le_trans (Nat.mul_le_mul_right _ (Nat.le_add_right _ _)) z
end

section
open Go.RowKit Go.Proofs.YtdpbklckeamjpaaDoorW.PrintWords Go.Proofs.YtdpbklckeamjpaaDoorW.PrintLast Go.Proofs.YtdpbklckeamjpaaDoorW.PrintMore Go.Proofs.YtdpbklckeamjpaaDoor.PScripts

theorem row36_made (W : World) (base : Nat) (hb : base ≤ W.heap.size) : Kd.R k36 36 (W.alloc (.cells #[] 36)) base (fun _ => True) (.slice (some ⟨W.heap.size, 0, none⟩) 0 0) ([] : List S36) :=
  ⟨fun _ _ => trivial, [], World.ownsRow_made W #[] 0 hb (by unfold maxLen; omega) rfl, Reps.none _ _⟩
theorem refShow_all (w : World) (A : Option Addr) (L : List S36) (cap : Nat) (hC : Kd.C k36 w A L.length L) (s : ByteArray) (e : Int) (h : showF L = (s, e)) :
    Calls Tryd.prog 14 #[.slice A L.length cap] w fun r w' => r = .returned (.tuple #[.string s, .int .i64 e]) ∧ Below w.heap.size w w' := by
  have := refShow_calls w A L cap hC
  rw [h] at this
  exact this
theorem refParse_in (W : World) (s : ByteArray) (hs : s.size ≤ 281474976710656) (c : List S36) (n : Nat) (hn : c.length = n) (hc : okB c = true) (e : s.data.toList = tellT c) :
    Calls Tryd.prog 15 #[.string s] W fun e W' => ∃ A cap, e = .returned (.tuple #[.slice A n cap, .int .i64 0]) ∧ Below W.heap.size W W' ∧ n ≤ cap ∧ Kd.C k36 W' A n c := by
  subst hn
  refine (refParse_walk W s hs).mono ?_
  rintro e1 w1 ⟨hb, ⟨v, c', rfl, hR, hok, h1⟩ | ⟨rfl, hno⟩⟩
  · obtain rfl : c' = c := tell_inj hok hc (h1.symm.trans e)
    obtain ⟨A, cap, rfl⟩ := Kd.R_slice hR
    obtain ⟨-, h2, h3⟩ := Kd.R_reads' hR
    exact ⟨A, cap, rfl, hb, h2, h3⟩
  · exact absurd e (hno c hc)
theorem refParse_none (W : World) (s : ByteArray) (hs : s.size ≤ 281474976710656) (h : ¬ ∃ c, okB c = true ∧ s.data.toList = tellT c) :
    Calls Tryd.prog 15 #[.string s] W fun e W' => e = .returned (.tuple #[.slice none 0 0, .int .i64 2300]) ∧ Below W.heap.size W W' := by
  refine (refParse_walk W s hs).mono ?_
  rintro e1 w1 ⟨hb, ⟨v, c', rfl, hR, hok, h1⟩ | ⟨rfl, hno⟩⟩
  · exact absurd ⟨c', hok, h1⟩ h
  · exact ⟨rfl, hb⟩
theorem same_big (A0 : Option Addr) (c0 : Nat) (l : List S36) (n : Nat) (hn : l.length = n) (A1 : Option Addr) (c1 : Nat) (w : World) (hl : l.length ≤ 1400000000000) (hr0 : Kd.C k36 w A0 n l) (hc0 : n ≤ c0) (hr1 : Kd.C k36 w A1 n l) (hc1 : n ≤ c1) :
    Calls Tryd.prog 12 #[.slice A0 n c0, .slice A1 n c1] w fun e w' => e = .returned (.bool true) ∧ Below w.heap.size w w' := by
  subst hn
  exact (same_calls A0 c0 l A1 c1 w (by omega) hr0 hc0 hr1 hc1).mono fun _ _ ⟨h1, h2⟩ => ⟨h1, h2.below⟩
theorem same_nil (w : World) : Calls Tryd.prog 12 #[.slice none 0 0, .slice none 0 0] w fun e w' => e = .returned (.bool true) ∧ Below w.heap.size w w' :=
  same_big none 0 [] 0 rfl none 0 w (by decide) (Kd.C_nil k36 w) (Nat.le_refl _) (Kd.C_nil k36 w) (Nat.le_refl _)

def RowsIn (w : World) (A : Option Addr) (L : List S36) (W : World) : Prop := Kd.C k36 W A L.length L ∧ Below w.heap.size w W
theorem Cl.rows {w : World} {A : Option Addr} {L : List S36} {x : Cl (RowsIn w A L)} {f : FuncId} {args : Array Value} {v : Value} (h : Calls Tryd.prog f args x.W fun e w' => e = .returned v ∧ Below x.W.heap.size x.W w') :
    Calls Tryd.prog f args x.W fun e w'' => e = .returned v ∧ ∃ y : Cl (RowsIn w A L), w'' = y.W :=
  h.mono fun _ w' ⟨h1, h2⟩ => ⟨h1, ⟨w', Kd.C_below x.h.1 h2, below_step x.h.2 h2 x.h.2.size⟩, rfl⟩
theorem Cl.cells {w : World} {ad : Addr} {L : List S36} (k : Nat) (hk : k < L.length) (a : S36) (ha : a = rd_T36 L (k : Int)) (x : Cl (RowsIn w (some ad) L)) : x.W.cell? (ad.add (k * 12)) = some (.int .i64 a.f0) ∧ x.W.cell? ⟨(ad.add (k * 12)).block, (ad.add (k * 12)).off + 1, none⟩ = some (.int .i64 a.f1) ∧ x.W.cell? ⟨(ad.add (k * 12)).block, (ad.add (k * 12)).off + 2, none⟩ = some (.int .i64 a.f2) ∧ x.W.cell? ⟨(ad.add (k * 12)).block, (ad.add (k * 12)).off + 3, none⟩ = some (.int .i64 a.f3) ∧ x.W.cell? ⟨(ad.add (k * 12)).block, (ad.add (k * 12)).off + 4, none⟩ = some (.int .i64 a.f4) ∧ x.W.cell? ⟨(ad.add (k * 12)).block, (ad.add (k * 12)).off + 5, none⟩ = some (.string a.f5) ∧ x.W.cell? ⟨(ad.add (k * 12)).block, (ad.add (k * 12)).off + 6, none⟩ = some (.int .i64 a.f6.f0) ∧ x.W.cell? ⟨(ad.add (k * 12)).block, (ad.add (k * 12)).off + 7, none⟩ = some (.string a.f6.f1) ∧ x.W.cell? ⟨(ad.add (k * 12)).block, (ad.add (k * 12)).off + 8, none⟩ = some (.int .i64 a.f6.f2) ∧ x.W.cell? ⟨(ad.add (k * 12)).block, (ad.add (k * 12)).off + 9, none⟩ = some (.int .i64 a.f6.f3) ∧ x.W.cell? ⟨(ad.add (k * 12)).block, (ad.add (k * 12)).off + 10, none⟩ = some (.int .i64 a.f6.f4) ∧ x.W.cell? ⟨(ad.add (k * 12)).block, (ad.add (k * 12)).off + 11, none⟩ = some (.int .i64 a.f6.f5) := by
  subst ha
  obtain ⟨ad', e, c0, c1, c2, c3, c4, c5, c6, c7, c8, c9, c10, c11⟩ := at_T36 x.h.1 (k : Int) (by omega) (by omega)
  obtain rfl := Option.some.inj e
  rw [Int.toNat_natCast] at c0 c1 c2 c3 c4 c5 c6 c7 c8 c9 c10 c11
  exact ⟨c0, c1, c2, c3, c4, c5, c6, c7, c8, c9, c10, c11⟩
theorem addr_some {W : World} {A : Option Addr} {L : List S36} (h : Kd.C k36 W A L.length L) {k : Nat} (hk : k < L.length) : ∃ ad, A = some ad := by
  obtain ⟨ad, e, -⟩ := at_T36 h (k : Int) (by omega) (by omega)
  exact ⟨ad, e⟩

/-- What holds at a round's head. -/
def AllAt (W : World) (A : Option Addr) (L : List S36) (gk : Nat) (i : Value) (wr : World) : Prop :=
  ∃ k : Nat, i = .int .i64 k ∧ k + gk = L.length ∧ RowsIn W A L wr

set_option maxHeartbeats 8000000 in
set_option maxRecDepth 100000 in
theorem scripts_1 (A : Option Addr) (L : List S36) (cap : Nat) (s : ByteArray) (W : World) (hv : Vars W) (hc : L.length ≤ cap) (hC : Kd.C k36 W A L.length L) (hl : L.length * 112 ≤ 140737488351232) (hs : s.size ≤ 281474976710656) (c : List S36) (hcok : okB c = true) (hce : s.data.toList = tellT c) :
    Calls Tryd.prog 5 #[.slice A L.length cap, .string s] W fun e w' => e = .returned (.bool true) ∧ Below W.heap.size W w' := by
  obtain ⟨u, e0, hU⟩ : ∃ u e, showF L = (u, e) := ⟨_, _, rfl⟩
  have hlen : Aside0 (L.length ≤ 1400000000000) := ⟨by omega⟩
  have hC0 := Aside0.mk (Kd.C_below hC (below_alloc (Below.refl W.heap.size W) (.cells #[] 36)))
  have hM := Aside0.mk (row36_made W W.heap.size (Nat.le_refl _))
  have HB := Aside0.mk (below_alloc (Below.refl W.heap.size W) (.cells #[] 36))
  have hCW := Aside0.mk hC
  clear hC
  replace hv := Aside0.mk hv
  replace hc := Aside0.mk hc
  replace hl := Aside0.mk hl
  replace hs := Aside0.mk hs
  replace hU := Aside0.mk hU
  have hcl := Aside0.mk (ok_may hcok).1
  replace hcok := Aside0.mk hcok
  replace hce := Aside0.mk hce
  go_enter Tryd.func5, Tryd.ntmps5
  go_wp2_with (first
    | ((with_reducible refine gate_builtin (b := .append) (xs := #[.tmp 15, .tmp 16]) rfl ?_); at_builtin; refine Kd.R_append_rows k36 (w0 := W) W.heap.size rfl (.tmp 15) (.tmp 16) 22 36 (.agg (cells12 z36)) 112 rfl Tryd.underlying22 info36 rfl (by decide) (by decide) _ [] L _ L.length cap (fun _ => True) (fun _ => False) rfl rfl hM.out hC0.out (fun x cs h => k36_KM x cs h) (fun _ hk => hk.elim) (fun _ _ => trivial) HB.out HB.out.size (by have := hl.out; simp; omega) ?_; intro v1 w1 ho hb1 hgr hat; replace ho : Kd.R k36 36 w1 W.heap.size (fun _ => True) v1 L := (by simpa using ho); obtain ⟨A1, c1, rfl⟩ := Kd.R_slice ho; have hX := Aside0.mk (Kd.R_reads' ho); have hC := Aside0.mk (Kd.C_below hCW.out hb1); replace hb1 := Aside0.mk hb1; clear hgr hat ho)
    | (go_at_call 9; (with_reducible refine (show_all w1 A1 L c1 (hv.out.below hb1.out) hX.out.2.2 _ _ hU.out).mono ?_); rintro e w2 ⟨rfl, hb2⟩; replace hC := Aside0.mk (Kd.C_below hC.out hb2); have hX2 := Aside0.mk (Kd.C_below hX.out.2.2 hb2); replace hb2 := Aside0.mk (below_step hb1.out hb2 hb1.out.size))
    | (go_at_call 14; (with_reducible refine (refShow_all w2 A L cap hC.out _ _ hU.out).mono ?_); rintro e w3 ⟨rfl, hb3⟩; replace hC := Aside0.mk (Kd.C_below hC.out hb3); replace hX2 := Aside0.mk (Kd.C_below hX2.out hb3); replace hb3 := Aside0.mk (below_step hb2.out hb3 hb2.out.size))
    | (go_at_call 11; (with_reducible refine (parse_in w3 s (hv.out.below hb3.out) hs.out c c.length rfl hcok.out hce.out).mono ?_); rintro e w4 ⟨A4, c4, rfl, hb4, hcap4, hC4⟩; replace hC := Aside0.mk (Kd.C_below hC.out hb4); replace hX2 := Aside0.mk (Kd.C_below hX2.out hb4); replace hC4 := Aside0.mk hC4; replace hcap4 := Aside0.mk hcap4; replace hb4 := Aside0.mk (below_step hb3.out hb4 hb3.out.size))
    | (go_at_call 15; (with_reducible refine (refParse_in w4 s hs.out c c.length rfl hcok.out hce.out).mono ?_); rintro e w5 ⟨A5, c5, rfl, hb5, hcap5, hC5⟩; replace hC := Aside0.mk (Kd.C_below hC.out hb5); replace hX2 := Aside0.mk (Kd.C_below hX2.out hb5); replace hC4 := Aside0.mk (Kd.C_below hC4.out hb5); replace hC5 := Aside0.mk hC5; replace hcap5 := Aside0.mk hcap5; replace hb5 := Aside0.mk (below_step hb4.out hb5 hb4.out.size))
    | (go_at_call 10; (with_reducible refine (num_same _ _).mono ?_); rintro e wn ⟨rfl, rfl⟩)
    | (go_at_call 12; (with_reducible refine (same_in A4 c4 c c.length rfl A5 c5 _ hcl.out hC4.out hcap4.out hC5.out hcap5.out).mono ?_); rintro e w6 ⟨rfl, hb6⟩; replace hC := Aside0.mk (Kd.C_below hC.out hb6); replace hX2 := Aside0.mk (Kd.C_below hX2.out hb6); replace hb6 := Aside0.mk (below_step hb5.out hb6 hb5.out.size))
    | (go_at_call 12; (with_reducible refine (same_big A1 c1 L L.length rfl A cap _ hlen.out hX2.out hX.out.2.1 hC.out hc.out).mono ?_); rintro e w7 ⟨rfl, hb7⟩; replace hC := Aside0.mk (Kd.C_below hC.out hb7); replace hb7 := Aside0.mk (below_step hb6.out hb7 hb6.out.size); clear hX2 hX))
  have hstart : Aside0 (RowsIn W A L w7) := ⟨hC.out, hb7.out⟩
  clear hC hCW hC0 hM HB hb1 hb2 hb3 hb4 hb5 hb6 hb7 hC4 hC5 hcap4 hcap5 hcok hce hcl
  go_loopg [14] L.length (fun gk i wr => AllAt W A L gk i wr)
  case atStart => exact ⟨0, rfl, by omega, hstart.out⟩
  case round =>
    clear hstart
    obtain ⟨k, rfl, hk, hX⟩ := hrel
    by_cases hlt : k < L.length
    · have d1 : decide ((k : Int) < (L.length : Int)) = true := decide_eq_true (by omega)
      have kw : IntKind.i64.wrap ((k : Int) + 1) = ((k + 1 : Nat) : Int) := by rw [IntKind.wrap_i64]; have := hlen.out; omega
      obtain ⟨gk', rfl⟩ : ∃ gk', gk = gk' + 1 := ⟨gk - 1, by omega⟩
      obtain ⟨ad, rfl⟩ := addr_some hX.1 hlt
      obtain ⟨a, ha⟩ : ∃ a, a = rd_T36 L (k : Int) := ⟨_, rfl⟩
      have hcl := fun x => Cl.cells (w := W) (ad := ad) k hlt a ha x
      have x0 : ∀ x : Cl (RowsIn W (some ad) L), x.W.cell? (ad.add (k * 12)) = some (.int .i64 a.f0) := fun x => (hcl x).1
      have x1 : ∀ x : Cl (RowsIn W (some ad) L), x.W.cell? ⟨(ad.add (k * 12)).block, (ad.add (k * 12)).off + 1, none⟩ = some (.int .i64 a.f1) := fun x => (hcl x).2.1
      have x2 : ∀ x : Cl (RowsIn W (some ad) L), x.W.cell? ⟨(ad.add (k * 12)).block, (ad.add (k * 12)).off + 2, none⟩ = some (.int .i64 a.f2) := fun x => (hcl x).2.2.1
      have x3 : ∀ x : Cl (RowsIn W (some ad) L), x.W.cell? ⟨(ad.add (k * 12)).block, (ad.add (k * 12)).off + 3, none⟩ = some (.int .i64 a.f3) := fun x => (hcl x).2.2.2.1
      have x4 : ∀ x : Cl (RowsIn W (some ad) L), x.W.cell? ⟨(ad.add (k * 12)).block, (ad.add (k * 12)).off + 4, none⟩ = some (.int .i64 a.f4) := fun x => (hcl x).2.2.2.2.1
      have x5 : ∀ x : Cl (RowsIn W (some ad) L), x.W.cell? ⟨(ad.add (k * 12)).block, (ad.add (k * 12)).off + 5, none⟩ = some (.string a.f5) := fun x => (hcl x).2.2.2.2.2.1
      have x6 : ∀ x : Cl (RowsIn W (some ad) L), x.W.cell? ⟨(ad.add (k * 12)).block, (ad.add (k * 12)).off + 6, none⟩ = some (.int .i64 a.f6.f0) := fun x => (hcl x).2.2.2.2.2.2.1
      have x7 : ∀ x : Cl (RowsIn W (some ad) L), x.W.cell? ⟨(ad.add (k * 12)).block, (ad.add (k * 12)).off + 7, none⟩ = some (.string a.f6.f1) := fun x => (hcl x).2.2.2.2.2.2.2.1
      have x8 : ∀ x : Cl (RowsIn W (some ad) L), x.W.cell? ⟨(ad.add (k * 12)).block, (ad.add (k * 12)).off + 8, none⟩ = some (.int .i64 a.f6.f2) := fun x => (hcl x).2.2.2.2.2.2.2.2.1
      have x9 : ∀ x : Cl (RowsIn W (some ad) L), x.W.cell? ⟨(ad.add (k * 12)).block, (ad.add (k * 12)).off + 9, none⟩ = some (.int .i64 a.f6.f3) := fun x => (hcl x).2.2.2.2.2.2.2.2.2.1
      have x10 : ∀ x : Cl (RowsIn W (some ad) L), x.W.cell? ⟨(ad.add (k * 12)).block, (ad.add (k * 12)).off + 10, none⟩ = some (.int .i64 a.f6.f4) := fun x => (hcl x).2.2.2.2.2.2.2.2.2.2.1
      have x11 : ∀ x : Cl (RowsIn W (some ad) L), x.W.cell? ⟨(ad.add (k * 12)).block, (ad.add (k * 12)).off + 11, none⟩ = some (.int .i64 a.f6.f5) := fun x => (hcl x).2.2.2.2.2.2.2.2.2.2.2
      clear hcl ha
      have hXd : Aside0 (RowsIn W (some ad) L wr.drew) := ⟨Kd.C_drew hX.1, below_drew hX.2⟩
      have hne : Nonempty (Cl (RowsIn W (some ad) L)) := ⟨⟨_, hXd.out⟩⟩
      have m1 := fun w => may_box a w
      have m2 := fun w => actMay_box a w
      generalize mayB a = b at *
      replace m1 := Aside0.mk m1
      replace m2 := Aside0.mk m2
      clear hX
      go_wp2_with fail
      refine region_cl (p := RowsIn W (some ad) L) (by kernel_rfl) (by kernel_rfl) hXd.out ?_
      repeat (go_big_quiet_step (first
          | (go_at_call 13; with_reducible exact Cl.rows (m1.out _))
          | (go_at_call 16; with_reducible exact Cl.rows (m2.out _))))
      refine wpQuiet_nil ?_
      intro wy hw'
      obtain ⟨⟨w9, hy⟩, h9⟩ := hw'
      obtain rfl : wy = w9 := h9
      clear x0 x1 x2 x3 x4 x5 x6 x7 x8 x9 x10 x11 hne hXd m1 m2
      replace hy := Aside0.mk hy
      go_wp2_with fail
      go_roundg gk'
      case measure => exact Nat.lt_succ_self _
      case rel => exact ⟨k + 1, rfl, by omega, hy.out⟩
    · have d1 : decide ((k : Int) < (L.length : Int)) = false := decide_eq_false (by omega)
      have hB9 := Aside0.mk hX.2
      clear hX
      go_wp2_with (go_at_call 8; (with_reducible refine (awake_calls _ (hv.out.below hB9.out)).mono ?_); rintro e w8 ⟨rfl, hb8⟩; replace hb8 := Aside0.mk (below_step hB9.out hb8 hB9.out.size))
      go_ret
      exact ⟨rfl, hb8.out⟩

set_option maxHeartbeats 8000000 in
set_option maxRecDepth 100000 in
theorem scripts_0 (A : Option Addr) (L : List S36) (cap : Nat) (s : ByteArray) (W : World) (hv : Vars W) (hc : L.length ≤ cap) (hC : Kd.C k36 W A L.length L) (hl : L.length * 112 ≤ 140737488351232) (hs : s.size ≤ 281474976710656) (hno : ¬ ∃ c, okB c = true ∧ s.data.toList = tellT c) :
    Calls Tryd.prog 5 #[.slice A L.length cap, .string s] W fun e w' => e = .returned (.bool true) ∧ Below W.heap.size W w' := by
  obtain ⟨u, e0, hU⟩ : ∃ u e, showF L = (u, e) := ⟨_, _, rfl⟩
  have hlen : Aside0 (L.length ≤ 1400000000000) := ⟨by omega⟩
  have hC0 := Aside0.mk (Kd.C_below hC (below_alloc (Below.refl W.heap.size W) (.cells #[] 36)))
  have hM := Aside0.mk (row36_made W W.heap.size (Nat.le_refl _))
  have HB := Aside0.mk (below_alloc (Below.refl W.heap.size W) (.cells #[] 36))
  have hCW := Aside0.mk hC
  clear hC
  replace hv := Aside0.mk hv
  replace hc := Aside0.mk hc
  replace hl := Aside0.mk hl
  replace hs := Aside0.mk hs
  replace hU := Aside0.mk hU
  replace hno := Aside0.mk hno
  go_enter Tryd.func5, Tryd.ntmps5
  go_wp2_with (first
    | ((with_reducible refine gate_builtin (b := .append) (xs := #[.tmp 15, .tmp 16]) rfl ?_); at_builtin; refine Kd.R_append_rows k36 (w0 := W) W.heap.size rfl (.tmp 15) (.tmp 16) 22 36 (.agg (cells12 z36)) 112 rfl Tryd.underlying22 info36 rfl (by decide) (by decide) _ [] L _ L.length cap (fun _ => True) (fun _ => False) rfl rfl hM.out hC0.out (fun x cs h => k36_KM x cs h) (fun _ hk => hk.elim) (fun _ _ => trivial) HB.out HB.out.size (by have := hl.out; simp; omega) ?_; intro v1 w1 ho hb1 hgr hat; replace ho : Kd.R k36 36 w1 W.heap.size (fun _ => True) v1 L := (by simpa using ho); obtain ⟨A1, c1, rfl⟩ := Kd.R_slice ho; have hX := Aside0.mk (Kd.R_reads' ho); have hC := Aside0.mk (Kd.C_below hCW.out hb1); replace hb1 := Aside0.mk hb1; clear hgr hat ho)
    | (go_at_call 9; (with_reducible refine (show_all w1 A1 L c1 (hv.out.below hb1.out) hX.out.2.2 _ _ hU.out).mono ?_); rintro e w2 ⟨rfl, hb2⟩; replace hC := Aside0.mk (Kd.C_below hC.out hb2); have hX2 := Aside0.mk (Kd.C_below hX.out.2.2 hb2); replace hb2 := Aside0.mk (below_step hb1.out hb2 hb1.out.size))
    | (go_at_call 14; (with_reducible refine (refShow_all w2 A L cap hC.out _ _ hU.out).mono ?_); rintro e w3 ⟨rfl, hb3⟩; replace hC := Aside0.mk (Kd.C_below hC.out hb3); replace hX2 := Aside0.mk (Kd.C_below hX2.out hb3); replace hb3 := Aside0.mk (below_step hb2.out hb3 hb2.out.size))
    | (go_at_call 11; (with_reducible refine (parse_none w3 s (hv.out.below hb3.out) hs.out hno.out).mono ?_); rintro e w4 ⟨rfl, hb4⟩; replace hC := Aside0.mk (Kd.C_below hC.out hb4); replace hX2 := Aside0.mk (Kd.C_below hX2.out hb4); replace hb4 := Aside0.mk (below_step hb3.out hb4 hb3.out.size))
    | (go_at_call 15; (with_reducible refine (refParse_none w4 s hs.out hno.out).mono ?_); rintro e w5 ⟨rfl, hb5⟩; replace hC := Aside0.mk (Kd.C_below hC.out hb5); replace hX2 := Aside0.mk (Kd.C_below hX2.out hb5); replace hb5 := Aside0.mk (below_step hb4.out hb5 hb4.out.size))
    | (go_at_call 10; (with_reducible refine (num_same _ _).mono ?_); rintro e wn ⟨rfl, rfl⟩)
    | (go_at_call 12; (with_reducible refine (same_nil w5).mono ?_); rintro e w6 ⟨rfl, hb6⟩; replace hC := Aside0.mk (Kd.C_below hC.out hb6); replace hX2 := Aside0.mk (Kd.C_below hX2.out hb6); replace hb6 := Aside0.mk (below_step hb5.out hb6 hb5.out.size))
    | (go_at_call 12; (with_reducible refine (same_big A1 c1 L L.length rfl A cap _ hlen.out hX2.out hX.out.2.1 hC.out hc.out).mono ?_); rintro e w7 ⟨rfl, hb7⟩; replace hC := Aside0.mk (Kd.C_below hC.out hb7); replace hb7 := Aside0.mk (below_step hb6.out hb7 hb6.out.size); clear hX2 hX))
  have hstart : Aside0 (RowsIn W A L w7) := ⟨hC.out, hb7.out⟩
  clear hC hCW hC0 hM HB hb1 hb2 hb3 hb4 hb5 hb6 hb7 hno
  go_loopg [14] L.length (fun gk i wr => AllAt W A L gk i wr)
  case atStart => exact ⟨0, rfl, by omega, hstart.out⟩
  case round =>
    clear hstart
    obtain ⟨k, rfl, hk, hX⟩ := hrel
    by_cases hlt : k < L.length
    · have d1 : decide ((k : Int) < (L.length : Int)) = true := decide_eq_true (by omega)
      have kw : IntKind.i64.wrap ((k : Int) + 1) = ((k + 1 : Nat) : Int) := by rw [IntKind.wrap_i64]; have := hlen.out; omega
      obtain ⟨gk', rfl⟩ : ∃ gk', gk = gk' + 1 := ⟨gk - 1, by omega⟩
      obtain ⟨ad, rfl⟩ := addr_some hX.1 hlt
      obtain ⟨a, ha⟩ : ∃ a, a = rd_T36 L (k : Int) := ⟨_, rfl⟩
      have hcl := fun x => Cl.cells (w := W) (ad := ad) k hlt a ha x
      have x0 : ∀ x : Cl (RowsIn W (some ad) L), x.W.cell? (ad.add (k * 12)) = some (.int .i64 a.f0) := fun x => (hcl x).1
      have x1 : ∀ x : Cl (RowsIn W (some ad) L), x.W.cell? ⟨(ad.add (k * 12)).block, (ad.add (k * 12)).off + 1, none⟩ = some (.int .i64 a.f1) := fun x => (hcl x).2.1
      have x2 : ∀ x : Cl (RowsIn W (some ad) L), x.W.cell? ⟨(ad.add (k * 12)).block, (ad.add (k * 12)).off + 2, none⟩ = some (.int .i64 a.f2) := fun x => (hcl x).2.2.1
      have x3 : ∀ x : Cl (RowsIn W (some ad) L), x.W.cell? ⟨(ad.add (k * 12)).block, (ad.add (k * 12)).off + 3, none⟩ = some (.int .i64 a.f3) := fun x => (hcl x).2.2.2.1
      have x4 : ∀ x : Cl (RowsIn W (some ad) L), x.W.cell? ⟨(ad.add (k * 12)).block, (ad.add (k * 12)).off + 4, none⟩ = some (.int .i64 a.f4) := fun x => (hcl x).2.2.2.2.1
      have x5 : ∀ x : Cl (RowsIn W (some ad) L), x.W.cell? ⟨(ad.add (k * 12)).block, (ad.add (k * 12)).off + 5, none⟩ = some (.string a.f5) := fun x => (hcl x).2.2.2.2.2.1
      have x6 : ∀ x : Cl (RowsIn W (some ad) L), x.W.cell? ⟨(ad.add (k * 12)).block, (ad.add (k * 12)).off + 6, none⟩ = some (.int .i64 a.f6.f0) := fun x => (hcl x).2.2.2.2.2.2.1
      have x7 : ∀ x : Cl (RowsIn W (some ad) L), x.W.cell? ⟨(ad.add (k * 12)).block, (ad.add (k * 12)).off + 7, none⟩ = some (.string a.f6.f1) := fun x => (hcl x).2.2.2.2.2.2.2.1
      have x8 : ∀ x : Cl (RowsIn W (some ad) L), x.W.cell? ⟨(ad.add (k * 12)).block, (ad.add (k * 12)).off + 8, none⟩ = some (.int .i64 a.f6.f2) := fun x => (hcl x).2.2.2.2.2.2.2.2.1
      have x9 : ∀ x : Cl (RowsIn W (some ad) L), x.W.cell? ⟨(ad.add (k * 12)).block, (ad.add (k * 12)).off + 9, none⟩ = some (.int .i64 a.f6.f3) := fun x => (hcl x).2.2.2.2.2.2.2.2.2.1
      have x10 : ∀ x : Cl (RowsIn W (some ad) L), x.W.cell? ⟨(ad.add (k * 12)).block, (ad.add (k * 12)).off + 10, none⟩ = some (.int .i64 a.f6.f4) := fun x => (hcl x).2.2.2.2.2.2.2.2.2.2.1
      have x11 : ∀ x : Cl (RowsIn W (some ad) L), x.W.cell? ⟨(ad.add (k * 12)).block, (ad.add (k * 12)).off + 11, none⟩ = some (.int .i64 a.f6.f5) := fun x => (hcl x).2.2.2.2.2.2.2.2.2.2.2
      clear hcl ha
      have hXd : Aside0 (RowsIn W (some ad) L wr.drew) := ⟨Kd.C_drew hX.1, below_drew hX.2⟩
      have hne : Nonempty (Cl (RowsIn W (some ad) L)) := ⟨⟨_, hXd.out⟩⟩
      have m1 := fun w => may_box a w
      have m2 := fun w => actMay_box a w
      generalize mayB a = b at *
      replace m1 := Aside0.mk m1
      replace m2 := Aside0.mk m2
      clear hX
      go_wp2_with fail
      refine region_cl (p := RowsIn W (some ad) L) (by kernel_rfl) (by kernel_rfl) hXd.out ?_
      repeat (go_big_quiet_step (first
          | (go_at_call 13; with_reducible exact Cl.rows (m1.out _))
          | (go_at_call 16; with_reducible exact Cl.rows (m2.out _))))
      refine wpQuiet_nil ?_
      intro wy hw'
      obtain ⟨⟨w9, hy⟩, h9⟩ := hw'
      obtain rfl : wy = w9 := h9
      clear x0 x1 x2 x3 x4 x5 x6 x7 x8 x9 x10 x11 hne hXd m1 m2
      replace hy := Aside0.mk hy
      go_wp2_with fail
      go_roundg gk'
      case measure => exact Nat.lt_succ_self _
      case rel => exact ⟨k + 1, rfl, by omega, hy.out⟩
    · have d1 : decide ((k : Int) < (L.length : Int)) = false := decide_eq_false (by omega)
      have hB9 := Aside0.mk hX.2
      clear hX
      go_wp2_with (go_at_call 8; (with_reducible refine (awake_calls _ (hv.out.below hB9.out)).mono ?_); rintro e w8 ⟨rfl, hb8⟩; replace hb8 := Aside0.mk (below_step hB9.out hb8 hB9.out.size))
      go_ret
      exact ⟨rfl, hb8.out⟩

theorem scripts_row (A : Option Addr) (L : List S36) (cap : Nat) (s : ByteArray) (W : World) (hv : Vars W) (hw : (L.length ≤ cap ∧ Kd.C k36 W A L.length L) ∧ L.length * 112 ≤ 140737488351232) (hs : s.size ≤ 140737488351232) :
    Calls Tryd.prog 5 #[.slice A L.length cap, .string s] W fun e w' => e = .returned (.bool true) ∧ Below W.heap.size W w' := by
  have hs2 : s.size ≤ 281474976710656 := by omega
  by_cases hno : ∃ c, okB c = true ∧ s.data.toList = tellT c
  · obtain ⟨c, h1, h2⟩ := hno
    exact scripts_1 A L cap s W hv hw.1.1 hw.1.2 hw.2 hs2 c h1 h2
  · exact scripts_0 A L cap s W hv hw.1.1 hw.1.2 hw.2 hs2 hno
end

end Go.Proofs.YtdpbklckeamjpaaDoor.Scr
