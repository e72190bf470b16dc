/- slices.Clone at messages; All. -/
import Derived.Test.YtecagknnkbolgaaNetC
import Derived.WalkSpells
namespace Go.Proofs.Ytecagknnkbolgaa.NetW
open Go.RowKit Go.Proofs.YtecagknnkbolgaaW.PrintWords Go.Proofs.YtecagknnkbolgaaW.PrintLast Go.Proofs.YtecagknnkbolgaaW.PrintMore Go.Proofs.Ytecagknnkbolgaa.PNets

theorem k31_KM {W : World} {base : Nat} {okp : Nat → Prop} (x : S31) (cs : List Value) (h : k31.K W x cs) : k31.M W base okp x cs := by
  obtain rfl := k31_open h
  exact k31_mkM W base okp x

theorem eq22 (W : World) (a : Option Addr) (n c : Nat) : (binOp .eql 22 (.slice a n c) (.slice none 0 0)).run Try.prog W = .ok (.bool a.isNone) W := by
  simp only [binOp]
  simp [Op.equal, Op.maxDepth, Lib.run_equalIn_slice_nil W 9999 22 31 a n c 0 0 Try.underlying22]

theorem row_made (W : World) (base : Nat) (hb : base ≤ W.heap.size) : Kd.R k31 31 (W.alloc (.cells #[] 31)) base (fun _ => True) (.slice (some ⟨W.heap.size, 0, none⟩) 0 0) ([] : List S31) :=
  ⟨fun _ _ => trivial, [], World.ownsRow_made W #[] 0 hb (by unfold maxLen; omega) rfl, Reps.none _ _⟩

attribute [local go_sem high] eq22
set_option maxHeartbeats 4000000 in
set_option maxRecDepth 100000 in
theorem clone_calls (W : World) (b : Nat) (ok : Nat → Prop) (v : Value) (L : List S31) (hR : Kd.R k31 31 W b ok v L) (hl : L.length ≤ 1000) :
    Calls Try.prog 23 #[v] W fun e W' => ∃ v', e = .returned v' ∧ Kd.R k31 31 W' W.heap.size (fun _ => True) v' L ∧ Below W.heap.size W W' := by
  obtain ⟨A, c, rfl⟩ := Kd.R_slice hR
  obtain ⟨-, hc, hC⟩ := Kd.R_reads' hR
  have hRr := hR
  obtain ⟨h0, inner, hown, hr⟩ := hR
  rcases hown.2 with ⟨hv, hn⟩ | ⟨g, cap, cur, hv, hbg, hg, hle, hmx, hsz, htk⟩
  · injection hv with hA hn2 hc2
    subst hA hc2
    obtain rfl : L = [] := List.length_eq_zero_iff.1 hn
    clear hC h0 hown hr hn hn2 hRr hc hl
    go_enter Try.func23, Try.ntmps23
    go_wp2
    go_ret
    exact ⟨_, rfl, Kd.R_nil k31 31 W _ _, Below.refl _ _⟩
  · injection hv with hA hn2 hc2
    subst hA
    have hC1 := Kd.C_below hC (below_alloc (Below.refl W.heap.size W) (.cells #[] 31))
    have hM := row_made W W.heap.size (Nat.le_refl _)
    have HB := below_alloc (Below.refl W.heap.size W) (.cells #[] 31)
    replace hC1 := Aside0.mk hC1
    replace hM := Aside0.mk hM
    replace HB := Aside0.mk HB
    replace hl := Aside0.mk hl
    clear hC h0 hown hr hn2 hRr hc hbg hg hle hmx hsz htk hc2
    go_enter Try.func23, Try.ntmps23
    go_wp2_with ((with_reducible refine gate_builtin (b := .append) (xs := #[.tmp 5, .tmp 6]) rfl ?_); at_builtin; refine Kd.R_append_rows k31 (w0 := W) W.heap.size rfl (.tmp 5) (.tmp 6) 22 31 (.agg #[.int .i64 0, .int .i64 0, .string ⟨#[]⟩]) 32 rfl Try.underlying22 info31m rfl (by decide) (by decide) _ [] L _ L.length c (fun _ => True) (fun _ => False) rfl rfl hM.out hC1.out (fun x cs h => k31_KM x cs h) (fun _ hk => hk.elim) (fun _ _ => trivial) HB.out HB.out.size (by have := hl.out; simp; omega) ?_; intro v1 w1 ho hb hgr hat; replace ho := Aside0.mk ho; replace hb := Aside0.mk hb; clear hgr hat)
    go_ret
    exact ⟨_, rfl, by simpa using ho.out, hb.out⟩

set_option maxHeartbeats 4000000 in
set_option maxRecDepth 100000 in
theorem all_nil (W : World) : Calls Try.prog 15 #[.pointer none] W fun e W' => e = .returned (.slice none 0 0) ∧ Below W.heap.size W W' := by
  go_enter Try.func15, Try.ntmps15
  go_wp2_with fail
  go_ret
  exact ⟨rfl, Below.refl _ _⟩

set_option maxHeartbeats 4000000 in
set_option maxRecDepth 100000 in
theorem all_calls (w0 W : World) (g : Nat) (v : Value) (L : List S31) (hN : Net 52 w0 W g v L) (hl : L.length ≤ 1000) :
    Calls Try.prog 15 #[.pointer (some ⟨g, 0, none⟩)] W fun e W' => ∃ v', e = .returned v' ∧ Kd.R k31 31 W' W.heap.size (fun _ => True) v' L ∧ Below W.heap.size W W' := by
  obtain ⟨A, c, rfl, hc⟩ := hN.form
  have p0 := hN.cell
  have hR := Aside0.mk hN.row
  replace hl := Aside0.mk hl
  clear hN hc
  go_enter Try.func15, Try.ntmps15
  go_wp2_with (go_at_call 23; (with_reducible refine (clone_calls _ _ _ _ L hR.out hl.out).mono ?_); rintro e w1 ⟨v', rfl, ho, hb⟩; replace ho := Aside0.mk ho; replace hb := Aside0.mk hb)
  go_ret
  exact ⟨_, rfl, ho.out, hb.out⟩

end Go.Proofs.Ytecagknnkbolgaa.NetW
