/- Digits read back; the package's number, step by step. -/
import Derived.Test.YtdpbklckeamjpaaDoorScrJ
namespace Go.Proofs.YtdpbklckeamjpaaDoor.Scr
open Go.RowKit Go.Proofs.YtdpbklckeamjpaaDoorW.PrintWords Go.Proofs.YtdpbklckeamjpaaDoorW.PrintLast Go.Proofs.YtdpbklckeamjpaaDoorW.PrintMore Go.Proofs.YtdpbklckeamjpaaDoor.PScripts

theorem digit_byte {d : Nat} (h : d < 10) : (UInt8.ofNat (48 + d)).toNat = 48 + d := by rw [UInt8.toNat_ofNat']; omega
theorem dec_split (n : Nat) (h : ¬ n < 10) : Lib.decDigits n = Lib.decDigits (n / 10) ++ [UInt8.ofNat (48 + n % 10)] := by
  rw [Lib.decDigits, dif_neg h]
theorem dec_digits (n : Nat) : ∀ c, c ∈ Lib.decDigits n → 48 ≤ c.toNat ∧ c.toNat ≤ 57 := by
  induction n using Nat.strongRecOn with
  | _ n ih =>
    intro c hc
    by_cases h : n < 10
    · rw [Lib.decDigits_one h] at hc
      rw [List.mem_singleton.1 hc, digit_byte h]
      omega
    · rw [dec_split n h] at hc
      rcases List.mem_append.1 hc with hc | hc
      · exact ih (n / 10) (by omega) c hc
      · rw [List.mem_singleton.1 hc, digit_byte (by omega)]
        omega
theorem dec_ne (n : Nat) : Lib.decDigits n ≠ [] := by
  by_cases h : n < 10
  · rw [Lib.decDigits_one h]
    simp
  · rw [dec_split n h]
    simp
theorem parse_app : ∀ (l r : List UInt8) (acc u : Nat), Lib.parseUint10 acc l = .ok u → Lib.parseUint10 acc (l ++ r) = Lib.parseUint10 u r
  | [], r, acc, u, h => by
    simp only [Lib.parseUint10] at h
    injection h with h
    rw [h]
    rfl
  | c :: l, r, acc, u, h => by
    simp only [Lib.parseUint10, List.cons_append] at h ⊢
    split at h
    · rename_i h1
      rw [if_pos h1]
      split at h
      · cases h
      · rename_i h2
        rw [if_neg h2]
        split at h
        · cases h
        · rename_i h3
          rw [if_neg h3]
          exact parse_app l r _ u h
    · cases h
theorem parse_dec (n : Nat) (hn : n < 9223372036854775808) : Lib.parseUint10 0 (Lib.decDigits n) = .ok n := by
  induction n using Nat.strongRecOn with
  | _ n ih =>
    have step : ∀ acc d, d < 10 → acc < 1844674407370955162 → acc * 10 + d < 18446744073709551616 → Lib.parseUint10 acc [UInt8.ofNat (48 + d)] = .ok (acc * 10 + d) := by
      intro acc d hd h1 h2
      simp only [Lib.parseUint10, digit_byte hd]
      rw [if_pos (by omega), if_neg (by omega), if_neg (by omega)]
      congr 1
      omega
    by_cases h : n < 10
    · rw [Lib.decDigits_one h, step 0 n h (by omega) (by omega)]
      congr 1
      omega
    · rw [dec_split n h, parse_app _ _ _ _ (ih (n / 10) (by omega) (by omega)), step _ _ (by omega) (by omega) (by omega)]
      congr 1
      omega
theorem atoi_dec (n : Nat) (hn : n < 9223372036854775808) : Lib.atoiAll (Lib.decDigits n) = .ok (n : Int) := by
  have hp := parse_dec n hn
  obtain ⟨c, r, hcr⟩ : ∃ c r, Lib.decDigits n = c :: r := by
    cases h : Lib.decDigits n with
    | nil => exact absurd h (dec_ne n)
    | cons c r => exact ⟨c, r, rfl⟩
  have hd := dec_digits n c (by rw [hcr]; simp)
  rw [hcr] at hp ⊢
  unfold Lib.atoiAll Lib.parseMag
  simp only
  rw [if_neg (by omega : ¬ (c.toNat = 43 ∨ c.toNat = 45)), if_neg (by simp), hp]
  simp only
  rw [if_neg (by omega), if_neg (by omega), if_neg (by omega)]

theorem itoa_nat (n : Nat) : Lib.itoa (n : Int) = Lib.decDigits n := Lib.itoa_nonneg n

/-- What Atoi answers. -/
structure AtoiAt (s : ByteArray) (x : Int) (err : Value) : Prop where
  in_ : In64 x
  form : err = .nilIface ∨ ∃ N, err = .iface 109 (.pointer (some ⟨N, 0, none⟩))
  dec : ∀ n : Nat, n < 9223372036854775808 → s.data.toList = Lib.decDigits n → x = n ∧ err = .nilIface

theorem sat_in (l : List UInt8) : In64 (Lib.atoiSat l) := by
  unfold Lib.atoiSat In64
  split <;> omega
theorem all_in {l : List UInt8} {v : Int} (h : Lib.atoiAll l = .ok v) : In64 v := by
  unfold Lib.atoiAll at h
  unfold In64
  split at h
  · cases h
  · simp only at h
    split at h
    · cases h
    · cases h
    · split at h
      · cases h
      · split at h
        · cases h
        · rename_i h1 h2
          injection h with h
          split at h <;> omega

theorem atoi_calls (s : ByteArray) (hs : s.size ≤ 281474976710656) (w : World) (hv : Vars w) :
    Calls Tryd.prog 50 #[.string s] w fun e w' => ∃ x err, e = .returned (.tuple #[.int .i64 x, err]) ∧ AtoiAt s x err ∧ Below w.heap.size w w' := by
  cases h : Lib.atoiAll s.data.toList with
  | ok v =>
    refine (Tryd.strconv_Atoi_ok s (by omega) v h w).mono fun e w' he => ⟨v, _, he.1, ⟨all_in h, .inl rfl, fun n hn hd => ?_⟩, ?_⟩
    · rw [hd, atoi_dec n hn] at h
      injection h with h
      exact ⟨h.symm, rfl⟩
    · rcases he.2 with rfl | ⟨t, rfl⟩
      · exact Below.refl _ _
      · exact Lib.bytesWorld_below _ _ _
  | range =>
    obtain ⟨te, pe, hvar⟩ := hv.rng
    refine (Tryd.strconv_Atoi_range_var s (by omega) h te pe w hvar).mono fun e w' he => ?_
    obtain ⟨N, h1, h2, h3, h4⟩ := he
    exact ⟨_, _, h1, ⟨sat_in _, .inr ⟨N, rfl⟩, fun n hn hd => by rw [hd, atoi_dec n hn] at h; cases h⟩, h4⟩
  | _ =>
    obtain ⟨te, pe, hvar⟩ := hv.syn
    refine (Go.Proofs.Any.strconv_Atoi_syntax_var Tryd.laysC172 s (by omega) h te pe w hvar).mono fun e w' he => ?_
    obtain ⟨N, h1, h2, h3, h4⟩ := he
    exact ⟨0, _, h1, ⟨by unfold In64; omega, .inr ⟨N, rfl⟩, fun n hn hd => by rw [hd, atoi_dec n hn] at h; cases h⟩, h4⟩

/-- A taker at block g. -/
def Taker (W : World) (g : Nat) (rest : ByteArray) (bad : Bool) : Prop := W.heap[g]? = some (.cells #[.string rest, .bool bad] 60 (0, 0))
/-- What number gives. -/
structure NumAt (rest : ByteArray) (bad : Bool) (c : UInt8) (x : Int) (rest' : ByteArray) (bad' : Bool) : Prop where
  in_ : In64 x
  le : rest'.size ≤ rest.size
  pos : bad' = false → 0 ≤ x
  at_ : ∀ (n : Nat) q, n < 9223372036854775808 → (c.toNat < 48 ∨ 57 < c.toNat) → rest.data.toList = Lib.decDigits n ++ c :: q → x = n ∧ rest'.data.toList = q ∧ bad' = bad

theorem num_good {rest d r : ByteArray} {f bad : Bool} {c : UInt8} {x : Int} {err : Value} (hc : CutAt rest d r f c) (ha : AtoiAt d x err) (hx : 0 ≤ x) : NumAt rest bad c x r bad :=
  ⟨ha.in_, hc.rle, fun _ => hx, fun n q hn hcd h => by
    have hno : c ∉ Lib.decDigits n := fun hm => by have := dec_digits n c hm; omega
    obtain ⟨h1, h2, h3⟩ := hc.at_ _ _ h hno
    exact ⟨(ha.dec n hn h1).1, h2, rfl⟩⟩
theorem num_bad {rest d r : ByteArray} {f bad : Bool} {c : UInt8} {x : Int} {err : Value} (hc : CutAt rest d r f c) (ha : AtoiAt d x err) (hx : f = false ∨ err ≠ .nilIface ∨ x < 0) : NumAt rest bad c x r true :=
  ⟨ha.in_, hc.rle, fun h => (by cases h), fun n q hn hcd h => by
    exfalso
    have hno : c ∉ Lib.decDigits n := fun hm => by have := dec_digits n c hm; omega
    obtain ⟨h1, h2, h3⟩ := hc.at_ _ _ h hno
    obtain ⟨h4, h5⟩ := ha.dec n hn h1
    rcases hx with h6 | h6 | h6
    · rw [h3] at h6
      cases h6
    · exact h6 h5
    · omega⟩

theorem iface_ne (t : TypeId) (p : Value) : Value.iface t p ≠ .nilIface := fun h => by cases h

set_option maxHeartbeats 4000000 in
set_option maxRecDepth 100000 in
theorem number_calls (W : World) (g : Nat) (rest : ByteArray) (bad : Bool) (c : UInt8) (hv : Vars W) (hT : Taker W g rest bad) (hs : rest.size ≤ 281474976710656) :
    Calls Tryd.prog 45 #[.pointer (some ⟨g, 0, none⟩), .string ⟨#[c]⟩] W fun e W' => ∃ x rest' bad', e = .returned (.int .i64 x) ∧ NumAt rest bad c x rest' bad' ∧ Taker W' g rest' bad' ∧ W.grownBy W' (some g) := by
  have key : ∀ {w2 : World} {r : ByteArray}, Below W.heap.size W w2 → Taker (w2.setCell ⟨g, 0, none⟩ (.string r)) g r bad ∧ Taker ((w2.setCell ⟨g, 0, none⟩ (.string r)).setCell ⟨g, 1, none⟩ (.bool true)) g r true ∧ W.grownBy (w2.setCell ⟨g, 0, none⟩ (.string r)) (some g) ∧ W.grownBy ((w2.setCell ⟨g, 0, none⟩ (.string r)).setCell ⟨g, 1, none⟩ (.bool true)) (some g) := by
    intro w2 r hb
    have h2 := (hb.block g (Array.getElem?_eq_some_iff.1 hT).1).trans hT
    have h3 := setCell_heap w2 g 0 _ 60 (0, 0) (.string r) h2
    have h4 := setCell_heap _ g 1 _ 60 (0, 0) (.bool true) h3
    refine ⟨h3, h4, ⟨hb.os, hb.tape, hb.output, ?_, fun k hk hn => ?_⟩, ⟨hb.os, hb.tape, hb.output, ?_, fun k hk hn => ?_⟩⟩
    · simpa [World.setCell] using hb.size
    · exact (Below.heap_setCell w2 ⟨g, 0, none⟩ _ k (fun e => hn (by rw [e]))).trans (hb.block k hk)
    · simpa [World.setCell] using hb.size
    · exact (Below.heap_setCell _ ⟨g, 1, none⟩ _ k (fun e => hn (by rw [e]))).trans ((Below.heap_setCell w2 ⟨g, 0, none⟩ _ k (fun e => hn (by rw [e]))).trans (hb.block k hk))
  have c0 : W.cell? ⟨g, 0, none⟩ = some (.string rest) := by simp [World.cell?, show W.heap[g]? = _ from hT]
  have hlt : g < W.heap.size := (Array.getElem?_eq_some_iff.1 hT).1
  replace key := Aside0.mk @key
  replace hT := Aside0.mk hT
  replace hv := Aside0.mk hv
  go_enter Tryd.func45, Tryd.ntmps45
  go_wp2_with (first
    | (go_at_call 49; (with_reducible refine (Cut_calls rest c _ (by omega)).mono ?_); rintro e w1 ⟨d, r, f, rfl, hcut, hb1⟩; replace hcut := Aside0.mk hcut; replace hb1 := Aside0.mk hb1)
    | (go_at_call 50; (with_reducible refine (atoi_calls d (Nat.le_trans hcut.out.dle hs) _ (hv.out.below hb1.out)).mono ?_); rintro e w2 ⟨x, err, rfl, ha, hb2⟩; have hb3 := below_step hb1.out hb2 hb1.out.size; have hT2 : w2.heap[g]? = _ := (hb3.block g hlt).trans hT.out; have p0 : w2.cell? ⟨g, 0, none⟩ = some (.string rest) := (by simp [World.cell?, hT2]); have p1 : w2.cell? ⟨g, 1, none⟩ = some (.bool bad) := (by simp [World.cell?, hT2]); have f0 : w2.frozen? ⟨g, 0, none⟩ = false := (by simp [World.frozen?, hT2]); have f1 : w2.frozen? ⟨g, 1, none⟩ = false := (by simp [World.frozen?, hT2]); clear hT2 hb2; replace hb3 := Aside0.mk hb3; have hform := ha.form; replace ha := Aside0.mk ha; clear hb1; rcases hform with rfl | ⟨N, rfl⟩))
  all_goals
    go_ret
    obtain ⟨k1, k2, k3, k4⟩ := key.out (r := r) hb3.out
    first
      | (have hf : f = false := (by simpa using (by assumption : ¬ f = true)); exact ⟨x, r, true, rfl, num_bad hcut.out ha.out (.inl hf), k2, k4⟩)
      | (refine ⟨x, r, true, rfl, num_bad hcut.out ha.out (.inr (.inl (iface_ne _ _))), k2, k4⟩; done)
      | (have hx : x < 0 := (by omega); exact ⟨x, r, true, rfl, num_bad hcut.out ha.out (.inr (.inr hx)), k2, k4⟩)
      | (have hx : 0 ≤ x := (by omega); exact ⟨x, r, bad, rfl, num_good hcut.out ha.out hx, k1, k3⟩)

end Go.Proofs.YtdpbklckeamjpaaDoor.Scr
