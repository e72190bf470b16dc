/- ScriptKinds's code, step by step, a part. -/
import Derived.Test.YtdpbklckeamjpaaDoorScrT
namespace Go.Proofs.YtdpbklckeamjpaaDoor.Scr
open Go.RowKit Go.Proofs.YtdpbklckeamjpaaDoorW.PrintWords Go.Proofs.YtdpbklckeamjpaaDoorW.PrintLast Go.Proofs.YtdpbklckeamjpaaDoorW.PrintMore Go.Proofs.YtdpbklckeamjpaaDoor.PScripts

set_option maxHeartbeats 8000000 in
set_option maxRecDepth 100000 in
theorem kinds_0_0 (x y : Int) (W : World) (hv : Vars W) (hx : (IntKind.u64.wrap x).tmod 9 = 0) (hy : (IntKind.u64.wrap y).tmod 5 = 0) :
    Calls Tryd.prog 4 #[.int .i64 x, .int .i64 y] W fun e w' => e = .returned (.bool true) ∧ Below W.heap.size W w' := by
  replace hv := Aside0.mk hv
  have m0 := fun w => may_now ⟨0, 0, 0, 0, 0, ⟨#[]⟩, ⟨0, ⟨#[]⟩, 0, 0, 0, 0⟩⟩ true (by kernel_rfl) w
  have m1 := fun w => may_now ⟨0, 1, 0, 0, 0, ⟨#[]⟩, ⟨0, ⟨#[]⟩, 0, 0, 0, 0⟩⟩ false (by kernel_rfl) w
  have z1 : ((⟨#[102, 116, 97, 99, 120]⟩ : ByteArray)[0]'(by decide)).toNat = 102 := rfl
  have y0 : ((⟨#[97]⟩ : ByteArray)[0]'(by decide)).toNat = 97 := rfl
  replace m0 := Aside0.mk m0
  replace m1 := Aside0.mk m1
  go_enter Tryd.func4, Tryd.ntmps4
  go_wp2_with (first
    | (go_at_call 8; (with_reducible refine (awake_calls _ hv.out).mono ?_); rintro e w1 ⟨rfl, hb1⟩; replace hb1 := Aside0.mk hb1)
    | (go_at_call 13; (with_reducible refine (m0.out _).mono ?_); rintro e w2 ⟨rfl, hb2⟩; have hq2 := Aside0.mk (kinds_mid hb1.out ⟨0, 0, 0, 0, 0, ⟨#[]⟩, ⟨0, ⟨#[]⟩, 0, 0, 0, 0⟩⟩ hb2); have hlt := (kinds_box w1 ⟨0, 0, 0, 0, 0, ⟨#[]⟩, ⟨0, ⟨#[]⟩, 0, 0, 0, 0⟩⟩ hb2).lt; have hfr := (kinds_box w1 ⟨0, 0, 0, 0, 0, ⟨#[]⟩, ⟨0, ⟨#[]⟩, 0, 0, 0, 0⟩⟩ hb2).frozen (1); have ⟨x0, x1, x2, x3, x4, x5, x6, x7, x8, x9, x10, x11⟩ := (kinds_box w1 ⟨0, 0, 0, 0, 0, ⟨#[]⟩, ⟨0, ⟨#[]⟩, 0, 0, 0, 0⟩⟩ hb2).cells; clear hb2)
    | (go_at_call 13; (with_reducible refine (m1.out _).mono ?_); rintro e w3 ⟨rfl, hb3⟩; replace hb3 := Aside0.mk (kinds_end hq2.out hb3))
    | (go_at_call 10; (with_reducible refine (num_same _ _).mono ?_); rintro e wn ⟨rfl, rfl⟩))
  all_goals
    go_loop [11, 12] (fun a b => (b = .int .i64 0 ∧ a = .bool false) ∨ (b = .int .i64 1 ∧ a = .bool false)) (fun _ b => match b with | .int _ m => 4 - m.toNat | _ => 0)
    case atStart => exact .inl ⟨rfl, rfl⟩
    case round =>
      obtain ⟨rfl, rfl⟩ | ⟨rfl, rfl⟩ := hrel
      all_goals go_wp2_with (first
        | (go_at_call 13; (with_reducible refine (m1.out _).mono ?_); rintro e w3 ⟨rfl, hb3⟩; replace hb3 := Aside0.mk (kinds_end hq2.out hb3))
        | (go_at_call 10; (with_reducible refine (num_same _ _).mono ?_); rintro e wn ⟨rfl, rfl⟩))
      all_goals first
        | (go_ret; exact ⟨rfl, hb3.out⟩)
        | (go_round
           case measure => decide
           case rel => simp [*])

set_option maxHeartbeats 8000000 in
set_option maxRecDepth 100000 in
theorem kinds_1_0 (x y : Int) (W : World) (hv : Vars W) (hx : (IntKind.u64.wrap x).tmod 9 = 1) (hy : (IntKind.u64.wrap y).tmod 5 = 0) :
    Calls Tryd.prog 4 #[.int .i64 x, .int .i64 y] W fun e w' => e = .returned (.bool true) ∧ Below W.heap.size W w' := by
  replace hv := Aside0.mk hv
  have m0 := fun w => may_now ⟨1, 0, 0, 0, 0, ⟨#[]⟩, ⟨0, ⟨#[]⟩, 0, 0, 0, 0⟩⟩ true (by kernel_rfl) w
  have m1 := fun w => may_now ⟨1, 1, 0, 0, 0, ⟨#[]⟩, ⟨0, ⟨#[]⟩, 0, 0, 0, 0⟩⟩ false (by kernel_rfl) w
  have z1 : ((⟨#[102, 116, 97, 99, 120]⟩ : ByteArray)[0]'(by decide)).toNat = 102 := rfl
  have y0 : ((⟨#[97]⟩ : ByteArray)[0]'(by decide)).toNat = 97 := rfl
  replace m0 := Aside0.mk m0
  replace m1 := Aside0.mk m1
  go_enter Tryd.func4, Tryd.ntmps4
  go_wp2_with (first
    | (go_at_call 8; (with_reducible refine (awake_calls _ hv.out).mono ?_); rintro e w1 ⟨rfl, hb1⟩; replace hb1 := Aside0.mk hb1)
    | (go_at_call 13; (with_reducible refine (m0.out _).mono ?_); rintro e w2 ⟨rfl, hb2⟩; have hq2 := Aside0.mk (kinds_mid hb1.out ⟨1, 0, 0, 0, 0, ⟨#[]⟩, ⟨0, ⟨#[]⟩, 0, 0, 0, 0⟩⟩ hb2); have hlt := (kinds_box w1 ⟨1, 0, 0, 0, 0, ⟨#[]⟩, ⟨0, ⟨#[]⟩, 0, 0, 0, 0⟩⟩ hb2).lt; have hfr := (kinds_box w1 ⟨1, 0, 0, 0, 0, ⟨#[]⟩, ⟨0, ⟨#[]⟩, 0, 0, 0, 0⟩⟩ hb2).frozen (1); have ⟨x0, x1, x2, x3, x4, x5, x6, x7, x8, x9, x10, x11⟩ := (kinds_box w1 ⟨1, 0, 0, 0, 0, ⟨#[]⟩, ⟨0, ⟨#[]⟩, 0, 0, 0, 0⟩⟩ hb2).cells; clear hb2)
    | (go_at_call 13; (with_reducible refine (m1.out _).mono ?_); rintro e w3 ⟨rfl, hb3⟩; replace hb3 := Aside0.mk (kinds_end hq2.out hb3))
    | (go_at_call 10; (with_reducible refine (num_same _ _).mono ?_); rintro e wn ⟨rfl, rfl⟩))
  all_goals
    go_loop [11, 12] (fun a b => (b = .int .i64 0 ∧ a = .bool false) ∨ (b = .int .i64 1 ∧ a = .bool false)) (fun _ b => match b with | .int _ m => 4 - m.toNat | _ => 0)
    case atStart => exact .inl ⟨rfl, rfl⟩
    case round =>
      obtain ⟨rfl, rfl⟩ | ⟨rfl, rfl⟩ := hrel
      all_goals go_wp2_with (first
        | (go_at_call 13; (with_reducible refine (m1.out _).mono ?_); rintro e w3 ⟨rfl, hb3⟩; replace hb3 := Aside0.mk (kinds_end hq2.out hb3))
        | (go_at_call 10; (with_reducible refine (num_same _ _).mono ?_); rintro e wn ⟨rfl, rfl⟩))
      all_goals first
        | (go_ret; exact ⟨rfl, hb3.out⟩)
        | (go_round
           case measure => decide
           case rel => simp [*])

set_option maxHeartbeats 8000000 in
set_option maxRecDepth 100000 in
theorem kinds_2_0 (x y : Int) (W : World) (hv : Vars W) (hx : (IntKind.u64.wrap x).tmod 9 = 2) (hy : (IntKind.u64.wrap y).tmod 5 = 0) :
    Calls Tryd.prog 4 #[.int .i64 x, .int .i64 y] W fun e w' => e = .returned (.bool true) ∧ Below W.heap.size W w' := by
  replace hv := Aside0.mk hv
  have m0 := fun w => may_now ⟨2, 0, 0, 0, 0, ⟨#[]⟩, ⟨0, ⟨#[]⟩, 0, 0, 0, 0⟩⟩ true (by kernel_rfl) w
  have m1 := fun w => may_now ⟨2, 1, 0, 0, 0, ⟨#[]⟩, ⟨0, ⟨#[]⟩, 0, 0, 0, 0⟩⟩ false (by kernel_rfl) w
  have z1 : ((⟨#[102, 116, 97, 99, 120]⟩ : ByteArray)[0]'(by decide)).toNat = 102 := rfl
  have y0 : ((⟨#[97]⟩ : ByteArray)[0]'(by decide)).toNat = 97 := rfl
  replace m0 := Aside0.mk m0
  replace m1 := Aside0.mk m1
  go_enter Tryd.func4, Tryd.ntmps4
  go_wp2_with (first
    | (go_at_call 8; (with_reducible refine (awake_calls _ hv.out).mono ?_); rintro e w1 ⟨rfl, hb1⟩; replace hb1 := Aside0.mk hb1)
    | (go_at_call 13; (with_reducible refine (m0.out _).mono ?_); rintro e w2 ⟨rfl, hb2⟩; have hq2 := Aside0.mk (kinds_mid hb1.out ⟨2, 0, 0, 0, 0, ⟨#[]⟩, ⟨0, ⟨#[]⟩, 0, 0, 0, 0⟩⟩ hb2); have hlt := (kinds_box w1 ⟨2, 0, 0, 0, 0, ⟨#[]⟩, ⟨0, ⟨#[]⟩, 0, 0, 0, 0⟩⟩ hb2).lt; have hfr := (kinds_box w1 ⟨2, 0, 0, 0, 0, ⟨#[]⟩, ⟨0, ⟨#[]⟩, 0, 0, 0, 0⟩⟩ hb2).frozen (1); have ⟨x0, x1, x2, x3, x4, x5, x6, x7, x8, x9, x10, x11⟩ := (kinds_box w1 ⟨2, 0, 0, 0, 0, ⟨#[]⟩, ⟨0, ⟨#[]⟩, 0, 0, 0, 0⟩⟩ hb2).cells; clear hb2)
    | (go_at_call 13; (with_reducible refine (m1.out _).mono ?_); rintro e w3 ⟨rfl, hb3⟩; replace hb3 := Aside0.mk (kinds_end hq2.out hb3))
    | (go_at_call 10; (with_reducible refine (num_same _ _).mono ?_); rintro e wn ⟨rfl, rfl⟩))
  all_goals
    go_loop [11, 12] (fun a b => (b = .int .i64 0 ∧ a = .bool false) ∨ (b = .int .i64 1 ∧ a = .bool false)) (fun _ b => match b with | .int _ m => 4 - m.toNat | _ => 0)
    case atStart => exact .inl ⟨rfl, rfl⟩
    case round =>
      obtain ⟨rfl, rfl⟩ | ⟨rfl, rfl⟩ := hrel
      all_goals go_wp2_with (first
        | (go_at_call 13; (with_reducible refine (m1.out _).mono ?_); rintro e w3 ⟨rfl, hb3⟩; replace hb3 := Aside0.mk (kinds_end hq2.out hb3))
        | (go_at_call 10; (with_reducible refine (num_same _ _).mono ?_); rintro e wn ⟨rfl, rfl⟩))
      all_goals first
        | (go_ret; exact ⟨rfl, hb3.out⟩)
        | (go_round
           case measure => decide
           case rel => simp [*])

set_option maxHeartbeats 8000000 in
set_option maxRecDepth 100000 in
theorem kinds_3_0 (x y : Int) (W : World) (hv : Vars W) (hx : (IntKind.u64.wrap x).tmod 9 = 3) (hy : (IntKind.u64.wrap y).tmod 5 = 0) :
    Calls Tryd.prog 4 #[.int .i64 x, .int .i64 y] W fun e w' => e = .returned (.bool true) ∧ Below W.heap.size W w' := by
  replace hv := Aside0.mk hv
  have m0 := fun w => may_now ⟨3, 0, 0, 0, 0, ⟨#[]⟩, ⟨0, ⟨#[]⟩, 0, 0, 0, 0⟩⟩ true (by kernel_rfl) w
  have m1 := fun w => may_now ⟨3, 1, 0, 0, 0, ⟨#[]⟩, ⟨0, ⟨#[]⟩, 0, 0, 0, 0⟩⟩ true (by kernel_rfl) w
  have z1 : ((⟨#[102, 116, 97, 99, 120]⟩ : ByteArray)[0]'(by decide)).toNat = 102 := rfl
  have y0 : ((⟨#[102, 116, 120]⟩ : ByteArray)[0]'(by decide)).toNat = 102 := rfl
  have y1 : ((⟨#[102, 116, 120]⟩ : ByteArray)[1]'(by decide)).toNat = 116 := rfl
  have y2 : ((⟨#[102, 116, 120]⟩ : ByteArray)[2]'(by decide)).toNat = 120 := rfl
  replace m0 := Aside0.mk m0
  replace m1 := Aside0.mk m1
  go_enter Tryd.func4, Tryd.ntmps4
  go_wp2_with (first
    | (go_at_call 8; (with_reducible refine (awake_calls _ hv.out).mono ?_); rintro e w1 ⟨rfl, hb1⟩; replace hb1 := Aside0.mk hb1)
    | (go_at_call 13; (with_reducible refine (m0.out _).mono ?_); rintro e w2 ⟨rfl, hb2⟩; have hq2 := Aside0.mk (kinds_mid hb1.out ⟨3, 0, 0, 0, 0, ⟨#[]⟩, ⟨0, ⟨#[]⟩, 0, 0, 0, 0⟩⟩ hb2); have hlt := (kinds_box w1 ⟨3, 0, 0, 0, 0, ⟨#[]⟩, ⟨0, ⟨#[]⟩, 0, 0, 0, 0⟩⟩ hb2).lt; have hfr := (kinds_box w1 ⟨3, 0, 0, 0, 0, ⟨#[]⟩, ⟨0, ⟨#[]⟩, 0, 0, 0, 0⟩⟩ hb2).frozen (1); have ⟨x0, x1, x2, x3, x4, x5, x6, x7, x8, x9, x10, x11⟩ := (kinds_box w1 ⟨3, 0, 0, 0, 0, ⟨#[]⟩, ⟨0, ⟨#[]⟩, 0, 0, 0, 0⟩⟩ hb2).cells; clear hb2)
    | (go_at_call 13; (with_reducible refine (m1.out _).mono ?_); rintro e w3 ⟨rfl, hb3⟩; replace hb3 := Aside0.mk (kinds_end hq2.out hb3))
    | (go_at_call 10; (with_reducible refine (num_same _ _).mono ?_); rintro e wn ⟨rfl, rfl⟩))
  all_goals
    go_loop [11, 12] (fun a b => (b = .int .i64 0 ∧ a = .bool false) ∨ (b = .int .i64 1 ∧ a = .bool true) ∨ (b = .int .i64 2 ∧ a = .bool true) ∨ (b = .int .i64 3 ∧ a = .bool true)) (fun _ b => match b with | .int _ m => 4 - m.toNat | _ => 0)
    case atStart => exact .inl ⟨rfl, rfl⟩
    case round =>
      obtain ⟨rfl, rfl⟩ | ⟨rfl, rfl⟩ | ⟨rfl, rfl⟩ | ⟨rfl, rfl⟩ := hrel
      all_goals go_wp2_with (first
        | (go_at_call 13; (with_reducible refine (m1.out _).mono ?_); rintro e w3 ⟨rfl, hb3⟩; replace hb3 := Aside0.mk (kinds_end hq2.out hb3))
        | (go_at_call 10; (with_reducible refine (num_same _ _).mono ?_); rintro e wn ⟨rfl, rfl⟩))
      all_goals first
        | (go_ret; exact ⟨rfl, hb3.out⟩)
        | (go_round
           case measure => decide
           case rel => simp [*])

set_option maxHeartbeats 8000000 in
set_option maxRecDepth 100000 in
theorem kinds_4_0 (x y : Int) (W : World) (hv : Vars W) (hx : (IntKind.u64.wrap x).tmod 9 = 4) (hy : (IntKind.u64.wrap y).tmod 5 = 0) :
    Calls Tryd.prog 4 #[.int .i64 x, .int .i64 y] W fun e w' => e = .returned (.bool true) ∧ Below W.heap.size W w' := by
  replace hv := Aside0.mk hv
  have m0 := fun w => may_now ⟨4, 0, 0, 0, 0, ⟨#[]⟩, ⟨0, ⟨#[]⟩, 0, 0, 0, 0⟩⟩ true (by kernel_rfl) w
  have m1 := fun w => may_now ⟨4, 1, 0, 0, 0, ⟨#[]⟩, ⟨0, ⟨#[]⟩, 0, 0, 0, 0⟩⟩ false (by kernel_rfl) w
  have z1 : ((⟨#[102, 116, 97, 99, 120]⟩ : ByteArray)[0]'(by decide)).toNat = 102 := rfl
  replace m0 := Aside0.mk m0
  replace m1 := Aside0.mk m1
  go_enter Tryd.func4, Tryd.ntmps4
  go_wp2_with (first
    | (go_at_call 8; (with_reducible refine (awake_calls _ hv.out).mono ?_); rintro e w1 ⟨rfl, hb1⟩; replace hb1 := Aside0.mk hb1)
    | (go_at_call 13; (with_reducible refine (m0.out _).mono ?_); rintro e w2 ⟨rfl, hb2⟩; have hq2 := Aside0.mk (kinds_mid hb1.out ⟨4, 0, 0, 0, 0, ⟨#[]⟩, ⟨0, ⟨#[]⟩, 0, 0, 0, 0⟩⟩ hb2); have hlt := (kinds_box w1 ⟨4, 0, 0, 0, 0, ⟨#[]⟩, ⟨0, ⟨#[]⟩, 0, 0, 0, 0⟩⟩ hb2).lt; have hfr := (kinds_box w1 ⟨4, 0, 0, 0, 0, ⟨#[]⟩, ⟨0, ⟨#[]⟩, 0, 0, 0, 0⟩⟩ hb2).frozen (1); have ⟨x0, x1, x2, x3, x4, x5, x6, x7, x8, x9, x10, x11⟩ := (kinds_box w1 ⟨4, 0, 0, 0, 0, ⟨#[]⟩, ⟨0, ⟨#[]⟩, 0, 0, 0, 0⟩⟩ hb2).cells; clear hb2)
    | (go_at_call 13; (with_reducible refine (m1.out _).mono ?_); rintro e w3 ⟨rfl, hb3⟩; replace hb3 := Aside0.mk (kinds_end hq2.out hb3))
    | (go_at_call 10; (with_reducible refine (num_same _ _).mono ?_); rintro e wn ⟨rfl, rfl⟩))
  all_goals
    go_loop [11, 12] (fun a b => (b = .int .i64 0 ∧ a = .bool false)) (fun _ b => match b with | .int _ m => 4 - m.toNat | _ => 0)
    case atStart => exact ⟨rfl, rfl⟩
    case round =>
      obtain ⟨rfl, rfl⟩ := hrel
      all_goals go_wp2_with (first
        | (go_at_call 13; (with_reducible refine (m1.out _).mono ?_); rintro e w3 ⟨rfl, hb3⟩; replace hb3 := Aside0.mk (kinds_end hq2.out hb3))
        | (go_at_call 10; (with_reducible refine (num_same _ _).mono ?_); rintro e wn ⟨rfl, rfl⟩))
      all_goals first
        | (go_ret; exact ⟨rfl, hb3.out⟩)
        | (go_round
           case measure => decide
           case rel => simp [*])

set_option maxHeartbeats 8000000 in
set_option maxRecDepth 100000 in
theorem kinds_5_0 (x y : Int) (W : World) (hv : Vars W) (hx : (IntKind.u64.wrap x).tmod 9 = 5) (hy : (IntKind.u64.wrap y).tmod 5 = 0) :
    Calls Tryd.prog 4 #[.int .i64 x, .int .i64 y] W fun e w' => e = .returned (.bool true) ∧ Below W.heap.size W w' := by
  replace hv := Aside0.mk hv
  have m0 := fun w => may_now ⟨5, 0, 0, 0, 0, ⟨#[]⟩, ⟨0, ⟨#[]⟩, 0, 0, 0, 0⟩⟩ true (by kernel_rfl) w
  have m1 := fun w => may_now ⟨5, 1, 0, 0, 0, ⟨#[]⟩, ⟨0, ⟨#[]⟩, 0, 0, 0, 0⟩⟩ false (by kernel_rfl) w
  have z1 : ((⟨#[102, 116, 97, 99, 120]⟩ : ByteArray)[0]'(by decide)).toNat = 102 := rfl
  have y0 : ((⟨#[116]⟩ : ByteArray)[0]'(by decide)).toNat = 116 := rfl
  replace m0 := Aside0.mk m0
  replace m1 := Aside0.mk m1
  go_enter Tryd.func4, Tryd.ntmps4
  go_wp2_with (first
    | (go_at_call 8; (with_reducible refine (awake_calls _ hv.out).mono ?_); rintro e w1 ⟨rfl, hb1⟩; replace hb1 := Aside0.mk hb1)
    | (go_at_call 13; (with_reducible refine (m0.out _).mono ?_); rintro e w2 ⟨rfl, hb2⟩; have hq2 := Aside0.mk (kinds_mid hb1.out ⟨5, 0, 0, 0, 0, ⟨#[]⟩, ⟨0, ⟨#[]⟩, 0, 0, 0, 0⟩⟩ hb2); have hlt := (kinds_box w1 ⟨5, 0, 0, 0, 0, ⟨#[]⟩, ⟨0, ⟨#[]⟩, 0, 0, 0, 0⟩⟩ hb2).lt; have hfr := (kinds_box w1 ⟨5, 0, 0, 0, 0, ⟨#[]⟩, ⟨0, ⟨#[]⟩, 0, 0, 0, 0⟩⟩ hb2).frozen (1); have ⟨x0, x1, x2, x3, x4, x5, x6, x7, x8, x9, x10, x11⟩ := (kinds_box w1 ⟨5, 0, 0, 0, 0, ⟨#[]⟩, ⟨0, ⟨#[]⟩, 0, 0, 0, 0⟩⟩ hb2).cells; clear hb2)
    | (go_at_call 13; (with_reducible refine (m1.out _).mono ?_); rintro e w3 ⟨rfl, hb3⟩; replace hb3 := Aside0.mk (kinds_end hq2.out hb3))
    | (go_at_call 10; (with_reducible refine (num_same _ _).mono ?_); rintro e wn ⟨rfl, rfl⟩))
  all_goals
    go_loop [11, 12] (fun a b => (b = .int .i64 0 ∧ a = .bool false) ∨ (b = .int .i64 1 ∧ a = .bool false)) (fun _ b => match b with | .int _ m => 4 - m.toNat | _ => 0)
    case atStart => exact .inl ⟨rfl, rfl⟩
    case round =>
      obtain ⟨rfl, rfl⟩ | ⟨rfl, rfl⟩ := hrel
      all_goals go_wp2_with (first
        | (go_at_call 13; (with_reducible refine (m1.out _).mono ?_); rintro e w3 ⟨rfl, hb3⟩; replace hb3 := Aside0.mk (kinds_end hq2.out hb3))
        | (go_at_call 10; (with_reducible refine (num_same _ _).mono ?_); rintro e wn ⟨rfl, rfl⟩))
      all_goals first
        | (go_ret; exact ⟨rfl, hb3.out⟩)
        | (go_round
           case measure => decide
           case rel => simp [*])

set_option maxHeartbeats 8000000 in
set_option maxRecDepth 100000 in
theorem kinds_6_0 (x y : Int) (W : World) (hv : Vars W) (hx : (IntKind.u64.wrap x).tmod 9 = 6) (hy : (IntKind.u64.wrap y).tmod 5 = 0) :
    Calls Tryd.prog 4 #[.int .i64 x, .int .i64 y] W fun e w' => e = .returned (.bool true) ∧ Below W.heap.size W w' := by
  replace hv := Aside0.mk hv
  have m0 := fun w => may_now ⟨6, 0, 0, 0, 0, ⟨#[]⟩, ⟨0, ⟨#[]⟩, 0, 0, 0, 0⟩⟩ true (by kernel_rfl) w
  have m1 := fun w => may_now ⟨6, 1, 0, 0, 0, ⟨#[]⟩, ⟨0, ⟨#[]⟩, 0, 0, 0, 0⟩⟩ false (by kernel_rfl) w
  have z1 : ((⟨#[102, 116, 97, 99, 120]⟩ : ByteArray)[0]'(by decide)).toNat = 102 := rfl
  have y0 : ((⟨#[116, 97]⟩ : ByteArray)[0]'(by decide)).toNat = 116 := rfl
  have y1 : ((⟨#[116, 97]⟩ : ByteArray)[1]'(by decide)).toNat = 97 := rfl
  replace m0 := Aside0.mk m0
  replace m1 := Aside0.mk m1
  go_enter Tryd.func4, Tryd.ntmps4
  go_wp2_with (first
    | (go_at_call 8; (with_reducible refine (awake_calls _ hv.out).mono ?_); rintro e w1 ⟨rfl, hb1⟩; replace hb1 := Aside0.mk hb1)
    | (go_at_call 13; (with_reducible refine (m0.out _).mono ?_); rintro e w2 ⟨rfl, hb2⟩; have hq2 := Aside0.mk (kinds_mid hb1.out ⟨6, 0, 0, 0, 0, ⟨#[]⟩, ⟨0, ⟨#[]⟩, 0, 0, 0, 0⟩⟩ hb2); have hlt := (kinds_box w1 ⟨6, 0, 0, 0, 0, ⟨#[]⟩, ⟨0, ⟨#[]⟩, 0, 0, 0, 0⟩⟩ hb2).lt; have hfr := (kinds_box w1 ⟨6, 0, 0, 0, 0, ⟨#[]⟩, ⟨0, ⟨#[]⟩, 0, 0, 0, 0⟩⟩ hb2).frozen (1); have ⟨x0, x1, x2, x3, x4, x5, x6, x7, x8, x9, x10, x11⟩ := (kinds_box w1 ⟨6, 0, 0, 0, 0, ⟨#[]⟩, ⟨0, ⟨#[]⟩, 0, 0, 0, 0⟩⟩ hb2).cells; clear hb2)
    | (go_at_call 13; (with_reducible refine (m1.out _).mono ?_); rintro e w3 ⟨rfl, hb3⟩; replace hb3 := Aside0.mk (kinds_end hq2.out hb3))
    | (go_at_call 10; (with_reducible refine (num_same _ _).mono ?_); rintro e wn ⟨rfl, rfl⟩))
  all_goals
    go_loop [11, 12] (fun a b => (b = .int .i64 0 ∧ a = .bool false) ∨ (b = .int .i64 1 ∧ a = .bool false) ∨ (b = .int .i64 2 ∧ a = .bool false)) (fun _ b => match b with | .int _ m => 4 - m.toNat | _ => 0)
    case atStart => exact .inl ⟨rfl, rfl⟩
    case round =>
      obtain ⟨rfl, rfl⟩ | ⟨rfl, rfl⟩ | ⟨rfl, rfl⟩ := hrel
      all_goals go_wp2_with (first
        | (go_at_call 13; (with_reducible refine (m1.out _).mono ?_); rintro e w3 ⟨rfl, hb3⟩; replace hb3 := Aside0.mk (kinds_end hq2.out hb3))
        | (go_at_call 10; (with_reducible refine (num_same _ _).mono ?_); rintro e wn ⟨rfl, rfl⟩))
      all_goals first
        | (go_ret; exact ⟨rfl, hb3.out⟩)
        | (go_round
           case measure => decide
           case rel => simp [*])

set_option maxHeartbeats 8000000 in
set_option maxRecDepth 100000 in
theorem kinds_7_0 (x y : Int) (W : World) (hv : Vars W) (hx : (IntKind.u64.wrap x).tmod 9 = 7) (hy : (IntKind.u64.wrap y).tmod 5 = 0) :
    Calls Tryd.prog 4 #[.int .i64 x, .int .i64 y] W fun e w' => e = .returned (.bool true) ∧ Below W.heap.size W w' := by
  replace hv := Aside0.mk hv
  have m0 := fun w => may_now ⟨7, 0, 0, 0, 0, ⟨#[]⟩, ⟨1, ⟨#[115]⟩, 0, 0, 0, 0⟩⟩ true (by kernel_rfl) w
  have m1 := fun w => may_now ⟨7, 1, 0, 0, 0, ⟨#[]⟩, ⟨1, ⟨#[115]⟩, 0, 0, 0, 0⟩⟩ false (by kernel_rfl) w
  have z1 : ((⟨#[102, 116, 97, 99, 120]⟩ : ByteArray)[0]'(by decide)).toNat = 102 := rfl
  have y0 : ((⟨#[116]⟩ : ByteArray)[0]'(by decide)).toNat = 116 := rfl
  replace m0 := Aside0.mk m0
  replace m1 := Aside0.mk m1
  go_enter Tryd.func4, Tryd.ntmps4
  go_wp2_with (first
    | (go_at_call 8; (with_reducible refine (awake_calls _ hv.out).mono ?_); rintro e w1 ⟨rfl, hb1⟩; replace hb1 := Aside0.mk hb1)
    | (go_at_call 13; (with_reducible refine (m0.out _).mono ?_); rintro e w2 ⟨rfl, hb2⟩; have hq2 := Aside0.mk (kinds_mid hb1.out ⟨7, 0, 0, 0, 0, ⟨#[]⟩, ⟨1, ⟨#[115]⟩, 0, 0, 0, 0⟩⟩ hb2); have hlt := (kinds_box w1 ⟨7, 0, 0, 0, 0, ⟨#[]⟩, ⟨1, ⟨#[115]⟩, 0, 0, 0, 0⟩⟩ hb2).lt; have hfr := (kinds_box w1 ⟨7, 0, 0, 0, 0, ⟨#[]⟩, ⟨1, ⟨#[115]⟩, 0, 0, 0, 0⟩⟩ hb2).frozen (1); have ⟨x0, x1, x2, x3, x4, x5, x6, x7, x8, x9, x10, x11⟩ := (kinds_box w1 ⟨7, 0, 0, 0, 0, ⟨#[]⟩, ⟨1, ⟨#[115]⟩, 0, 0, 0, 0⟩⟩ hb2).cells; clear hb2)
    | (go_at_call 13; (with_reducible refine (m1.out _).mono ?_); rintro e w3 ⟨rfl, hb3⟩; replace hb3 := Aside0.mk (kinds_end hq2.out hb3))
    | (go_at_call 10; (with_reducible refine (num_same _ _).mono ?_); rintro e wn ⟨rfl, rfl⟩))
  all_goals
    go_loop [11, 12] (fun a b => (b = .int .i64 0 ∧ a = .bool false) ∨ (b = .int .i64 1 ∧ a = .bool false)) (fun _ b => match b with | .int _ m => 4 - m.toNat | _ => 0)
    case atStart => exact .inl ⟨rfl, rfl⟩
    case round =>
      obtain ⟨rfl, rfl⟩ | ⟨rfl, rfl⟩ := hrel
      all_goals go_wp2_with (first
        | (go_at_call 13; (with_reducible refine (m1.out _).mono ?_); rintro e w3 ⟨rfl, hb3⟩; replace hb3 := Aside0.mk (kinds_end hq2.out hb3))
        | (go_at_call 10; (with_reducible refine (num_same _ _).mono ?_); rintro e wn ⟨rfl, rfl⟩))
      all_goals first
        | (go_ret; exact ⟨rfl, hb3.out⟩)
        | (go_round
           case measure => decide
           case rel => simp [*])

set_option maxHeartbeats 8000000 in
set_option maxRecDepth 100000 in
theorem kinds_8_0 (x y : Int) (W : World) (hv : Vars W) (hx : (IntKind.u64.wrap x).tmod 9 = 8) (hy : (IntKind.u64.wrap y).tmod 5 = 0) :
    Calls Tryd.prog 4 #[.int .i64 x, .int .i64 y] W fun e w' => e = .returned (.bool true) ∧ Below W.heap.size W w' := by
  replace hv := Aside0.mk hv
  have m0 := fun w => may_now ⟨8, 0, 0, 0, 0, ⟨#[]⟩, ⟨0, ⟨#[]⟩, 0, 0, 0, 0⟩⟩ true (by kernel_rfl) w
  have m1 := fun w => may_now ⟨8, 1, 0, 0, 0, ⟨#[]⟩, ⟨0, ⟨#[]⟩, 0, 0, 0, 0⟩⟩ true (by kernel_rfl) w
  have z1 : ((⟨#[102, 116, 97, 99, 120]⟩ : ByteArray)[0]'(by decide)).toNat = 102 := rfl
  have y0 : ((⟨#[102, 116, 99]⟩ : ByteArray)[0]'(by decide)).toNat = 102 := rfl
  have y1 : ((⟨#[102, 116, 99]⟩ : ByteArray)[1]'(by decide)).toNat = 116 := rfl
  have y2 : ((⟨#[102, 116, 99]⟩ : ByteArray)[2]'(by decide)).toNat = 99 := rfl
  replace m0 := Aside0.mk m0
  replace m1 := Aside0.mk m1
  go_enter Tryd.func4, Tryd.ntmps4
  go_wp2_with (first
    | (go_at_call 8; (with_reducible refine (awake_calls _ hv.out).mono ?_); rintro e w1 ⟨rfl, hb1⟩; replace hb1 := Aside0.mk hb1)
    | (go_at_call 13; (with_reducible refine (m0.out _).mono ?_); rintro e w2 ⟨rfl, hb2⟩; have hq2 := Aside0.mk (kinds_mid hb1.out ⟨8, 0, 0, 0, 0, ⟨#[]⟩, ⟨0, ⟨#[]⟩, 0, 0, 0, 0⟩⟩ hb2); have hlt := (kinds_box w1 ⟨8, 0, 0, 0, 0, ⟨#[]⟩, ⟨0, ⟨#[]⟩, 0, 0, 0, 0⟩⟩ hb2).lt; have hfr := (kinds_box w1 ⟨8, 0, 0, 0, 0, ⟨#[]⟩, ⟨0, ⟨#[]⟩, 0, 0, 0, 0⟩⟩ hb2).frozen (1); have ⟨x0, x1, x2, x3, x4, x5, x6, x7, x8, x9, x10, x11⟩ := (kinds_box w1 ⟨8, 0, 0, 0, 0, ⟨#[]⟩, ⟨0, ⟨#[]⟩, 0, 0, 0, 0⟩⟩ hb2).cells; clear hb2)
    | (go_at_call 13; (with_reducible refine (m1.out _).mono ?_); rintro e w3 ⟨rfl, hb3⟩; replace hb3 := Aside0.mk (kinds_end hq2.out hb3))
    | (go_at_call 10; (with_reducible refine (num_same _ _).mono ?_); rintro e wn ⟨rfl, rfl⟩))
  all_goals
    go_loop [11, 12] (fun a b => (b = .int .i64 0 ∧ a = .bool false) ∨ (b = .int .i64 1 ∧ a = .bool true) ∨ (b = .int .i64 2 ∧ a = .bool true) ∨ (b = .int .i64 3 ∧ a = .bool true)) (fun _ b => match b with | .int _ m => 4 - m.toNat | _ => 0)
    case atStart => exact .inl ⟨rfl, rfl⟩
    case round =>
      obtain ⟨rfl, rfl⟩ | ⟨rfl, rfl⟩ | ⟨rfl, rfl⟩ | ⟨rfl, rfl⟩ := hrel
      all_goals go_wp2_with (first
        | (go_at_call 13; (with_reducible refine (m1.out _).mono ?_); rintro e w3 ⟨rfl, hb3⟩; replace hb3 := Aside0.mk (kinds_end hq2.out hb3))
        | (go_at_call 10; (with_reducible refine (num_same _ _).mono ?_); rintro e wn ⟨rfl, rfl⟩))
      all_goals first
        | (go_ret; exact ⟨rfl, hb3.out⟩)
        | (go_round
           case measure => decide
           case rel => simp [*])

end Go.Proofs.YtdpbklckeamjpaaDoor.Scr
