/- '==' of two disks as one Bool. -/
import Derived.Test.YtjcmjfabadlbjaaBootF
import Derived.Test.YtjcmjfabadlbjaaWEqStruct
namespace Go.Proofs.Ytjcmjfabadlbjaa.Boot
open Go.RowKit Go.Proofs.YtjcmjfabadlbjaaW.PrintWords Go.Proofs.YtjcmjfabadlbjaaW.PrintLast

theorem eqS (d : Nat) (w : World) (a c : ByteArray) : (Op.equalIn (d + 1) 9 (.string a) (.string c)).run Try.prog w = .ok (a.toList == c.toList) w := by
  go_simp
theorem eqA43 (d : Nat) (w : World) (a b c e : ByteArray) :
    (Op.equalIn (d + 2) 43 (.agg #[.string a, .string b]) (.agg #[.string c, .string e])).run Try.prog w = .ok (a.toList == c.toList && b.toList == e.toList) w := by
  rw [Op.equalIn]
  simp only [Sem.run_bind, run_underlying Try.underlying43, Result.andThen_ok]
  have h0 : ∀ (x y : ByteArray), (part 9 #[.string x, .string y] 0).run Try.prog w = .ok (.string x) w := fun x y => by go_simp
  have h1 : ∀ (x y : ByteArray), (part 9 #[.string x, .string y] 1).run Try.prog w = .ok (.string y) w := fun x y => by go_simp
  have hs : (sizeOf 9).run Try.prog w = .ok 1 w := by go_simp
  rw [hs]
  simp only [Result.andThen_ok, Std.Legacy.Range.forIn_eq_forIn_range', Std.Legacy.Range.size, Nat.sub_zero, Nat.add_one_sub_one, Nat.div_one, List.range', List.forIn_cons, List.forIn_nil, Nat.zero_mul, Nat.zero_add, Nat.one_mul, Sem.run_bind, h0, eqS]
  cases (a.toList == c.toList)
  · simp
  · simp only [Bool.not_true, Bool.false_eq_true, if_false, Sem.run_pure, Result.andThen_ok, Sem.run_bind, h1, eqS]
    cases (b.toList == e.toList) <;> simp

theorem eqA45 (d : Nat) (w : World) (a b c e : ByteArray) :
    (Op.equalIn (d + 3) 45 (.agg #[.string a, .string b]) (.agg #[.string c, .string e])).run Try.prog w = .ok (a.toList == c.toList && b.toList == e.toList) w := by
  refine eqA_of Try.underlying45 (by kernel_rfl) ?_
  exact eqf_last (by rfl) (by go_simp) (by go_simp) (eqA43 d w a b c e)

end Go.Proofs.Ytjcmjfabadlbjaa.Boot
