import Derived.Test.YtjebmcbpiobbaaaA
import Derived.Test.YtjebmcbpiobbaaaMem
namespace Go.Proofs.Ytjebmcbpiobbaaa
open Go.RowKit
def Clr.cells (x : Clr) : List Value := [.int .i64 x.no, .int .i64 x.fl, .int .i64 x.iss, .int .i64 x.o.d, .int .i64 x.o.y, .int .i64 x.o.h, .bool x.o.c, .bool x.rd, .bool x.wd]
abbrev Clr.v (x : Clr) : Value := .agg #[.int .i64 x.no, .int .i64 x.fl, .int .i64 x.iss, .int .i64 x.o.d, .int .i64 x.o.y, .int .i64 x.o.h, .bool x.o.c, .bool x.rd, .bool x.wd]

theorem fields24 : Try.prog.fieldsOf 24 = (match Try.prog.underlying 24 with | some (.struct fs) => fs | _ => #[]) := by kernel_rfl
theorem fields31 : Try.prog.fieldsOf 31 = (match Try.prog.underlying 31 with | some (.struct fs) => fs | _ => #[]) := by kernel_rfl

theorem eq24 (x y : Opt) (d : Nat) (w : World) : (Op.equalIn (d + 2) 24 x.v y.v).run Try.prog w = .ok (decide (x = y)) w := by
  rw [run_equalIn_struct (P := Try.prog) w (d + 1) 24 _ _ (by kernel_rfl) (by kernel_rfl), fields24, Try.underlying24]
  simp [go_sem, Op.eqFields]
  go_simp
  simp only [Opt.eq_iff]
  repeat' split
  all_goals simp_all
theorem eq31 (x y : Clr) (d : Nat) (w : World) : (Op.equalIn (d + 3) 31 x.v y.v).run Try.prog w = .ok (decide (x = y)) w := by
  rw [run_equalIn_struct (P := Try.prog) w (d + 2) 31 _ _ (by kernel_rfl) (by kernel_rfl), fields31, Try.underlying31]
  simp [go_sem, Op.eqFields]
  go_simp
  simp only [Clr.eq_iff, Opt.eq_iff]
  repeat' split
  all_goals simp_all
theorem run_neq31 (x y : Clr) (w : World) : (binOp .neq 31 x.v y.v).run Try.prog w = .ok (.bool (!decide (x = y))) w := by
  rw [run_neq_struct, eq31 x y 9997 w]; rfl
theorem run_eql31 (x y : Clr) (w : World) : (binOp .eql 31 x.v y.v).run Try.prog w = .ok (.bool (decide (x = y))) w := by
  rw [run_eql_struct, eq31 x y 9997 w]; rfl
theorem run_neq24 (x y : Opt) (w : World) : (binOp .neq 24 x.v y.v).run Try.prog w = .ok (.bool (!decide (x = y))) w := by
  rw [run_neq_struct, eq24 x y 9998 w]; rfl
theorem run_eql24 (x y : Opt) (w : World) : (binOp .eql 24 x.v y.v).run Try.prog w = .ok (.bool (decide (x = y))) w := by
  rw [run_eql_struct, eq24 x y 9998 w]; rfl
end Go.Proofs.Ytjebmcbpiobbaaa
