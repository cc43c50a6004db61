/-
  '==' of the program's structs, the others.
-/
import Derived.Test.Qxb6500919aFmtEq
namespace Go.Proofs.Qxb6500919aFmt
open Go.Sx Go.Rp
set_option maxRecDepth 100000

theorem eq33 {d : Nat} (o o' : Ev) : EqI (d + 2) 31 (.agg (evC o).toArray) (.agg (evC o').toArray) (evEq o o') :=
  eqI_struct Tryf.underlying31 Tryf.stoodInHeld31
    (eqF_cons (by decide) (partC Tryf.isAgg27 rfl) (partC Tryf.isAgg27 rfl) (eqI_int Tryf.underlying27)
    (eqF_cons (by decide) (partC Tryf.isAgg28 rfl) (partC Tryf.isAgg28 rfl) (eqI_int Tryf.underlying28)
    (eqF_cons (by decide) (partC Tryf.isAgg29 rfl) (partC Tryf.isAgg29 rfl) (eqI_int Tryf.underlying29) eqF_nil)))

theorem eq78 {d : Nat} (o o' : Mk) : EqI (d + 2) 93 (.agg (mkC o).toArray) (.agg (mkC o').toArray) (mkEq o o') :=
  eqI_struct Tryf.underlying93 Tryf.stoodInHeld93
    (eqF_cons (by decide) (partC Tryf.isAgg3 rfl) (partC Tryf.isAgg3 rfl) (eqI_int Tryf.underlying3)
    (eqF_cons (by decide) (partC Tryf.isAgg29 rfl) (partC Tryf.isAgg29 rfl) (eqI_int Tryf.underlying29) eqF_nil))

theorem eq66 {d : Nat} (o o' : Pt) : EqI (d + 4) 84 (.agg (ptC o).toArray) (.agg (ptC o').toArray) (ptEq o o') :=
  eqI_struct Tryf.underlying84 Tryf.stoodInHeld84
    (eqF_cons (by decide) (partC Tryf.isAgg3 rfl) (partC Tryf.isAgg3 rfl) (eqI_int Tryf.underlying3)
    (eqF_cons (by decide) (partG Tryf.isAgg58 Tryf.sizeOf58 rfl) (partG Tryf.isAgg58 Tryf.sizeOf58 rfl) (eq46 o.st o'.st)
    (eqF_cons (by decide) (partG Tryf.isAgg44 Tryf.sizeOf44 rfl) (partG Tryf.isAgg44 Tryf.sizeOf44 rfl) (eq39 o.out o'.out) eqF_nil)))

theorem eq41 {d : Nat} (o o' : Res) : EqI (d + 4) 46 (.agg (resC o).toArray) (.agg (resC o').toArray) (resEq o o') :=
  eqI_struct Tryf.underlying46 Tryf.stoodInHeld46
    (eqF_cons (by decide) (partC Tryf.isAgg41 rfl) (partC Tryf.isAgg41 rfl) (eqI_int Tryf.underlying41)
    (eqF_cons (by decide) (partC Tryf.isAgg3 rfl) (partC Tryf.isAgg3 rfl) (eqI_int Tryf.underlying3)
    (eqF_cons (by decide) (partC Tryf.isAgg3 rfl) (partC Tryf.isAgg3 rfl) (eqI_int Tryf.underlying3)
    (eqF_cons (by decide) (partC Tryf.isAgg3 rfl) (partC Tryf.isAgg3 rfl) (eqI_int Tryf.underlying3)
    (eqF_cons (by decide) (partC Tryf.isAgg4 rfl) (partC Tryf.isAgg4 rfl) (eqI_bool Tryf.underlying4)
    (eqF_cons (by decide) (partG Tryf.isAgg44 Tryf.sizeOf44 rfl) (partG Tryf.isAgg44 Tryf.sizeOf44 rfl) (eq39 o.out o'.out)
    (eqF_cons (by decide) (partC Tryf.isAgg29 rfl) (partC Tryf.isAgg29 rfl) (eqI_int Tryf.underlying29)
    (eqF_cons (by decide) (partC Tryf.isAgg3 rfl) (partC Tryf.isAgg3 rfl) (eqI_int Tryf.underlying3)
    (eqF_cons (by decide) (partC Tryf.isAgg3 rfl) (partC Tryf.isAgg3 rfl) (eqI_int Tryf.underlying3)
    (eqF_cons (by decide) (partC Tryf.isAgg3 rfl) (partC Tryf.isAgg3 rfl) (eqI_int Tryf.underlying3) eqF_nil))))))))))

theorem run33 (o o' : Ev) : EqRun Tryf.prog 31 (.agg (evC o).toArray) (.agg (evC o').toArray) (evEq o o') := eqRun_of Tryf.eqGuardType31 (eq33 o o')
theorem run78 (o o' : Mk) : EqRun Tryf.prog 93 (.agg (mkC o).toArray) (.agg (mkC o').toArray) (mkEq o o') := eqRun_of Tryf.eqGuardType93 (eq78 o o')
theorem run66 (o o' : Pt) : EqRun Tryf.prog 84 (.agg (ptC o).toArray) (.agg (ptC o').toArray) (ptEq o o') := eqRun_of Tryf.eqGuardType84 (eq66 o o')
theorem run41 (o o' : Res) : EqRun Tryf.prog 46 (.agg (resC o).toArray) (.agg (resC o').toArray) (resEq o o') := eqRun_of Tryf.eqGuardType46 (eq41 o o')

theorem run33s (o : Ev) : EqRun Tryf.prog 31 (.agg (evC o).toArray) (.agg (evC o).toArray) true := by have h := run33 o o; rw [evEq_iff.2 rfl] at h; exact h
theorem run78s (o : Mk) : EqRun Tryf.prog 93 (.agg (mkC o).toArray) (.agg (mkC o).toArray) true := by have h := run78 o o; rw [mkEq_iff.2 rfl] at h; exact h
theorem run66s (o : Pt) : EqRun Tryf.prog 84 (.agg (ptC o).toArray) (.agg (ptC o).toArray) true := by have h := run66 o o; rw [ptEq_iff.2 rfl] at h; exact h
theorem run41s (o : Res) : EqRun Tryf.prog 46 (.agg (resC o).toArray) (.agg (resC o).toArray) true := by have h := run41 o o; rw [resEq_iff.2 rfl] at h; exact h
theorem run39s (o : Ot) : EqRun Tryf.prog 44 (.agg (outC o).toArray) (.agg (outC o).toArray) true := by have h := run39 o o; rw [otEq_iff.2 rfl] at h; exact h
theorem run46s (o : Mach) : EqRun Tryf.prog 58 (.agg (machC o).toArray) (.agg (machC o).toArray) true := by have h := run46 o o; rw [machEq_iff.2 rfl] at h; exact h

end Go.Proofs.Qxb6500919aFmt
