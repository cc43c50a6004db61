/-
  '==' of the program's structs, the others.
-/
import Derived.Test.Qxb6500919aEq
namespace Go.Proofs.Qxb6500919a
open Go.Sx Go.Rp
set_option maxRecDepth 100000

theorem eq33 {d : Nat} (o o' : Ev) : EqI (d + 2) 33 (.agg (evC o).toArray) (.agg (evC o').toArray) (evEq o o') :=
  eqI_struct Try.underlying33 Try.stoodInHeld33
    (eqF_cons (by decide) (partC Try.isAgg29 rfl) (partC Try.isAgg29 rfl) (eqI_int Try.underlying29)
    (eqF_cons (by decide) (partC Try.isAgg30 rfl) (partC Try.isAgg30 rfl) (eqI_int Try.underlying30)
    (eqF_cons (by decide) (partC Try.isAgg31 rfl) (partC Try.isAgg31 rfl) (eqI_int Try.underlying31) eqF_nil)))

theorem eq78 {d : Nat} (o o' : Mk) : EqI (d + 2) 78 (.agg (mkC o).toArray) (.agg (mkC o').toArray) (mkEq o o') :=
  eqI_struct Try.underlying78 Try.stoodInHeld78
    (eqF_cons (by decide) (partC Try.isAgg3 rfl) (partC Try.isAgg3 rfl) (eqI_int Try.underlying3)
    (eqF_cons (by decide) (partC Try.isAgg31 rfl) (partC Try.isAgg31 rfl) (eqI_int Try.underlying31) eqF_nil))

theorem eq66 {d : Nat} (o o' : Pt) : EqI (d + 4) 66 (.agg (ptC o).toArray) (.agg (ptC o').toArray) (ptEq o o') :=
  eqI_struct Try.underlying66 Try.stoodInHeld66
    (eqF_cons (by decide) (partC Try.isAgg3 rfl) (partC Try.isAgg3 rfl) (eqI_int Try.underlying3)
    (eqF_cons (by decide) (partG Try.isAgg46 Try.sizeOf46 rfl) (partG Try.isAgg46 Try.sizeOf46 rfl) (eq46 o.st o'.st)
    (eqF_cons (by decide) (partG Try.isAgg39 Try.sizeOf39 rfl) (partG Try.isAgg39 Try.sizeOf39 rfl) (eq39 o.out o'.out) eqF_nil)))

theorem eq41 {d : Nat} (o o' : Res) : EqI (d + 4) 41 (.agg (resC o).toArray) (.agg (resC o').toArray) (resEq o o') :=
  eqI_struct Try.underlying41 Try.stoodInHeld41
    (eqF_cons (by decide) (partC Try.isAgg36 rfl) (partC Try.isAgg36 rfl) (eqI_int Try.underlying36)
    (eqF_cons (by decide) (partC Try.isAgg3 rfl) (partC Try.isAgg3 rfl) (eqI_int Try.underlying3)
    (eqF_cons (by decide) (partC Try.isAgg3 rfl) (partC Try.isAgg3 rfl) (eqI_int Try.underlying3)
    (eqF_cons (by decide) (partC Try.isAgg3 rfl) (partC Try.isAgg3 rfl) (eqI_int Try.underlying3)
    (eqF_cons (by decide) (partC Try.isAgg4 rfl) (partC Try.isAgg4 rfl) (eqI_bool Try.underlying4)
    (eqF_cons (by decide) (partG Try.isAgg39 Try.sizeOf39 rfl) (partG Try.isAgg39 Try.sizeOf39 rfl) (eq39 o.out o'.out)
    (eqF_cons (by decide) (partC Try.isAgg31 rfl) (partC Try.isAgg31 rfl) (eqI_int Try.underlying31)
    (eqF_cons (by decide) (partC Try.isAgg3 rfl) (partC Try.isAgg3 rfl) (eqI_int Try.underlying3)
    (eqF_cons (by decide) (partC Try.isAgg3 rfl) (partC Try.isAgg3 rfl) (eqI_int Try.underlying3)
    (eqF_cons (by decide) (partC Try.isAgg3 rfl) (partC Try.isAgg3 rfl) (eqI_int Try.underlying3) eqF_nil))))))))))

theorem run33 (o o' : Ev) : EqRun Try.prog 33 (.agg (evC o).toArray) (.agg (evC o').toArray) (evEq o o') := eqRun_of Try.eqGuardType33 (eq33 o o')
theorem run78 (o o' : Mk) : EqRun Try.prog 78 (.agg (mkC o).toArray) (.agg (mkC o').toArray) (mkEq o o') := eqRun_of Try.eqGuardType78 (eq78 o o')
theorem run66 (o o' : Pt) : EqRun Try.prog 66 (.agg (ptC o).toArray) (.agg (ptC o').toArray) (ptEq o o') := eqRun_of Try.eqGuardType66 (eq66 o o')
theorem run41 (o o' : Res) : EqRun Try.prog 41 (.agg (resC o).toArray) (.agg (resC o').toArray) (resEq o o') := eqRun_of Try.eqGuardType41 (eq41 o o')

theorem run33s (o : Ev) : EqRun Try.prog 33 (.agg (evC o).toArray) (.agg (evC o).toArray) true := by have h := run33 o o; rw [evEq_iff.2 rfl] at h; exact h
theorem run78s (o : Mk) : EqRun Try.prog 78 (.agg (mkC o).toArray) (.agg (mkC o).toArray) true := by have h := run78 o o; rw [mkEq_iff.2 rfl] at h; exact h
theorem run66s (o : Pt) : EqRun Try.prog 66 (.agg (ptC o).toArray) (.agg (ptC o).toArray) true := by have h := run66 o o; rw [ptEq_iff.2 rfl] at h; exact h
theorem run41s (o : Res) : EqRun Try.prog 41 (.agg (resC o).toArray) (.agg (resC o).toArray) true := by have h := run41 o o; rw [resEq_iff.2 rfl] at h; exact h
theorem run39s (o : Ot) : EqRun Try.prog 39 (.agg (outC o).toArray) (.agg (outC o).toArray) true := by have h := run39 o o; rw [otEq_iff.2 rfl] at h; exact h
theorem run46s (o : Mach) : EqRun Try.prog 46 (.agg (machC o).toArray) (.agg (machC o).toArray) true := by have h := run46 o o; rw [machEq_iff.2 rfl] at h; exact h

end Go.Proofs.Qxb6500919a
