/-
  The system call and the step, as plain functions.
-/
import Derived.Test.Qxb6500918aDoorLa
import Derived.Test.Qxb6500918aDoorKs
namespace Go.Kn
open Go.Sx

def drawP (S : KP) (d : Int) : KP :=
  let S1 := S.setT S.cur.toNat { S.tcb S.cur.toNat with m0 := d, m1 := 0, m2 := 0, m3 := 0 }
  S1.setT S.cur.toNat { S1.tcb S.cur.toNat with len := 1 }

def sigP (S : KP) (C : CP) (ev : Ev) : KP × Int :=
  let f := findP S C ev.addr 5 2
  if f.2.2 = 0 then (signalP S f.1.obj f.1.badge, f.2.2) else (S, f.2.2)

noncomputable def sysP (S : KP) (C : CP) (ev : Ev) (ou : Outp) : KP × CP × Outp × Int :=
  if ev.kind = 2 then (wakeP S S.cur, C, ou, 0) else
  if ev.kind = 3 then (drawP S ev.draw, C, reportP (drawP S ev.draw) ou, 0) else
  if ev.kind = 4 ∨ ev.kind = 5 then ((sendP S C ev).1, (sendP S C ev).2.1, ou, (sendP S C ev).2.2) else
  if ev.kind = 6 then recvP S C ev ou else
  if ev.kind = 7 then ((replyP S C ev).1, C, ou, (replyP S C ev).2) else
  if ev.kind = 8 then ((sigP S C ev).1, C, ou, (sigP S C ev).2) else
  if ev.kind = 9 then ((waitP S C ev ou).1, C, (waitP S C ev ou).2.1, (waitP S C ev ou).2.2) else
  if ev.kind = 10 then (S, (retypeP S C ev).1, ou, (retypeP S C ev).2) else
  if ev.kind = 11 then (S, (copyCapP S C ev).1, ou, (copyCapP S C ev).2) else
  if ev.kind = 12 ∨ ev.kind = 13 then ((dropP S C ev).1, (dropP S C ev).2.1, ou, (dropP S C ev).2.2) else
  if ev.kind = 18 ∨ ev.kind = 19 then ((lineP S C ev).1, C, ou, (lineP S C ev).2) else
  ((controlP S C ev).1, C, ou, (controlP S C ev).2)

noncomputable def step0 (S : KP) (C : CP) (ev : Ev) : KP × CP × Outp :=
  if ev.kind = 0 then
    let S1 : KP := { S with now := IntKind.wrap .u64 (S.now + 1) }
    (if S1.cur ≠ -1 then wakeP S1 S1.cur else S1, C, out0)
  else if ev.kind = 1 then ((interruptP S C ev.arg).1, C, { out0 with code := (interruptP S C ev.arg).2 })
  else if ev.kind ≥ 20 then (S, C, { out0 with code := 16 })
  else if S.cur = -1 then (S, C, { out0 with code := 1 })
  else ((sysP S C ev out0).1, (sysP S C ev out0).2.1, { (sysP S C ev out0).2.2.1 with code := (sysP S C ev out0).2.2.2 })

noncomputable def stepP (S : KP) (C : CP) (ev : Ev) : KP × CP × Outp :=
  let r := step0 S C ev
  if r.2.2.code = 0 then (schedP r.1 ev.pick, r.2.1, { r.2.2 with run := refP r.2.1.ent (schedP r.1 ev.pick).cur })
  else (r.1, r.2.1, { r.2.2 with run := refP r.2.1.ent r.1.cur })

end Go.Kn
