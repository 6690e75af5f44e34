/- exploration only, never handed in -/
import Derived.WalkKit
open Lean Elab Tactic Meta
def pkCore (hy : Bool) (all : Bool := false) : TacticM Unit := do
  let gs ← getGoals
  let mut i := 0
  for g in gs do
    i := i + 1
    g.withContext do
      let mut s : String := s!"--- goal {i}/{gs.length}\n"
      for d in ← getLCtx do
        if d.isImplementationDetail then continue
        let ty ← instantiateMVars d.type
        if ty.isForall then continue
        if ty.isSort then continue
        unless (← isProp ty) do continue
        unless hy do continue
        let f ← ppExpr ty
        s := s ++ s!"{d.userName} : {(toString f).take 200}\n"
      let t := (← instantiateMVars (← g.getType)).consumeMData
      let args := t.getAppArgs
      if t.isAppOf ``Go.Calls then
        s := s ++ s!"⊢ CALL {← ppExpr args[1]!} ARGS {← ppExpr args[2]!}\n WORLD {← ppExpr args[3]!}"
      else if t.isAppOf ``Go.Code.wp then
        s := s ++ s!"⊢ WP {((toString (← ppExpr args[1]!)).take 400)}\n ACT {← ppExpr args[3]!}\n WORLD {← ppExpr args[4]!}"
      else if t.isAppOf ``Go.wpList then
        s := s ++ s!"⊢ WPLIST {((toString (← ppExpr args[3]!)).take 500)}\n ACT {← ppExpr args[4]!}\n WORLD {← ppExpr args[5]!}"
      else if t.isAppOf ``Go.bodyPost then
        s := s ++ s!"⊢ BODYPOST {((toString (← ppExpr args[2]!)).take 300)}\n EXIT {← ppExpr args[3]!} ACT {← ppExpr args[4]!}\n WORLD {← ppExpr args[5]!}"
      else if t.isAppOf ``Go.Oper.upon then
        s := s ++ s!"⊢ UPON {((toString (← ppExpr args[1]!)).take 400)}\n ACT {← ppExpr args[2]!}\n RES {(toString (← ppExpr t.appArg!)).take 1500}"
      else if #["Go.bodyPostM", "Go.Exit.then", "Go.Exit.inBlock", "Go.Exit.inScope"].contains (toString t.getAppFn.constName) then
        s := s ++ s!"⊢ {t.getAppFn} \n WORLD {(toString (← ppExpr t.appArg!)).take 1500}"
      else
        s := s ++ s!"⊢ {(toString (← ppExpr t)).take 1500}"
      logInfo s
    if i ≥ 1 && !all then return

elab "pk" : tactic => pkCore false
elab "pkh" : tactic => pkCore true
elab "pka" : tactic => pkCore false true
