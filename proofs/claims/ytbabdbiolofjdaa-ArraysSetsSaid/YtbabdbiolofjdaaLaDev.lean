import Lean
import Derived.Test.YtbabdbiolofjdaaOps
open Lean Elab Tactic Meta
namespace Go.LA
partial def envShow (e : Lean.Expr) (seen : List String) : MetaM (List MessageData) := do
  let e := e.consumeMData
  if e.isAppOfArity ``List.cons 3 then
    let p := (e.getArg! 1).consumeMData
    let r := e.getArg! 2
    if p.isAppOfArity ``Prod.mk 4 then
      let k ← ppExpr (p.getArg! 2)
      let ks := toString k
      let v := (p.getArg! 3).consumeMData
      if seen.contains ks then envShow r seen else
        let rest ← envShow r (ks :: seen)
        let v' := if v.isAppOfArity ``AD.val 1 then v.getArg! 0 else v
        let vs := (← ppExpr v').pretty 3000
        let vs := (vs.replace "Value.int IntKind." "").replace "Value." "" |>.replace "\n" " "
        if vs == "undef" then return rest else return m!"{ks}↦{vs}" :: rest
    else return [m!"{p}"] ++ (← envShow r seen)
  else if e.isAppOfArity ``List.nil 1 then return []
  else return [m!"{e}"]
/-- dev only: a short view of each goal -/
elab "la_show" : tactic => do
  for g in ← getGoals do
    g.withContext do
      let mut hyps : Array MessageData := #[]
      for d in ← getLCtx do
        if d.isImplementationDetail then continue
        let ty ← instantiateMVars d.type
        if (← isProp ty) && d.userName.toString != "hK" then hyps := hyps.push m!"{d.userName} : {(← ppExpr ty).pretty 3000}"
      let t := (← instantiateMVars (← g.getType)).consumeMData
      let a := t.getAppArgs
      let envM (e : Lean.Expr) : MetaM MessageData := do
        let l ← envShow e []
        pure (MessageData.joinSep l "; ")
      let view : MessageData ← match t.getAppFn.constName? with
        | some ``LA => do
          let rest := a[4]!
          let o := if rest.isAppOfArity ``List.cons 3 then m!"{rest.getArg! 1}" else m!"(end)"
          pure m!"LA at {o}\nE = {← envM a[5]!}"
        | some ``CX => do
          let c := a[3]!
          let hd := c.getAppFn.constName?.map (fun n => n.toString) |>.getD "?"
          let arg := if hd == "Go.Code.cond" then m!"{c.getArg! 0}" else m!""
          pure m!"CX at {hd} {arg}\nE = {← envM a[4]!}"
        | some ``PX => do
          let Q := a[2]!
          let hd := Q.getAppFn.constName?.map (fun n => n.toString) |>.getD "?"
          let hd2 := if hd == "Go.Exit.then" then (Q.getArg! 0).getAppFn.constName?.map (fun n => n.toString) |>.getD "?" else ""
          pure m!"PX at {hd} {hd2} exit {a[3]!}\nE = {← envM a[4]!}"
        | some ``LX => do
          let rest := a[5]!
          let o := if rest.isAppOfArity ``List.cons 3 then m!"{rest.getArg! 1}" else m!"(end)"
          pure m!"LX at {o}\nE = {← envM a[6]!}"
        | _ => pure m!"{t}"
      logInfo m!"{MessageData.joinSep hyps.toList " ‖ "}\n⊢ {view}"
end Go.LA
