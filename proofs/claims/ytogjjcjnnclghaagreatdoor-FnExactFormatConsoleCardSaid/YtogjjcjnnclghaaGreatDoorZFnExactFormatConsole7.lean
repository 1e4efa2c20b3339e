/- For every console the law FnExactFormatConsole answers true. No condition beyond what a reading tells.
This file (part 7 of 7) holds what the proof needs: plain functions with rounds and contracts written by programs of this work over the translation, and the lemmas. -/
import Derived.Test.YtogjjcjnnclghaaGreatDoorZFnExactFormatConsole5
import Derived.Test.YtogjjcjnnclghaaGreatDoorZFnExactFormatConsole6
import Derived.Test.YtogjjcjnnclghaaGreatDoorTie
import Derived.Test.YtogjjcjnnclghaaGreatDoorCards
import Derived.Test.YtogjjcjnnclghaaGreatDoorRows
import Derived.WalkKit
import Derived.ProofKit
import Derived.OpenShut
import Derived.ShutString
import Derived.ChangeOld
import Derived.Below
import Derived.SizedLaws
import Derived.Lib.SmallJoins
import Derived.LaidMore
import Derived.Stop.Joined
import Derived.Lib.LaidTab
import Derived.Lib.ItoaNum
import Derived.LaidSub
import Derived.Handed
import Derived.SevenTiedAt
set_option linter.unusedVariables false
namespace Go.Proofs.YtogjjcjnnclghaaGreatDoor.X
open Go.RowKit Go.Proofs.YtogjjcjnnclghaaGreatDoorW.PrintWords Go.Proofs.YtogjjcjnnclghaaGreatDoor.E
theorem laws_szRecord_ev (x : S25) (g0 : x.f0.length ≤ 9223372036854775807) (g1 : x.f1.length ≤ 9223372036854775807) (left : Int) (h0 : 0 ≤ left) (h1 : left ≤ 4611686018427387904) :
    Ev (fun k => laws_szRecord.f (x.f0) (x.f1) left) (if (((wt25 x) : Nat) : Int) ≤ left then left - (((wt25 x) : Nat) : Int) else -1) := by
  unfold laws_szRecord.f
  unfold wt25
  refine Ev.bind (laws_szContextS_ev _ (by assumption) _ (by omega) (by omega)) ?_
  by_cases c0 : ((x.f0.length : Nat) : Int) ≤ left
  case neg =>
    rw [if_neg c0]
    exact ev_pos (by omega) (ev_now (by first | rfl | rw [if_neg (by omega)]))
  rw [if_pos c0]
  refine ev_neg (by omega) ?_
  refine Ev.bind (laws_szRelationS_ev _ (by assumption) _ (by omega) (by omega)) ?_
  by_cases c1 : ((x.f1.length : Nat) : Int) ≤ (left - ((x.f0.length : Nat) : Int))
  case neg =>
    rw [if_neg c1]
    exact ev_pos (by omega) (ev_now (by first | rfl | rw [if_neg (by omega)]))
  rw [if_pos c1]
  refine ev_neg (by omega) ?_
  exact ev_now (by first | rfl | omega | (rw [if_pos (by omega)]; omega))
end Go.Proofs.YtogjjcjnnclghaaGreatDoor.X
set_option linter.unusedVariables false
namespace Go.Proofs.YtogjjcjnnclghaaGreatDoor.X
open Go.RowKit Go.Proofs.YtogjjcjnnclghaaGreatDoorW.PrintWords Go.Proofs.YtogjjcjnnclghaaGreatDoor.E
theorem laws_szDatedS_ev (x : List (S77)) (g0 : x.length ≤ 9223372036854775807) (left : Int) (h0 : 0 ≤ left) (h1 : left ≤ 4611686018427387904) :
    Ev (fun k => laws_szDatedS.f x left) (if ((x.length : Nat) : Int) ≤ left then left - ((x.length : Nat) : Int) else -1) := by
  unfold laws_szDatedS.f
  have e0 : wrap64 (left - ((x.length : Nat) : Int)) = left - ((x.length : Nat) : Int) := wrap_id (by omega) (by omega)
  simp only [e0]
  by_cases c : ((x.length : Nat) : Int) ≤ left
  case neg => exact ev_pos (by omega) (ev_now (by first | rfl | rw [if_neg (by omega)]))
  refine ev_neg (by omega) ?_
  exact ev_now (by first | rfl | rw [if_pos (by omega)])
end Go.Proofs.YtogjjcjnnclghaaGreatDoor.X
set_option linter.unusedVariables false
namespace Go.Proofs.YtogjjcjnnclghaaGreatDoor.X
open Go.RowKit Go.Proofs.YtogjjcjnnclghaaGreatDoorW.PrintWords Go.Proofs.YtogjjcjnnclghaaGreatDoor.E
theorem laws_szLog_ev (x : S28) (g0 : x.f0.size ≤ 9223372036854775807) (g1 : x.f1.size ≤ 9223372036854775807) (left : Int) (h0 : 0 ≤ left) (h1 : left ≤ 4611686018427387904) :
    Ev (fun k => laws_szLog.f (x.f0) (x.f1) (x.f2) left) (if (((wt28 x) : Nat) : Int) ≤ left then left - (((wt28 x) : Nat) : Int) else -1) := by
  unfold laws_szLog.f
  unfold wt28
  have e0 : wrap64 (left - ((x.f0.size : Nat) : Int)) = left - ((x.f0.size : Nat) : Int) := wrap_id (by omega) (by omega)
  simp only [e0]
  by_cases c0 : ((x.f0.size : Nat) : Int) ≤ left
  case neg =>
    exact ev_pos (by omega) (ev_now (by first | rfl | rw [if_neg (by omega)]))
  refine ev_neg (by omega) ?_
  have e1 : wrap64 ((left - ((x.f0.size : Nat) : Int)) - ((x.f1.size : Nat) : Int)) = (left - ((x.f0.size : Nat) : Int)) - ((x.f1.size : Nat) : Int) := wrap_id (by omega) (by omega)
  simp only [e1]
  by_cases c1 : ((x.f1.size : Nat) : Int) ≤ (left - ((x.f0.size : Nat) : Int))
  case neg =>
    exact ev_pos (by omega) (ev_now (by first | rfl | rw [if_neg (by omega)]))
  refine ev_neg (by omega) ?_
  exact ev_now (by first | rfl | omega | (rw [if_pos (by omega)]; omega))
end Go.Proofs.YtogjjcjnnclghaaGreatDoor.X
set_option linter.unusedVariables false
namespace Go.Proofs.YtogjjcjnnclghaaGreatDoor.X
open Go.RowKit Go.Proofs.YtogjjcjnnclghaaGreatDoorW.PrintWords Go.Proofs.YtogjjcjnnclghaaGreatDoor.E
theorem laws_szConsole_ev (x : S30) (g0 : x.f0.f0.length ≤ 9223372036854775807) (g1 : x.f0.f1.length ≤ 9223372036854775807) (g2 : x.f1.length ≤ 9223372036854775807) (g3 : x.f2.f0.size ≤ 9223372036854775807) (g4 : x.f2.f1.size ≤ 9223372036854775807) (left : Int) (h0 : 0 ≤ left) (h1 : left ≤ 4611686018427387904) :
    Ev (fun k => laws_szConsole.f (x.f0.f0) (x.f0.f1) (x.f1) (x.f2.f0) (x.f2.f1) (x.f2.f2) left) (if (((wt30 x) : Nat) : Int) ≤ left then left - (((wt30 x) : Nat) : Int) else -1) := by
  unfold laws_szConsole.f
  unfold wt30
  refine Ev.bind (laws_szRecord_ev _ (by assumption) (by assumption) _ (by omega) (by omega)) ?_
  by_cases c0 : (((wt25 x.f0) : Nat) : Int) ≤ left
  case neg =>
    rw [if_neg c0]
    exact ev_pos (by omega) (ev_now (by first | rfl | rw [if_neg (by omega)]))
  rw [if_pos c0]
  refine ev_neg (by omega) ?_
  refine Ev.bind (laws_szDatedS_ev _ (by assumption) _ (by omega) (by omega)) ?_
  by_cases c1 : ((x.f1.length : Nat) : Int) ≤ (left - (((wt25 x.f0) : Nat) : Int))
  case neg =>
    rw [if_neg c1]
    exact ev_pos (by omega) (ev_now (by first | rfl | rw [if_neg (by omega)]))
  rw [if_pos c1]
  refine ev_neg (by omega) ?_
  refine Ev.bind (laws_szLog_ev _ (by assumption) (by assumption) _ (by omega) (by omega)) ?_
  by_cases c2 : (((wt28 x.f2) : Nat) : Int) ≤ ((left - (((wt25 x.f0) : Nat) : Int)) - ((x.f1.length : Nat) : Int))
  case neg =>
    rw [if_neg c2]
    exact ev_pos (by omega) (ev_now (by first | rfl | rw [if_neg (by omega)]))
  rw [if_pos c2]
  refine ev_neg (by omega) ?_
  exact ev_now (by first | rfl | omega | (rw [if_pos (by omega)]; omega))
end Go.Proofs.YtogjjcjnnclghaaGreatDoor.X
set_option linter.unusedVariables false
namespace Go.Proofs.YtogjjcjnnclghaaGreatDoor.X
open Go.RowKit Go.Proofs.YtogjjcjnnclghaaGreatDoorW.PrintWords Go.Proofs.YtogjjcjnnclghaaGreatDoor.E
def conv100 (x : S100) : S79 := ⟨x.f0, x.f1⟩
theorem laws_toContext_ev (x : S100) : Ev (fun k => laws_toContext.f (x.f0) (x.f1)) ((conv100 x).f0, (conv100 x).f1) := by
  unfold laws_toContext.f
  exact ev_now rfl
end Go.Proofs.YtogjjcjnnclghaaGreatDoor.X
set_option linter.unusedVariables false
namespace Go.Proofs.YtogjjcjnnclghaaGreatDoor.X
open Go.RowKit Go.Proofs.YtogjjcjnnclghaaGreatDoorW.PrintWords Go.Proofs.YtogjjcjnnclghaaGreatDoor.E
theorem laws_toContextS_ev (x : List (S100)) (hb : x.length ≤ 1048576) : Ev (fun k => laws_toContextS.f k x) (x.map conv100) := by
  unfold laws_toContextS.f
  refine ev_pos (by omega) (ev_pos (by simp only [Int.toNat_natCast]; omega) ?_)
  simp only [Int.toNat_natCast]
  refine ev_fill (L := fun k o i => laws_toContextS.l0 k x o i) x conv100 _ (fun o => Ev.step (fun k => rfl) (ev_neg (by omega) (ev_now rfl))) ?_
  intro o i y r hi hx hd hl hk
  refine Ev.step (fun k => rfl) (ev_pos (by omega) (ev_pos (by omega) ?_))
  simp only [rd_T100, Int.toNat_natCast, hd]
  refine Ev.bind (laws_toContext_ev y) ?_
  refine ev_pos (by omega) ?_
  rw [wrap_succ hi (by omega)]
  exact hk
end Go.Proofs.YtogjjcjnnclghaaGreatDoor.X
set_option linter.unusedVariables false
namespace Go.Proofs.YtogjjcjnnclghaaGreatDoor.X
open Go.RowKit Go.Proofs.YtogjjcjnnclghaaGreatDoorW.PrintWords Go.Proofs.YtogjjcjnnclghaaGreatDoor.E
def conv102 (x : S102) : S82 := ⟨x.f0, x.f1⟩
theorem laws_toRelation_ev (x : S102) : Ev (fun k => laws_toRelation.f (x.f0) (x.f1)) ((conv102 x).f0, (conv102 x).f1) := by
  unfold laws_toRelation.f
  exact ev_now rfl
end Go.Proofs.YtogjjcjnnclghaaGreatDoor.X
set_option linter.unusedVariables false
namespace Go.Proofs.YtogjjcjnnclghaaGreatDoor.X
open Go.RowKit Go.Proofs.YtogjjcjnnclghaaGreatDoorW.PrintWords Go.Proofs.YtogjjcjnnclghaaGreatDoor.E
theorem laws_toRelationS_ev (x : List (S102)) (hb : x.length ≤ 1048576) : Ev (fun k => laws_toRelationS.f k x) (x.map conv102) := by
  unfold laws_toRelationS.f
  refine ev_pos (by omega) (ev_pos (by simp only [Int.toNat_natCast]; omega) ?_)
  simp only [Int.toNat_natCast]
  refine ev_fill (L := fun k o i => laws_toRelationS.l0 k x o i) x conv102 _ (fun o => Ev.step (fun k => rfl) (ev_neg (by omega) (ev_now rfl))) ?_
  intro o i y r hi hx hd hl hk
  refine Ev.step (fun k => rfl) (ev_pos (by omega) (ev_pos (by omega) ?_))
  simp only [rd_T102, Int.toNat_natCast, hd]
  refine Ev.bind (laws_toRelation_ev y) ?_
  refine ev_pos (by omega) ?_
  rw [wrap_succ hi (by omega)]
  exact hk
end Go.Proofs.YtogjjcjnnclghaaGreatDoor.X
set_option linter.unusedVariables false
namespace Go.Proofs.YtogjjcjnnclghaaGreatDoor.X
open Go.RowKit Go.Proofs.YtogjjcjnnclghaaGreatDoorW.PrintWords Go.Proofs.YtogjjcjnnclghaaGreatDoor.E
def conv25 (x : S25) : S36 := ⟨(x.f0.map conv100), (x.f1.map conv102)⟩
theorem laws_toRecord_ev (x : S25) (hb : (wt25 x) ≤ 1048576) : Ev (fun k => laws_toRecord.f k (x.f0) (x.f1)) ((conv25 x).f0, (conv25 x).f1) := by
  unfold laws_toRecord.f
  unfold wt25 at hb
  refine Ev.bind (laws_toContextS_ev x.f0 (by omega)) ?_
  refine Ev.bind (laws_toRelationS_ev x.f1 (by omega)) ?_
  exact ev_now rfl
end Go.Proofs.YtogjjcjnnclghaaGreatDoor.X
set_option linter.unusedVariables false
namespace Go.Proofs.YtogjjcjnnclghaaGreatDoor.X
open Go.RowKit Go.Proofs.YtogjjcjnnclghaaGreatDoorW.PrintWords Go.Proofs.YtogjjcjnnclghaaGreatDoor.E
def conv75 (x : S75) : S55 := ⟨x.f0, x.f1⟩
theorem laws_toInterval_ev (x : S75) : Ev (fun k => laws_toInterval.f (x.f0) (x.f1)) ((conv75 x).f0, (conv75 x).f1) := by
  unfold laws_toInterval.f
  exact ev_now rfl
end Go.Proofs.YtogjjcjnnclghaaGreatDoor.X
set_option linter.unusedVariables false
namespace Go.Proofs.YtogjjcjnnclghaaGreatDoor.X
open Go.RowKit Go.Proofs.YtogjjcjnnclghaaGreatDoorW.PrintWords Go.Proofs.YtogjjcjnnclghaaGreatDoor.E
def conv77 (x : S77) : S57 := ⟨x.f0, (conv75 x.f1)⟩
theorem laws_toDated_ev (x : S77) : Ev (fun k => laws_toDated.f (x.f0) (x.f1.f0) (x.f1.f1)) ((conv77 x).f0, (conv77 x).f1.f0, (conv77 x).f1.f1) := by
  unfold laws_toDated.f
  refine Ev.bind (laws_toInterval_ev x.f1) ?_
  exact ev_now rfl
end Go.Proofs.YtogjjcjnnclghaaGreatDoor.X
set_option linter.unusedVariables false
namespace Go.Proofs.YtogjjcjnnclghaaGreatDoor.X
open Go.RowKit Go.Proofs.YtogjjcjnnclghaaGreatDoorW.PrintWords Go.Proofs.YtogjjcjnnclghaaGreatDoor.E
theorem laws_toDatedS_ev (x : List (S77)) (hb : x.length ≤ 1048576) : Ev (fun k => laws_toDatedS.f k x) (x.map conv77) := by
  unfold laws_toDatedS.f
  refine ev_pos (by omega) (ev_pos (by simp only [Int.toNat_natCast]; omega) ?_)
  simp only [Int.toNat_natCast]
  refine ev_fill (L := fun k o i => laws_toDatedS.l0 k x o i) x conv77 _ (fun o => Ev.step (fun k => rfl) (ev_neg (by omega) (ev_now rfl))) ?_
  intro o i y r hi hx hd hl hk
  refine Ev.step (fun k => rfl) (ev_pos (by omega) (ev_pos (by omega) ?_))
  simp only [rd_T77, Int.toNat_natCast, hd]
  refine Ev.bind (laws_toDated_ev y) ?_
  refine ev_pos (by omega) ?_
  rw [wrap_succ hi (by omega)]
  exact hk
end Go.Proofs.YtogjjcjnnclghaaGreatDoor.X
set_option linter.unusedVariables false
namespace Go.Proofs.YtogjjcjnnclghaaGreatDoor.X
open Go.RowKit Go.Proofs.YtogjjcjnnclghaaGreatDoorW.PrintWords Go.Proofs.YtogjjcjnnclghaaGreatDoor.E
def conv28 (x : S28) : S38 := ⟨x.f0, x.f1, x.f2⟩
theorem laws_toLog_ev (x : S28) (hb : (wt28 x) ≤ 1048576) : Ev (fun k => laws_toLog.f (x.f0) (x.f1) (x.f2)) ((conv28 x).f0, (conv28 x).f1, (conv28 x).f2) := by
  unfold laws_toLog.f
  unfold wt28 at hb
  exact ev_now rfl
end Go.Proofs.YtogjjcjnnclghaaGreatDoor.X
set_option linter.unusedVariables false
namespace Go.Proofs.YtogjjcjnnclghaaGreatDoor.X
open Go.RowKit Go.Proofs.YtogjjcjnnclghaaGreatDoorW.PrintWords Go.Proofs.YtogjjcjnnclghaaGreatDoor.E
def conv30 (x : S30) : S40 := ⟨(conv25 x.f0), (x.f1.map conv77), (conv28 x.f2)⟩
theorem laws_toConsole_ev (x : S30) (hb : (wt30 x) ≤ 1048576) : Ev (fun k => laws_toConsole.f k (x.f0.f0) (x.f0.f1) (x.f1) (x.f2.f0) (x.f2.f1) (x.f2.f2)) ((conv30 x).f0.f0, (conv30 x).f0.f1, (conv30 x).f1, (conv30 x).f2.f0, (conv30 x).f2.f1, (conv30 x).f2.f2) := by
  unfold laws_toConsole.f
  unfold wt30 at hb
  refine Ev.bind (laws_toRecord_ev x.f0 (by omega)) ?_
  refine Ev.bind (laws_toDatedS_ev x.f1 (by omega)) ?_
  refine Ev.bind (laws_toLog_ev x.f2 (by omega)) ?_
  exact ev_now rfl
end Go.Proofs.YtogjjcjnnclghaaGreatDoor.X
set_option linter.unusedVariables false
namespace Go.Proofs.YtogjjcjnnclghaaGreatDoor.X
open Go.RowKit Go.Proofs.YtogjjcjnnclghaaGreatDoorW.PrintWords Go.Proofs.YtogjjcjnnclghaaGreatDoor.E
theorem laws_eqContext_ev (x : S79) : Ev (fun k => laws_eqContext.f (x.f0) (x.f1) (x.f0) (x.f1)) true := by
  unfold laws_eqContext.f
  repeat' (first | exact ev_now rfl | refine ev_pos rfl ?_ | refine ev_neg (by simp) ?_)
end Go.Proofs.YtogjjcjnnclghaaGreatDoor.X
set_option linter.unusedVariables false
namespace Go.Proofs.YtogjjcjnnclghaaGreatDoor.X
open Go.RowKit Go.Proofs.YtogjjcjnnclghaaGreatDoorW.PrintWords Go.Proofs.YtogjjcjnnclghaaGreatDoor.E
theorem laws_eqContextS_ev (x : List (S79)) (hl0 : x.length ≤ 9223372036854775807) : Ev (fun k => laws_eqContextS.f k x x) true := by
  unfold laws_eqContextS.f
  refine ev_pos rfl ?_
  refine ev_same (L := fun k i => laws_eqContextS.l0 k x x i) x.length (Ev.step (fun k => rfl) (ev_neg (by omega) (ev_now rfl))) ?_
  intro i hi hk
  refine Ev.step (fun k => rfl) (ev_pos (by omega) (ev_pos (by omega) (ev_pos (by omega) ?_)))
  refine Ev.bind (laws_eqContext_ev _) ?_
  refine ev_pos rfl ?_
  rw [wrap_succ hi (by omega)]
  exact hk
end Go.Proofs.YtogjjcjnnclghaaGreatDoor.X
set_option linter.unusedVariables false
namespace Go.Proofs.YtogjjcjnnclghaaGreatDoor.X
open Go.RowKit Go.Proofs.YtogjjcjnnclghaaGreatDoorW.PrintWords Go.Proofs.YtogjjcjnnclghaaGreatDoor.E
theorem laws_eqRelation_ev (x : S82) : Ev (fun k => laws_eqRelation.f (x.f0) (x.f1) (x.f0) (x.f1)) true := by
  unfold laws_eqRelation.f
  repeat' (first | exact ev_now rfl | refine ev_pos rfl ?_ | refine ev_neg (by simp) ?_)
end Go.Proofs.YtogjjcjnnclghaaGreatDoor.X
set_option linter.unusedVariables false
namespace Go.Proofs.YtogjjcjnnclghaaGreatDoor.X
open Go.RowKit Go.Proofs.YtogjjcjnnclghaaGreatDoorW.PrintWords Go.Proofs.YtogjjcjnnclghaaGreatDoor.E
theorem laws_eqRelationS_ev (x : List (S82)) (hl0 : x.length ≤ 9223372036854775807) : Ev (fun k => laws_eqRelationS.f k x x) true := by
  unfold laws_eqRelationS.f
  refine ev_pos rfl ?_
  refine ev_same (L := fun k i => laws_eqRelationS.l0 k x x i) x.length (Ev.step (fun k => rfl) (ev_neg (by omega) (ev_now rfl))) ?_
  intro i hi hk
  refine Ev.step (fun k => rfl) (ev_pos (by omega) (ev_pos (by omega) (ev_pos (by omega) ?_)))
  refine Ev.bind (laws_eqRelation_ev _) ?_
  refine ev_pos rfl ?_
  rw [wrap_succ hi (by omega)]
  exact hk
end Go.Proofs.YtogjjcjnnclghaaGreatDoor.X
set_option linter.unusedVariables false
namespace Go.Proofs.YtogjjcjnnclghaaGreatDoor.X
open Go.RowKit Go.Proofs.YtogjjcjnnclghaaGreatDoorW.PrintWords Go.Proofs.YtogjjcjnnclghaaGreatDoor.E
theorem laws_eqRecord_ev (x : S36) (hl0 : x.f0.length ≤ 9223372036854775807) (hl1 : x.f1.length ≤ 9223372036854775807) : Ev (fun k => laws_eqRecord.f k (x.f0) (x.f1) (x.f0) (x.f1)) true := by
  unfold laws_eqRecord.f
  repeat' (first | exact ev_now rfl | refine ev_pos rfl ?_ | refine ev_neg (by simp) ?_ | refine Ev.bind (laws_eqContextS_ev _ (by assumption)) ?_ | refine Ev.bind (laws_eqRelationS_ev _ (by assumption)) ?_)
end Go.Proofs.YtogjjcjnnclghaaGreatDoor.X
set_option linter.unusedVariables false
namespace Go.Proofs.YtogjjcjnnclghaaGreatDoor.X
open Go.RowKit Go.Proofs.YtogjjcjnnclghaaGreatDoorW.PrintWords Go.Proofs.YtogjjcjnnclghaaGreatDoor.E
theorem laws_eqInterval_ev (x : S55) : Ev (fun k => laws_eqInterval.f (x.f0) (x.f1) (x.f0) (x.f1)) true := by
  unfold laws_eqInterval.f
  repeat' (first | exact ev_now rfl | refine ev_pos rfl ?_ | refine ev_neg (by simp) ?_)
end Go.Proofs.YtogjjcjnnclghaaGreatDoor.X
set_option linter.unusedVariables false
namespace Go.Proofs.YtogjjcjnnclghaaGreatDoor.X
open Go.RowKit Go.Proofs.YtogjjcjnnclghaaGreatDoorW.PrintWords Go.Proofs.YtogjjcjnnclghaaGreatDoor.E
theorem laws_eqDated_ev (x : S57) : Ev (fun k => laws_eqDated.f (x.f0) (x.f1.f0) (x.f1.f1) (x.f0) (x.f1.f0) (x.f1.f1)) true := by
  unfold laws_eqDated.f
  repeat' (first | exact ev_now rfl | refine ev_pos rfl ?_ | refine ev_neg (by simp) ?_ | refine Ev.bind (laws_eqInterval_ev x.f1) ?_)
end Go.Proofs.YtogjjcjnnclghaaGreatDoor.X
set_option linter.unusedVariables false
namespace Go.Proofs.YtogjjcjnnclghaaGreatDoor.X
open Go.RowKit Go.Proofs.YtogjjcjnnclghaaGreatDoorW.PrintWords Go.Proofs.YtogjjcjnnclghaaGreatDoor.E
theorem laws_eqDatedS_ev (x : List (S57)) (hl0 : x.length ≤ 9223372036854775807) : Ev (fun k => laws_eqDatedS.f k x x) true := by
  unfold laws_eqDatedS.f
  refine ev_pos rfl ?_
  refine ev_same (L := fun k i => laws_eqDatedS.l0 k x x i) x.length (Ev.step (fun k => rfl) (ev_neg (by omega) (ev_now rfl))) ?_
  intro i hi hk
  refine Ev.step (fun k => rfl) (ev_pos (by omega) (ev_pos (by omega) (ev_pos (by omega) ?_)))
  refine Ev.bind (laws_eqDated_ev _) ?_
  refine ev_pos rfl ?_
  rw [wrap_succ hi (by omega)]
  exact hk
end Go.Proofs.YtogjjcjnnclghaaGreatDoor.X
set_option linter.unusedVariables false
set_option linter.unusedSimpArgs false
namespace Go.Proofs.YtogjjcjnnclghaaGreatDoor.Pure
open Go.RowKit Go.Proofs.YtogjjcjnnclghaaGreatDoor.X Go.Proofs.YtogjjcjnnclghaaGreatDoorW.PrintWords Go.Proofs.YtogjjcjnnclghaaGreatDoor.E
theorem evid_in {cs : List S79} {rs : List S82} {l : List S57} (hr : recOk cs rs = true) (h : evidB cs l = true) : EvIn l := by
  intro x hx
  obtain ⟨i, hi, rfl⟩ := List.getElem_of_mem hx
  have h1 := of_decide_eq_true (all_range.1 h i hi)
  have e : rd_T57 l (i : Int) = l[i] := by unfold rd_T57; rw [Int.toNat_natCast]; exact getD_in hi _
  obtain ⟨a, b, _⟩ := h1
  rw [e] at a b
  exact ⟨findC_in (recOk_spec hr).2.2.1 _ a, b.1, b.2.1⟩
theorem recText_size (cs : List S79) (rs : List S82) (h : recOk cs rs = true) : (recText cs rs).size ≤ 5000 := by
  obtain ⟨a, b, c, d⟩ := recOk_spec h
  have := nl_size (cs.map ctxLine ++ rs.map relLine) ⟨#[]⟩ 100 (fun y hy => by
    rcases List.mem_append.1 hy with hy | hy
    · obtain ⟨x, hx, rfl⟩ := List.mem_map.1 hy
      have := ctxLine_size x ⟨by have := c x hx; omega, by have := c x hx; omega⟩ (c x hx).2
      omega
    · obtain ⟨x, hx, rfl⟩ := List.mem_map.1 hy
      have := relLine_size x ⟨by have := d x hx; omega, by have := d x hx; omega⟩ ⟨by have := d x hx; omega, by have := d x hx; omega⟩
      omega)
  rw [List.length_append, List.length_map, List.length_map] at this
  have h0 : (⟨#[]⟩ : ByteArray).size = 0 := rfl
  unfold recText
  omega
theorem FnExactFormatConsole : PureFnExactFormatConsole := by
  intro x hx
  unfold laws_FnExactFormatConsole.f
  refine ev_get (Ev.bind (laws_szConsole_ev x hx.1.1.1 hx.1.2.1 hx.2.1.1 hx.2.2.1 hx.2.2.2.1 1048576 (by omega) (by omega)) ?_)
  by_cases c : (((wt30 x) : Nat) : Int) ≤ 1048576
  case neg => rw [if_neg c]; exact ev_pos (by omega) (ev_now rfl)
  rw [if_pos c]
  refine ev_neg (by omega) ?_
  have hwt : wt30 x = x.f0.f0.length + x.f0.f1.length + x.f1.length + (x.f2.f0.size + x.f2.f1.size) := rfl
  have hto := laws_toConsole_ev x (by omega)
  have hl0 : (conv30 x).f0.f0.length = x.f0.f0.length := List.length_map ..
  have hl1 : (conv30 x).f0.f1.length = x.f0.f1.length := List.length_map ..
  have hl2 : (conv30 x).f1.length = x.f1.length := List.length_map ..
  have hz0 : (conv30 x).f2.f0 = x.f2.f0 := rfl
  have hz1 : (conv30 x).f2.f1 = x.f2.f1 := rfl
  generalize hy : conv30 x = y at hto hl0 hl1 hl2 hz0 hz1
  obtain ⟨b, h1, h2, h3⟩ := cons_ev2 y.f0.f0 y.f0.f1 y.f1 (by omega) y.f2.f0 y.f2.f1 y.f2.f2 (by rw [hz0, hz1]; omega)
  have heqC : Ev (fun k => laws_eqConsole.f k y.f0.f0 y.f0.f1 y.f1 y.f2.f0 y.f2.f1 y.f2.f2 y.f0.f0 y.f0.f1 y.f1 y.f2.f0 y.f2.f1 y.f2.f2) true := by
    unfold laws_eqConsole.f
    refine Ev.bind (laws_eqRecord_ev y.f0 (by omega) (by omega)) (ev_pos rfl (Ev.bind (laws_eqDatedS_ev y.f1 (by omega)) (ev_pos rfl (ev_bind0 (show laws_eqLog.f y.f2.f0 y.f2.f1 y.f2.f2 y.f2.f0 y.f2.f1 y.f2.f2 = some true from ?_) (ev_pos rfl (ev_now rfl))))))
    unfold laws_eqLog.f
    rw [if_pos rfl, if_pos rfl, if_pos rfl]
  have hv : ∃ v, Ev (fun k => spec_FormatConsole.f k y.f0.f0 y.f0.f1 y.f1 y.f2.f0 y.f2.f1 y.f2.f2) v ∧ Ev (fun k => impl_FormatConsole.f k y.f0.f0 y.f0.f1 y.f1 y.f2.f0 y.f2.f1 y.f2.f2) v := by
    unfold spec_FormatConsole.f impl_FormatConsole.f
    cases b
    · exact ⟨((⟨#[]⟩ : ByteArray), false), Ev.bind h1 (ev_neg (by simp) (ev_now rfl)), Ev.bind h2 (ev_neg (by simp) (ev_now rfl))⟩
    · obtain ⟨hr, he⟩ := h3 rfl
      obtain ⟨a, b, c, d⟩ := recOk_spec hr
      have hin := evid_in hr he
      have z1 := recText_size _ _ hr
      have z2 := evText_size _ hin
      have hrec : Ev (fun k => impl_RecordToEnglish.f k y.f0.f0 y.f0.f1) (recText y.f0.f0 y.f0.f1, true) := Ev.bind (implRecord_ev _ _) (ev_pos hr (implCtxText_ev _ _ (fun x hx => ⟨⟨by have := c x hx; omega, by have := c x hx; omega⟩, (c x hx).2⟩) a (fun x hx => ⟨⟨by have := d x hx; omega, by have := d x hx; omega⟩, ⟨by have := d x hx; omega, by have := d x hx; omega⟩⟩) b))
      exact ⟨(recText y.f0.f0 y.f0.f1 ++ evText y.f1, true), Ev.bind h1 (ev_pos rfl (Ev.bind (specCtxText_ev _ _ c a d b) (Ev.bind (specEvText_ev y.f1 hin (by omega)) (ev_pos (by omega) (ev_now rfl))))), Ev.bind h2 (ev_pos rfl (Ev.bind hrec (Ev.bind (implEvLines_ev y.f1 hin (by omega)) (Ev.bind (implEvText_ev y.f1 hin (by omega)) (ev_pos (show (recText y.f0.f0 y.f0.f1).size + (evText y.f1).size ≤ _ by omega) (ev_now rfl))))))⟩
  obtain ⟨v, g1, g2⟩ := hv
  refine Ev.bind hto (Ev.bind g1 (Ev.bind hto (Ev.bind g2 (ev_pos rfl ?_))))
  exact Ev.step (fun k => rfl) (ev_neg (by simp) (Ev.bind hto (Ev.bind heqC (ev_pos rfl (ev_now rfl)))))
end Go.Proofs.YtogjjcjnnclghaaGreatDoor.Pure
namespace Go.Proofs.YtogjjcjnnclghaaGreatDoor.fnExactFormatConsole
open Go.ChangeShapes Go.WideShapes Go.ChangeAt Go.RowKit Go.Joins Go.Proofs.YtogjjcjnnclghaaGreatDoorW.PrintWords Go.Proofs.YtogjjcjnnclghaaGreatDoor.Open Go.Proofs.YtogjjcjnnclghaaGreatDoor.X
open Go.ChangeMaps (open_string shut_string)
set_option linter.unusedVariables false
theorem own : ownKnob Tryz.prog.godebug = none := by kernel_rfl
def laid : List (String × DataW Unit) := [("math/bits.deBruijn32tab", Rows.laid_math_bits_deBruijn32tab), ("math/bits.deBruijn64tab", Rows.laid_math_bits_deBruijn64tab), ("internal/strconv.uint64pow10", Rows.laid_internal_strconv_uint64pow10)]
theorem door_met (os : Os) (args : Array Value) : laidMetH Tryz.prog laid ((World.doorLaid Tryz.prog 24 os).forCall (fun _ _ => 0) ⟨#[], args, []⟩).memory :=
  laidMetH_of_parts3 (fuel := 8) (laidMet_of_run' 8 (by kernel_rfl) (by kernel_rfl)) (by kernel_rfl) (by kernel_rfl)
theorem gTab : Tryz.prog.globalNamed "internal/strconv.uint64pow10" = some 0 := by kernel_rfl
theorem gTabType : (Tryz.prog.globals[0]?).map (·.type) = some 140 := by kernel_rfl
theorem cellsT : Tryz.prog.cellsOf 140 = 20 := by kernel_rfl
theorem cellsE : Tryz.prog.cellsOf 127 = 1 := by kernel_rfl
theorem only : laid.filter (fun x => x.1 == "internal/strconv.uint64pow10") = [("internal/strconv.uint64pow10", Lib.tabData .u64 Lib.pow10Tab)] := by kernel_rfl
theorem table {W : World} (h : laidMetH Tryz.prog laid W) : GT W := by
  have h2 := h.filter (fun x => x.1 == "internal/strconv.uint64pow10")
  rw [only] at h2
  rw [MakeChecks.laidMetH_plain _ _ _ (by kernel_rfl)] at h2
  exact Lib.tabIs_of_head (rest := []) gTab gTabType Tryz.underlying140 Tryz.underlying127 cellsE cellsT h2
theorem laidOut : laidOutB Tryz.prog = true := by kernel_rfl
set_option maxRecDepth 100000 in
theorem lifted (os : Os) (started : os.Started) (H : Type) (enc : TypeId × Value → H) :
    ReturnsInHanded {} Tryz.checked os 4 .any (fun w args => (Rows.fnExactFormatConsoleSpec.pre enc Tryz.prog Tryz.f4 [] false w args ∧ laidMetH Tryz.prog laid w) ∧ sizedMet enc Tryz.prog Tryz.f4 (OpenSpec.ofChange Rows.fnExactFormatConsoleSpec) false w args)
      (Rows.fnExactFormatConsoleSpec.post enc Tryz.prog Tryz.f4 false true false false) := by
  refine returnsInHanded_of_change_and (C := Tryz.checked) (X := fun w _ => laidMetH Tryz.prog laid w) (fun _ _ _ hh h => h.of_heap hh) own started (by kernel_rfl) Tryz.func4
    (ChangeSpec.witness_shaped (enc := enc) (C := Tryz.checked) (os := os) (X := fun w _ => laidMetH Tryz.prog laid w) false (World.doorLaid Tryz.prog 24 os) #[.agg #[.slice none 0 0, .slice none 0 0, .slice none 0 0, .string ByteArray.empty, .string ByteArray.empty, .int .i64 0]] 8 rfl (World.shaped_of_RefB (by kernel_rfl) (by kernel_rfl)) (by kernel_rfl) (by kernel_rfl) (by kernel_rfl) (door_met os _)) ?_
  intro W base args ds gs before hval0 hW hcnd hsz0 hL _
  have hval : ∀ (j : Nat) t v, Tryz.f4.params[j]? = some t → args[j]? = some v → Value.okWide Tryz.prog W .any base t v := hval0
  have hW' := hW
  obtain ⟨p, q, hA0, hV, rfl, hfz, hnd⟩ := hW
  have hA : DataW.TrodAll enc Tryz.prog W 0 (fun _ => true) true Tryz.f4.params.toList args.toList ds p := hA0
  rw [Tryz.params4] at hA hval
  obtain ⟨v0, vs0, d0, ds0, p0, q0, hargs, rfl, rfl, h0, r0⟩ := trodAll_cons hA
  obtain ⟨rfl, rfl, rfl⟩ := trodAll_nil r0
  obtain rfl : args = #[v0] := by cases args; simp_all
  obtain ⟨rfl, rfl⟩ := trodVars_none hV
  have kk0 := h0
  have lt0 : ∀ x ∈ p0, x.block < W.heap.size := by obtain ⟨m, hm⟩ := kk0; exact DataW.trod_lt m _ _ _ hm
  obtain ⟨a0, cs0, rfl, hK0, g0⟩ := arg_agg op30 (by obtain ⟨cs, e, _⟩ := okWide_struct Tryz.underlying30 (hval 0 30 v0 rfl rfl); exact ⟨cs, e⟩) h0
  obtain ⟨A0_0, c0_0, A0_1, c0_1, A0_2, c0_2, he0, hc0_0, hr0_0, hc0_1, hr0_1, hc0_2, hr0_2⟩ := k30_open hK0
  obtain rfl : cs0 = #[.slice A0_0 a0.f0.f0.length c0_0, .slice A0_1 a0.f0.f1.length c0_1, .slice A0_2 a0.f1.length c0_2, .string a0.f2.f0, .string a0.f2.f1, .int .i64 a0.f2.f2] := by cases cs0; simp_all
  clear hA0 hval0 hsz0
  obtain ⟨k, hk⟩ := Pure.FnExactFormatConsole a0 g0
  refine (X.laws_FnExactFormatConsole.calls k _ _ a0.f0.f0 _ _ a0.f0.f1 _ _ a0.f1 _ _ _ true W hr0_0 hc0_0 hr0_1 hc0_1 hr0_2 hc0_2 (table hL) hk (Aside0.mk rfl)).mono ?_
  rintro e W' ⟨he, bel0⟩
  have bel : Below W.heap.size W W' := by first | exact bel0 | exact bel0.below
  subst he
  exact ⟨_, rfl, _, _, _, [], _, [], hW', trodAll_mk1 (shut_bool Tryz.underlying4 _), (trodAll_cons_mk (Below.trod laidOut (by kernel_rfl) (of_decide_eq_true (by kernel_rfl)) kk0 bel lt0) trodAll_mk0), rfl, bel.frame _, fun h => by cases h⟩
theorem over : Rows.fnExactFormatConsoleRow.holds Tryz.pinned (OpenSpec.ofChange Rows.fnExactFormatConsoleSpec) :=
  OpenClaim.holds_of_wide 4 Tryz.f4 rfl rfl rfl rfl rfl rfl rfl ⟨rfl, rfl, rfl, rfl, rfl⟩ rfl rfl rfl rfl rfl (by kernel_rfl) Tryz.func4 (by kernel_rfl)
    (of_decide_eq_true (by kernel_rfl)) (by unfold Func.isWrapper; first | (rw [if_pos (by decide +kernel)]; kernel_rfl) | (rw [if_neg (by decide +kernel)]; exact ⟨rfl, rfl⟩))
    (fun os started H enc _ => lifted os started H enc)
theorem proved : Rows.FnExactFormatConsoleSaid := over
#print axioms proved
theorem plain (f : FuncId) (fn : Func) (hf : Tryz.pinned.checked.prog.funcNamed "loop.example/g00876/laws.FnExactFormatConsole" = some f) (hfn : Tryz.pinned.checked.prog.funcs[f]? = some fn) :
    false = Tryz.pinned.checked.prog.looks [] ∧ ∀ (j : Nat) t, fn.params[j]? = some t → Tryz.pinned.checked.prog.wantsStandIn t = false := by
  obtain rfl : f = 4 := Option.some.inj ((show Tryz.prog.funcNamed "loop.example/g00876/laws.FnExactFormatConsole" = some 4 by kernel_rfl).symm.trans hf) |>.symm
  obtain rfl : fn = Tryz.f4 := (Option.some.inj (Tryz.func4.symm.trans hfn)).symm
  refine ⟨by kernel_rfl, fun j t ht => ?_⟩
  rw [Tryz.params4] at ht
  have hm := Array.mem_of_getElem? ht
  simp only [List.mem_toArray, List.mem_cons, List.not_mem_nil, or_false] at hm
  rcases hm with rfl
  exact (show Tryz.prog.wantsStandIn 30 = false by kernel_rfl)
theorem card : Rows.FnExactFormatConsoleCardSaid :=
  Claim7.holds_tied_plain_at .later [] _ _ _ _ proved (fun _ h => by cases h) (by kernel_rfl) (fun _ h => by cases h) fnExactFormatConsole_row_tie rfl ⟨rfl, rfl⟩ (by kernel_rfl) rfl plain (by kernel_rfl)
#print axioms card
end Go.Proofs.YtogjjcjnnclghaaGreatDoor.fnExactFormatConsole
namespace Go.Proofs.YtogjjcjnnclghaaGreatDoor
/-- The row, under a short name, for the claim. -/
theorem fnExactFormatConsole_holds : Rows.FnExactFormatConsoleSaid := fnExactFormatConsole.proved
/-- The card, under a short name. -/
theorem fnExactFormatConsoleCard_holds : Rows.FnExactFormatConsoleCardSaid := fnExactFormatConsole.card
end Go.Proofs.YtogjjcjnnclghaaGreatDoor
