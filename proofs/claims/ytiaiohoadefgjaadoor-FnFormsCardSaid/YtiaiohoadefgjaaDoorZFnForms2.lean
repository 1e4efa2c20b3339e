/- For every row of bytes the law FnForms answers true: forms are recovered from their texts. No condition.
This file (part 2 of 7) holds what the proof needs: plain functions with rounds and contracts written by programs of this work over the translation, and the lemmas. -/
import Derived.Test.YtiaiohoadefgjaaDoorProg
import Derived.Below
import Derived.Deep.Draws
import Derived.Deep.AppendLies
import Derived.Maps.AppendAt
import Derived.OwnWalk
import Derived.Laws.BytesArg
import Derived.Laws.MakeOwn
import Derived.Laws.OwnMore
import Derived.Deep.OwnRows
import Derived.Tactics
import Derived.Lib.ConvBytes
import Derived.Laws.Slices
import Derived.WalkKit
import Derived.KernelRfl
import Derived.RowKit3
import Derived.Deep.LoopGhost
import Derived.Deep.QuietTactic
import Derived.BigQuiet
import Derived.WideLaws
import Derived.Deep.DeepCutAuto
import Derived.Deep.CutBlock
import Derived.Deep.RegionHeld3
import Derived.Laws.Rows
import Derived.Lib.AppendStr
import Derived.ArgAppend
import Derived.Laws.IdiomCopy
import Derived.OrdersHeld
import Derived.Laws.BitsLemmas
import Derived.RowKit
import Derived.Test.YtiaiohoadefgjaaDoorZFnForms1
import Derived.Lib.SmallJoins
import Derived.Lib.ItoaMem
import Derived.IntWalk
import Derived.Shelf.Abstract
namespace Go.Proofs.YtiaiohoadefgjaaDoor.X
open Go.RowKit Go.Proofs.YtiaiohoadefgjaaDoorW.PrintWords Go.Proofs.YtiaiohoadefgjaaDoorW.PrintLast Go.Proofs.YtiaiohoadefgjaaDoorW.PrintMore
attribute [local go_sem] max2_int min2_int max_two min_two max_three min_three max_four min_four
set_option linter.unusedVariables false
set_option linter.unusedSimpArgs false
attribute [-simp] ByteArray.size_append ByteArray.size_extract
attribute [-go_sem] ByteArray.size_append'
def errW : Option Int → Value
 | none => .nilIface
 | some c => .iface 0 (.int .i64 c)
theorem errW_none : errW none = .nilIface := rfl
theorem errW_some (c : Int) : errW (some c) = .iface 0 (.int .i64 c) := rfl
theorem aS1 {α : Type} (l : List α) (i : Nat) (a : α) : l.toArray.setIfInBounds i a = (l.set i a).toArray := List.setIfInBounds_toArray l i a
theorem aS2 {α : Type} {x : α} {xs : List α} {a : α} : (x :: xs).set 0 a = a :: xs := List.set_cons_zero
theorem aS3 {α : Type} {x : α} {xs : List α} {i : Nat} {a : α} : (x :: xs).set (i + 1) a = x :: xs.set i a := List.set_cons_succ
theorem aM1 {α β : Type} {f : α → β} {l : List α} : Array.map f l.toArray = (List.map f l).toArray := List.map_toArray
theorem aM2 {α β : Type} {f : α → β} {a : α} {l : List α} : List.map f (a :: l) = f a :: List.map f l := List.map_cons
theorem aM3 {α β : Type} {f : α → β} : List.map f [] = [] := List.map_nil
theorem bltc (w : World) (a : Addr) {u : Value} (h : w.cell? a = some u) : a.block < w.heap.size := World.block_lt_of_cell? w a h
theorem cz {w : World} {g : Nat} {t : TypeId} {cs : Array Value} (h : w.heap[g]? = some (.cells cs t (0, 0))) (i : Nat) {v : Value} (hv : cs[i]? = some v := by rfl) : w.cell? ⟨g, i, none⟩ = some v := (blk_cell h i).trans hv
theorem gL {P : Program} {ops : Array Oper} {Q : Exit → Act → World → Prop} {rest : List Oper} {oi : Oper} {a : Act} {w : World} (N : Option Tmp) {f : FuncId} {fn : Func} {as_ : Array Operand} {ts : Array TypeId} (hf : P.funcs[f]? = some fn) (args : Array Value) (h : Calls P f args w fun e w' => ∃ v, e = .returned v ∧ wpList P ops Q rest (a.put N v) w')
  (hd : oi.dst = N := by rfl) (hg : oi.guard = none := by rfl) (hname : (fn.name == "runtime.NumGoroutine") = false := by kernel_rfl) (hb : fn.body.isSome = true := by rfl) (hop : oi.op = .call { callee := .value (.func f), args := as_, argTypes := ts } := by rfl) (hargs : as_.map a.eval = args := by ((try simp only [aM1, aM2, aM3]); first | done | rfl | (simp only [List.length_drop, List.length_take]; rfl))) : wpList P ops Q (oi :: rest) a w := goesL_ N hd hg hf hname hb args hop hargs h
theorem bz {b : Nat} {w W w' : World} (h : Below b w W) (_ : Below W.heap.size W w') : Below b w W := h
abbrev cA := @Kd.C_alloc
abbrev cN := @Kd.C_drewN
abbrev cD := @Kd.C_drew
abbrev rA := @Kd.R_alloc
abbrev rN := @Kd.R_drewN
abbrev rD := @Kd.R_drew
abbrev bA := @below_alloc
abbrev bN := @pw_below_drewN
abbrev bD := @below_drew1
abbrev kN := @blk_drewN
abbrev kD := @blk_drew
abbrev kA := @blk_alloc
def cb (n m : Nat) : Array Bool := ((List.range n).map (fun i => m.testBit i)).toArray
def cn (n i : Nat) : Array Bool := (List.replicate i true ++ List.replicate (n - i) false).toArray
theorem pA (i : Nat) (l' : Array Bool) (N : Option Tmp) {P : Program} {md : Region.Mode} {ops : Array Oper} {Q : Exit → Act → World → Prop} {S : World → Prop} {ds : List Nat} {T : Bool × List (List Nat × List Nat)} (HT : Aside0 (rtab md ops = T)) {oi : Oper} {v : Value} {fuel : Nat} {l : Array Bool} {a : Act} {w : World} (hi : ops[i]? = some oi) (hN : oi.dst = N) (hc : anyT T l.toList l'.toList i = true) (hQ : ∀ c a w, Q (.panic c) (a.put oi.dst v) w → Q (.panic c) a w) (hy : Yields P ops oi v a) {a' : Act} (ha : a.put N v = a') (h : wpAnyLast P md ops Q S ds fuel l' a' w) : wpAnyLast P md ops Q S ds (fuel + 1) l a w := pure_ (i := i) (N := N) l' hi hN (any_of HT.out hc) hQ hy ha h
theorem tA (i : Nat) (l' : Array Bool) (N : Option Tmp) {P : Program} {md : Region.Mode} {ops : Array Oper} {Q : Exit → Act → World → Prop} {S : World → Prop} {ds : List Nat} {T : Bool × List (List Nat × List Nat)} {B : List Nat} (HT : Aside0 (rtab md ops = T)) (HW : Aside0 (waitsOk T.2 B = true)) {oi : Oper} {v : Value} {fuel : Nat} {l : Array Bool} {a : Act} {w : World} (hi : ops[i]? = some oi) (hN : oi.dst = N) (hc : takeW T B ds l.toList l'.toList i = true) (hQ : ∀ c a w, Q (.panic c) (a.put oi.dst v) w → Q (.panic c) a w) (hy : YieldsIf P ops S oi v a) (hS : S w) {a' : Act} (ha : a.put N v = a') (h : wpAnyLast P md ops Q S ds fuel l' a' w) : wpAnyLast P md ops Q S ds (fuel + 1) l a w := take_ (i := i) (N := N) l' hi hN (take_ofW HT.out HW.out hc) hQ hy hS ha h
theorem pB (i : Nat) (l' : Array Bool) (N : Option Tmp) {P : Program} {md : Region.Mode} {ops : Array Oper} {Q : Exit → Act → World → Prop} {S : World → Prop} {ds : List Nat} {T : Bool × List (List Nat × List Nat)} (HT : Aside0 (rtab md ops = T)) {oi : Oper} {v : Value} {fuel : Nat} {l : Array Bool} {a a' : Act} {w : World}
  (hi : ops[i]? = some oi := by rfl) (hN : oi.dst = N := by rfl) (hc : anyT T l.toList l'.toList i = true := by kernel_rfl) (hQ : ∀ c a w, Q (.panic c) (a.put oi.dst v) w → Q (.panic c) a w := by exact fun _ _ _ h => h)
  (hw : Region.wanted oi (yielded ops a.tmps) = true := by rfl) (hy : ∀ w', (execOp a.eval oi).run P w' = .ok (.value v) w' := by (intro w'; go_simp; with_reducible rfl)) (ha : a.put N v = a' := by (simp only [Act.put, aS1, aS2, aS3, i64_w, i32_w]; rfl))
  (h : wpAnyLast P md ops Q S ds fuel l' a' w) : wpAnyLast P md ops Q S ds (fuel + 1) l a w := pA i l' N HT hi hN hc hQ (Or.inl ⟨hw, hy⟩) ha h
theorem tB (i : Nat) (l' : Array Bool) (N : Option Tmp) {P : Program} {md : Region.Mode} {ops : Array Oper} {Q : Exit → Act → World → Prop} {S : World → Prop} {ds : List Nat} {T : Bool × List (List Nat × List Nat)} {B : List Nat} (HT : Aside0 (rtab md ops = T)) (HW : Aside0 (waitsOk T.2 B = true)) {oi : Oper} {v : Value} {fuel : Nat} {l : Array Bool} {a a' : Act} {w : World} (hS : S w)
  (hi : ops[i]? = some oi := by rfl) (hN : oi.dst = N := by rfl) (hc : takeW T B ds l.toList l'.toList i = true := by kernel_rfl) (hQ : ∀ c a w, Q (.panic c) (a.put oi.dst v) w → Q (.panic c) a w := by exact fun _ _ _ h => h)
  (hw : Region.wanted oi (yielded ops a.tmps) = true := by rfl) (hy : ∀ w', S w' → (execOp a.eval oi).run P w' = .ok (.value v) w' := by (intro w'; (try simp only [and_imp]); intros; go_simp; with_reducible rfl)) (ha : a.put N v = a' := by (simp only [Act.put, aS1, aS2, aS3, i64_w, i32_w]; rfl))
  (h : wpAnyLast P md ops Q S ds fuel l' a' w) : wpAnyLast P md ops Q S ds (fuel + 1) l a w := tA i l' N HT HW hi hN hc hQ (Or.inl ⟨hw, hy⟩) hS ha h
theorem dN2 (w : World) (n m : Nat) : (w.drewN n).drewN m = w.drewN (n + m) := World.drewN_drewN w n m
theorem dN3 (w : World) (a b c : Nat) : (w.drewN (a + b)).drewN c = w.drewN (a + (b + c)) := Eq.trans (World.drewN_drewN _ _ _) (congrArg (World.drewN _) (Nat.add_assoc _ _ _))
class Lat (W W' : World) : Prop where out : Below W.heap.size W W'
instance (W : World) : Lat W W := ⟨Below.refl _ _⟩
instance (W W' : World) (o : Obj) [h : Lat W W'] : Lat W (W'.alloc o) := ⟨below_alloc h.out o⟩
instance (W W' : World) [h : Lat W W'] : Lat W W'.drew := ⟨below_drew1 h.out⟩
instance (W W' : World) (n : Nat) [h : Lat W W'] : Lat W (W'.drewN n) := ⟨pw_below_drewN h.out n⟩
theorem eI {w W W' : World} (h : Aside0 (Below w.heap.size w W)) [k : Lat W W'] : Below w.heap.size w W' := below_step h.out k.out
theorem kI {W W' : World} {g : Nat} {o : Obj} (h : Aside0 (W.heap[g]? = some o)) [k : Lat W W'] : W'.heap[g]? = some o := blk_below h.out k.out
theorem cI {α : Type} {d : Kd α} {W W' : World} {A : Option Addr} {n : Nat} {xs : List α} (h : d.C W A n xs) [k : Lat W W'] : d.C W' A n xs := Kd.C_below h k.out
theorem rI {α : Type} {d : Kd α} {e : Nat} {W W' : World} {base : Nat} {ok : Nat → Prop} {v : Value} {xs : List α} (h : Aside0 (d.R e W base ok v xs)) [k : Lat W W'] : d.R e W' base ok v xs := Kd.R_below h.out k.out
theorem zI {w W W' W2 : World} (hb : Below W'.heap.size W' W2) (h : Aside0 (Below w.heap.size w W)) [k : Lat W W'] : Below w.heap.size w W' := below_step h.out k.out
theorem sI {w W W' W2 : World} (hb : Below W'.heap.size W' W2) (h : Aside0 (Below w.heap.size w W)) [k : Lat W W'] : Below w.heap.size w W2 := below_step (below_step h.out k.out) hb
theorem kbI {W W' W2 : World} (hb : Below W'.heap.size W' W2) {g : Nat} {o : Obj} (h : Aside0 (W.heap[g]? = some o)) [k : Lat W W'] : W2.heap[g]? = some o := blk_below (blk_below h.out k.out) hb
theorem rbI {α : Type} {d : Kd α} {e : Nat} {W W' W2 : World} (hb : Below W'.heap.size W' W2) {base : Nat} {ok : Nat → Prop} {v : Value} {xs : List α} (h : Aside0 (d.R e W base ok v xs)) [k : Lat W W'] : d.R e W2 base ok v xs := Kd.R_below (Kd.R_below h.out k.out) hb
theorem hcI {w W : World} {a : Addr} {v : Value} (h : Aside0 (Below w.heap.size w W)) (hx : w.cell? a = some v) : W.cell? a = some v := (h.out.cell (bltc w _ hx)).trans hx
theorem odt {p : Prop} [Decidable p] (h : decide p = true := by first | (with_reducible assumption) | assumption) : p := of_decide_eq_true h
theorem obS {α β : Type} {o : Option α} {f : α → Option β} {r : β} (h : o.bind f = some r) : ∃ a, Aside0 (o = some a) ∧ f a = some r := by
 obtain ⟨a, h1, h2⟩ := Option.bind_eq_some_iff.mp h
 exact ⟨a, ⟨h1⟩, h2⟩
theorem oN (i : Nat) (N : Option Tmp) (l' : Array Bool) {P : Program} {md : Region.Mode} {ops : Array Oper} {Q : Exit → Act → World → Prop} {S : World → Prop} {ds : List Nat} {T : Bool × List (List Nat × List Nat)} (HT : Aside0 (rtab md ops = T)) {oi : Oper} {fuel : Nat} {l : Array Bool} {a : Act} {w : World}
  (h : ∀ K : Act → World → Prop, Shut (∀ a' w', S w' → (S w' → wpAnyLast P md ops Q S ds fuel l' a' w') → K a' w') → if Region.wanted oi (yielded ops a.tmps) = true then Oper.wp P oi a w K Q else K (a.put N undef) w)
  (hi : ops[i]? = some oi := by rfl) (hN : oi.dst = N := by rfl) (hc : (readyT T.2 l.toList == [i] && l.toList.set i true == l'.toList) = true := by kernel_rfl) (hd : i ∉ ds := by decide) : wpAnyLast P md ops Q S ds (fuel + 1) l a w := one_ l' hi hN (one_of HT.out hc) hd h
theorem nP (N : Option Tmp) {P : Program} {md : Region.Mode} {ops : Array Oper} {Q : Exit → Act → World → Prop} {S : World → Prop} {ds : List Nat} {fuel : Nat} {l : Array Bool} {a a' : Act} {v : Value} {w : World} (h : wpAnyLast P md ops Q S ds fuel l a' w) (ha : a.put N v = a' := by (simp only [Act.put, aS1, aS2, aS3, i64_w, i32_w]; rfl)) : wpAnyLast P md ops Q S ds fuel l (a.put N v) w := norm_ ha h
theorem gG {P : Program} {ops : Array Oper} {Q : Exit → Act → World → Prop} {f : FuncId} {fn : Func} (hf : P.funcs[f]? = some fn) (args : Array Value) {oi : Oper} {N : Option Tmp} {a : Act} {w : World} {K : Act → World → Prop} {as_ : Array Operand} {ts : Array TypeId}
  (h : Calls P f args w fun e w' => ∃ v, e = .returned v ∧ K (a.put N v) w') (hname : (fn.name == "runtime.NumGoroutine") = false := by kernel_rfl) (hb : fn.body.isSome = true := by rfl)
  (hw : Region.wanted oi (yielded ops a.tmps) = true := by rfl) (hN : oi.dst = N := by rfl) (hop : oi.op = .call { callee := .value (.func f), args := as_, argTypes := ts } := by rfl) (hargs : as_.map a.eval = args := by ((try simp only [aM1, aM2, aM3]); first | done | rfl | (simp only [List.length_drop, List.length_take]; rfl))) : if Region.wanted oi (yielded ops a.tmps) = true then Oper.wp P oi a w K Q else K (a.put N undef) w := goes_ hf hname hb args hw hN hop hargs h
theorem bx0 {w W : World} {gb : Nat} (hg : gb = W.heap.size) (hB : Below w.heap.size w W) : w.heap.size ≤ gb := by rw [hg]; exact below_size hB
theorem info9 : (Tryd.prog.info? 9).map (fun i => (i.zero, i.size, i.bytes)) = some (some (.string ⟨#[]⟩), 1, 16) := by kernel_rfl
theorem info54 : (Tryd.prog.info? 54).map (fun i => (i.zero, i.size, i.bytes)) = some (some (.agg #[(.string ⟨#[]⟩), (.int .i64 0), (.int .i64 0), (.int .i64 0), (.slice none 0 0), (.bool false), (.string ⟨#[]⟩)]), 7, 88) := by kernel_rfl
structure S65 where
 f0 : (List Int)
 f1 : Int
 f2 : Int
structure S54 where
 f0 : ByteArray
 f1 : Int
 f2 : Int
 f3 : Int
 f4 : (List ByteArray)
 f5 : Bool
 f6 : ByteArray
def z54 : S54 := ⟨(⟨#[]⟩ : ByteArray), (0 : Int), (0 : Int), (0 : Int), ([] : List ByteArray), false, (⟨#[]⟩ : ByteArray)⟩
def k54 : Kd S54 := Kd.iso (Kd.pair Kd.string (Kd.pair (Kd.int .i64) (Kd.pair (Kd.int .i64) (Kd.pair (Kd.int .i64) (Kd.pair (Kd.slice 9 Kd.string) (Kd.pair Kd.bool Kd.string)))))) (fun x : S54 => (x.f0, x.f1, x.f2, x.f3, x.f4, x.f5, x.f6))
theorem k54_open {w : World} {x : S54} {cs : List Value} (h : k54.K w x cs) : ∃ A4 c4, cs = [.string x.f0, .int .i64 x.f1, .int .i64 x.f2, .int .i64 x.f3, .slice A4 x.f4.length c4, .bool x.f5, .string x.f6] ∧ x.f4.length ≤ c4 ∧ Kd.string.C w A4 x.f4.length x.f4 := by
 obtain ⟨_, _, rfl, rfl, ⟨_, _, rfl, rfl, ⟨_, _, rfl, rfl, ⟨_, _, rfl, rfl, ⟨_, _, rfl, ⟨A4, c4, rfl, l4, g4⟩, ⟨_, _, rfl, rfl, rfl⟩⟩⟩⟩⟩⟩ := h
 exact ⟨A4, c4, rfl, l4, g4⟩
theorem k54_openM {w : World} {base : Nat} {ok : Nat → Prop} {x : S54} {cs : List Value} (h : k54.M w base ok x cs) : ∃ v4, cs = [.string x.f0, .int .i64 x.f1, .int .i64 x.f2, .int .i64 x.f3, v4, .bool x.f5, .string x.f6] ∧ Kd.string.R 9 w base ok v4 x.f4 := by
 obtain ⟨_, _, rfl, rfl, ⟨_, _, rfl, rfl, ⟨_, _, rfl, rfl, ⟨_, _, rfl, rfl, ⟨_, _, rfl, ⟨v4, rfl, g4⟩, ⟨_, _, rfl, rfl, rfl⟩⟩⟩⟩⟩⟩ := h
 exact ⟨v4, rfl, g4⟩
theorem k54_mk (w : World) (x : S54) {A4 : Option Addr} {c4 : Nat} (l4 : x.f4.length ≤ c4) (g4 : Kd.string.C w A4 x.f4.length x.f4) : k54.K w x [.string x.f0, .int .i64 x.f1, .int .i64 x.f2, .int .i64 x.f3, .slice A4 x.f4.length c4, .bool x.f5, .string x.f6] := ⟨[.string x.f0], [.int .i64 x.f1, .int .i64 x.f2, .int .i64 x.f3, .slice A4 x.f4.length c4, .bool x.f5, .string x.f6], rfl, rfl, ⟨[.int .i64 x.f1], [.int .i64 x.f2, .int .i64 x.f3, .slice A4 x.f4.length c4, .bool x.f5, .string x.f6], rfl, rfl, ⟨[.int .i64 x.f2], [.int .i64 x.f3, .slice A4 x.f4.length c4, .bool x.f5, .string x.f6], rfl, rfl, ⟨[.int .i64 x.f3], [.slice A4 x.f4.length c4, .bool x.f5, .string x.f6], rfl, rfl, ⟨[.slice A4 x.f4.length c4], [.bool x.f5, .string x.f6], rfl, ⟨A4, c4, rfl, l4, g4⟩, ⟨[.bool x.f5], [.string x.f6], rfl, rfl, rfl⟩⟩⟩⟩⟩⟩
theorem k54_mkM (w : World) (base : Nat) (ok : Nat → Prop) (x : S54) {v4 : Value} (g4 : Kd.string.R 9 w base ok v4 x.f4) : k54.M w base ok x [.string x.f0, .int .i64 x.f1, .int .i64 x.f2, .int .i64 x.f3, v4, .bool x.f5, .string x.f6] := ⟨[.string x.f0], [.int .i64 x.f1, .int .i64 x.f2, .int .i64 x.f3, v4, .bool x.f5, .string x.f6], rfl, rfl, ⟨[.int .i64 x.f1], [.int .i64 x.f2, .int .i64 x.f3, v4, .bool x.f5, .string x.f6], rfl, rfl, ⟨[.int .i64 x.f2], [.int .i64 x.f3, v4, .bool x.f5, .string x.f6], rfl, rfl, ⟨[.int .i64 x.f3], [v4, .bool x.f5, .string x.f6], rfl, rfl, ⟨[v4], [.bool x.f5, .string x.f6], rfl, ⟨v4, rfl, g4⟩, ⟨[.bool x.f5], [.string x.f6], rfl, rfl, rfl⟩⟩⟩⟩⟩⟩
theorem k54_openF {W : World} {ok : Nat → Prop} {x : S54} {cs : List Value} (h : Kd.FK k54 W ok x cs) : ∃ A4 c4, cs = [.string x.f0, .int .i64 x.f1, .int .i64 x.f2, .int .i64 x.f3, .slice A4 x.f4.length c4, .bool x.f5, .string x.f6] ∧ x.f4.length ≤ c4 ∧ Kd.F Kd.string W ok A4 x.f4.length x.f4 := by
 obtain ⟨A4, c4, rfl, l4, _⟩ := k54_open (Kd.FK_now h)
 exact ⟨A4, c4, rfl, l4, (fun W' hW => by obtain ⟨A4_, c4_, he, l4_, g4_⟩ := k54_open (h W' hW); injection (Option.some.inj (show some (Value.slice A4 x.f4.length c4) = some (Value.slice A4_ x.f4.length c4_) from congrArg (fun l => l[4]?) he)) with ha_ _ _; rw [ha_]; exact g4_)⟩
theorem k54_mkF (W : World) (ok : Nat → Prop) (x : S54) {A4 : Option Addr} {c4 : Nat} (l4 : x.f4.length ≤ c4) (g4 : Kd.F Kd.string W ok A4 x.f4.length x.f4) : Kd.FK k54 W ok x [.string x.f0, .int .i64 x.f1, .int .i64 x.f2, .int .i64 x.f3, .slice A4 x.f4.length c4, .bool x.f5, .string x.f6] := fun W2 hW => k54_mk W2 x l4 (g4 W2 hW)
def rd_T54 (xs : List S54) (i : Int) : S54 := xs.getD i.toNat z54
theorem at_T54 {w : World} {A : Option Addr} {n : Nat} {xs : List S54} (h : Kd.C k54 w A n xs) (i : Int) (h0 : 0 ≤ i) (h1 : i < n) : ∃ ad A4 c4, A = some ad ∧ w.cell? (ad.add (i.toNat * 7)) = some (.string (rd_T54 xs i).f0) ∧ w.cell? ⟨(ad.add (i.toNat * 7)).block, (ad.add (i.toNat * 7)).off + 1, none⟩ = some (.int .i64 (rd_T54 xs i).f1) ∧ w.cell? ⟨(ad.add (i.toNat * 7)).block, (ad.add (i.toNat * 7)).off + 2, none⟩ = some (.int .i64 (rd_T54 xs i).f2) ∧ w.cell? ⟨(ad.add (i.toNat * 7)).block, (ad.add (i.toNat * 7)).off + 3, none⟩ = some (.int .i64 (rd_T54 xs i).f3) ∧ w.cell? ⟨(ad.add (i.toNat * 7)).block, (ad.add (i.toNat * 7)).off + 4, none⟩ = some (.slice A4 (rd_T54 xs i).f4.length c4) ∧ w.cell? ⟨(ad.add (i.toNat * 7)).block, (ad.add (i.toNat * 7)).off + 5, none⟩ = some (.bool (rd_T54 xs i).f5) ∧ w.cell? ⟨(ad.add (i.toNat * 7)).block, (ad.add (i.toNat * 7)).off + 6, none⟩ = some (.string (rd_T54 xs i).f6) ∧ (rd_T54 xs i).f4.length ≤ c4 ∧ Kd.string.C w A4 (rd_T54 xs i).f4.length (rd_T54 xs i).f4 := by
 obtain ⟨ad, c, e, _, hK, hc0⟩ := Kd.C_get h z54 i h0 h1
 have hc : ∀ j u, c[j]? = some u → w.cell? (ad.add (i.toNat * 7 + j)) = some u := hc0
 obtain ⟨A4, c4, rfl, l4, g4⟩ := k54_open hK
 exact ⟨ad, A4, c4, e, hc 0 _ rfl, by rw [← add_field _ _ 1 (by omega)]; exact hc 1 _ rfl, by rw [← add_field _ _ 2 (by omega)]; exact hc 2 _ rfl, by rw [← add_field _ _ 3 (by omega)]; exact hc 3 _ rfl, by rw [← add_field _ _ 4 (by omega)]; exact hc 4 _ rfl, by rw [← add_field _ _ 5 (by omega)]; exact hc 5 _ rfl, by rw [← add_field _ _ 6 (by omega)]; exact hc 6 _ rfl, l4, g4⟩
structure S51 where
 f0 : ByteArray
 f1 : ByteArray
def z51 : S51 := ⟨(⟨#[]⟩ : ByteArray), (⟨#[]⟩ : ByteArray)⟩
def GT (w : World) : Prop := Lib.TabIs Tryd.prog w "internal/strconv.uint64pow10" .u64 Lib.pow10Tab
theorem gt_named : ∃ g, Tryd.prog.globalNamed "internal/strconv.uint64pow10" = some g := Option.isSome_iff_exists.1 (show (Tryd.prog.globalNamed "internal/strconv.uint64pow10").isSome = true by kernel_rfl)
theorem GT.below {B : Nat} {w w' : World} (h : GT w) (hb : Below B w w') (hB : w.heap.size ≤ B := by first | exact Nat.le_refl _ | omega) : GT w' := Joins.tab_stays gt_named.choose_spec h hb hB
theorem GT.alloc {w : World} (h : GT w) (o : Obj) : GT (w.alloc o) := h.below (below_alloc (Below.refl _ _) o)
theorem GT.drew {w : World} (h : GT w) : GT w.drew := h.below (below_drew (Below.refl _ _))
theorem GT.drewN {w : World} (h : GT w) (m : Nat) : GT (w.drewN m) := h.below (pw_below_drewN (Below.refl _ _) m)
def MX (w : World) : Prop := ∃ m, w.cell? ⟨0, 0, none⟩ = some (.int .i64 m)
theorem MX.below {B : Nat} {w w' : World} (h : MX w) (hb : Below B w w') (hB : w.heap.size ≤ B) : MX w' := by
 first
 | exact True.intro
 | (obtain ⟨m, h⟩ := h; exact ⟨m, (hb.cell (Nat.lt_of_lt_of_le (World.block_lt_of_cell? w _ h) hB)).trans h⟩)
def GE (w : World) : Prop := GT w ∧ (∃ t v, w.cell? ⟨4, 0, none⟩ = some (.iface t v)) ∧ (∃ t v, w.cell? ⟨5, 0, none⟩ = some (.iface t v)) ∧ MX w
theorem GE.below {B : Nat} {w w' : World} (h : GE w) (hb : Below B w w') (hB : w.heap.size ≤ B := by first | exact Nat.le_refl _ | omega) : GE w' := by
 obtain ⟨h0, ⟨t1, v1, h1⟩, ⟨t2, v2, h2⟩, h3⟩ := h
 exact ⟨h0.below hb hB, ⟨t1, v1, (hb.cell (Nat.lt_of_lt_of_le (World.block_lt_of_cell? w _ h1) hB)).trans h1⟩, ⟨t2, v2, (hb.cell (Nat.lt_of_lt_of_le (World.block_lt_of_cell? w _ h2) hB)).trans h2⟩, h3.below hb hB⟩
theorem GE.alloc {w : World} (h : GE w) (o : Obj) : GE (w.alloc o) := h.below (below_alloc (Below.refl _ _) o)
theorem GE.drew {w : World} (h : GE w) : GE w.drew := h.below (below_drew (Below.refl _ _))
theorem GE.drewN {w : World} (h : GE w) (m : Nat) : GE (w.drewN m) := h.below (pw_below_drewN (Below.refl _ _) m)
theorem GE.gt {w : World} (h : GE w) : GT w := by
 obtain ⟨h0, _⟩ := h
 exact h0
theorem GE.mx {w : World} (h : GE w) : MX w := by
 obtain ⟨_, _, _, h3⟩ := h
 exact h3
section
variable {P : Prop}
theorem Q0 (h : P := by exact ⟨(0), Q5, H', ⟨Nat.le_refl _⟩, Q20⟩) : P := h
theorem Q1 (h : P := by exact ⟨Q5, Q20⟩) : P := h
theorem Q2 (h : P := by exact ⟨(wrap64 (x8_1 + 1)), Q5, H', ⟨Q16⟩, Q20⟩) : P := h
theorem Q3 (h : P := by exact absurd H (by simp)) : P := h
theorem Q4 (h : P := by exact Kd.C_below HR0.out (eI HB)) : P := h
theorem Q5 (h : P := by first | rfl | (simp; done) | (simp [*]; done)) : P := h
theorem Q6 (h : P := by first | omega | exact Q85) : P := h
theorem Q7 (h : P := by exact ⟨rfl, eI HB⟩) : P := h
theorem Q8 (h : P := by have := HJ2.out; first | omega | exact Q85) : P := h
theorem Q9 (h : P := by rw [Bool.eq_false_iff]; exact fun h_ => c16 (List.isEmpty_iff.mp h_)) : P := h
theorem Q10 (h : P := by have := HJ2.out; have := HJ12.out; first | omega | exact Q85) : P := h
theorem Q11 (h : P := by first | (rw [show (l1_4.take (x88_4 : Int).toNat).length = x88_4.toNat from Q204] <;> rfl) | rfl) : P := h
theorem Q12 (h : P := by exact ⟨(0), Q5, H', ⟨Nat.le_refl _⟩, ⟨eI HB⟩⟩) : P := h
theorem Q13 (h : P := by (with_reducible repeat (first | refine kN ?_ _ | refine kD ?_ | refine kA ?_ _)); refine blk_put (cs := #[.string ((rd_T54 l0 x7_1).f0), .int .i64 ((rd_T54 l0 x7_1).f1), .int .i64 ((rd_T54 l0 x7_1).f2), .int .i64 ((rd_T54 l0 x7_1).f3), .slice A101_4 ((rd_T54 l0 x7_1).f4).length c101_4, .bool ((rd_T54 l0 x7_1).f5), .string (⟨#[]⟩ : ByteArray)]) ?_ 6 _ rfl; (with_reducible repeat (first | refine kN ?_ _ | refine kD ?_ | refine kA ?_ _)); refine blk_put (cs := #[.string ((rd_T54 l0 x7_1).f0), .int .i64 ((rd_T54 l0 x7_1).f1), .int .i64 ((rd_T54 l0 x7_1).f2), .int .i64 ((rd_T54 l0 x7_1).f3), .slice A101_4 ((rd_T54 l0 x7_1).f4).length c101_4, .bool false, .string (⟨#[]⟩ : ByteArray)]) ?_ 5 _ rfl; (with_reducible repeat (first | refine kN ?_ _ | refine kD ?_ | refine kA ?_ _)); refine blk_put (cs := #[.string ((rd_T54 l0 x7_1).f0), .int .i64 ((rd_T54 l0 x7_1).f1), .int .i64 ((rd_T54 l0 x7_1).f2), .int .i64 ((rd_T54 l0 x7_1).f3), .slice none 0 0, .bool false, .string (⟨#[]⟩ : ByteArray)]) ?_ 4 _ rfl; (with_reducible repeat (first | refine kN ?_ _ | refine kD ?_ | refine kA ?_ _)); refine blk_put (cs := #[.string ((rd_T54 l0 x7_1).f0), .int .i64 ((rd_T54 l0 x7_1).f1), .int .i64 ((rd_T54 l0 x7_1).f2), .int .i64 0, .slice none 0 0, .bool false, .string (⟨#[]⟩ : ByteArray)]) ?_ 3 _ rfl; (with_reducible repeat (first | refine kN ?_ _ | refine kD ?_ | refine kA ?_ _)); refine blk_put (cs := #[.string ((rd_T54 l0 x7_1).f0), .int .i64 ((rd_T54 l0 x7_1).f1), .int .i64 0, .int .i64 0, .slice none 0 0, .bool false, .string (⟨#[]⟩ : ByteArray)]) ?_ 2 _ rfl; (with_reducible repeat (first | refine kN ?_ _ | refine kD ?_ | refine kA ?_ _)); refine blk_put (cs := #[.string ((rd_T54 l0 x7_1).f0), .int .i64 0, .int .i64 0, .int .i64 0, .slice none 0 0, .bool false, .string (⟨#[]⟩ : ByteArray)]) ?_ 1 _ rfl; (with_reducible repeat (first | refine kN ?_ _ | refine kD ?_ | refine kA ?_ _)); refine blk_put (cs := #[.string (⟨#[]⟩ : ByteArray), .int .i64 0, .int .i64 0, .int .i64 0, .slice none 0 0, .bool false, .string (⟨#[]⟩ : ByteArray)]) ?_ 0 _ rfl; (with_reducible repeat (first | refine kN ?_ _ | refine kD ?_ | refine kA ?_ _)); exact BK102.out) : P := h
theorem Q14 (h : P := by repeat (first | (with_reducible first | exact HB.out | apply bA | apply bN | apply bD | refine below_set ?_ GE102.out) | exact HB.out)) : P := h
theorem Q15 (h : P := by exact Kd.C_below HR101_4.out (eI HB)) : P := h
theorem Q16 (h : P := by have := HK1.out; omega) : P := h
theorem Q17 (h : P := by exact ⟨(wrap64 (x5_1 + 1)), Q5, H', ⟨Q16⟩, Q20⟩) : P := h
theorem Q18 (h : P := by have : (0 : Int) < (a0.size : Int) := odt; omega) : P := h
theorem Q19 (h : P := by exact ⟨_, (true), Q5, H', ⟨Q205⟩, Q20⟩) : P := h
theorem Q20 (h : P := by repeat (first | exact Q206 | apply Drawn0.step)) : P := h
theorem Q21 (h : P := by exact ⟨(wrap64 (x3_2 + 1)), Q5, H', ⟨Q207⟩, Q208⟩) : P := h
theorem Q22 (h : P := by exact ⟨rfl, _, dN2 _ _ _⟩) : P := h
theorem Q23 (h : P := by exact ⟨rfl, _, dN3 _ _ _ _⟩) : P := h
theorem Q24 (h : P := by have := HK1.out; have := HK2.out; omega) : P := h
theorem Q25 (h : P := by exact Kd.C_below HR0.out Q14) : P := h
theorem Q26 (h : P := by (with_reducible repeat (first | refine kN ?_ _ | refine kD ?_ | refine kA ?_ _)); refine blk_put (cs := #[.string ((rd_T54 l0 a1).f0), .int .i64 ((rd_T54 l0 a1).f1), .int .i64 ((rd_T54 l0 a1).f2), .int .i64 ((rd_T54 l0 a1).f3), .slice A101_4 ((rd_T54 l0 a1).f4).length c101_4, .bool ((rd_T54 l0 a1).f5), .string (⟨#[]⟩ : ByteArray)]) ?_ 6 _ rfl; (with_reducible repeat (first | refine kN ?_ _ | refine kD ?_ | refine kA ?_ _)); refine blk_put (cs := #[.string ((rd_T54 l0 a1).f0), .int .i64 ((rd_T54 l0 a1).f1), .int .i64 ((rd_T54 l0 a1).f2), .int .i64 ((rd_T54 l0 a1).f3), .slice A101_4 ((rd_T54 l0 a1).f4).length c101_4, .bool false, .string (⟨#[]⟩ : ByteArray)]) ?_ 5 _ rfl; (with_reducible repeat (first | refine kN ?_ _ | refine kD ?_ | refine kA ?_ _)); refine blk_put (cs := #[.string ((rd_T54 l0 a1).f0), .int .i64 ((rd_T54 l0 a1).f1), .int .i64 ((rd_T54 l0 a1).f2), .int .i64 ((rd_T54 l0 a1).f3), .slice none 0 0, .bool false, .string (⟨#[]⟩ : ByteArray)]) ?_ 4 _ rfl; (with_reducible repeat (first | refine kN ?_ _ | refine kD ?_ | refine kA ?_ _)); refine blk_put (cs := #[.string ((rd_T54 l0 a1).f0), .int .i64 ((rd_T54 l0 a1).f1), .int .i64 ((rd_T54 l0 a1).f2), .int .i64 0, .slice none 0 0, .bool false, .string (⟨#[]⟩ : ByteArray)]) ?_ 3 _ rfl; (with_reducible repeat (first | refine kN ?_ _ | refine kD ?_ | refine kA ?_ _)); refine blk_put (cs := #[.string ((rd_T54 l0 a1).f0), .int .i64 ((rd_T54 l0 a1).f1), .int .i64 0, .int .i64 0, .slice none 0 0, .bool false, .string (⟨#[]⟩ : ByteArray)]) ?_ 2 _ rfl; (with_reducible repeat (first | refine kN ?_ _ | refine kD ?_ | refine kA ?_ _)); refine blk_put (cs := #[.string ((rd_T54 l0 a1).f0), .int .i64 0, .int .i64 0, .int .i64 0, .slice none 0 0, .bool false, .string (⟨#[]⟩ : ByteArray)]) ?_ 1 _ rfl; (with_reducible repeat (first | refine kN ?_ _ | refine kD ?_ | refine kA ?_ _)); refine blk_put (cs := #[.string (⟨#[]⟩ : ByteArray), .int .i64 0, .int .i64 0, .int .i64 0, .slice none 0 0, .bool false, .string (⟨#[]⟩ : ByteArray)]) ?_ 0 _ rfl; (with_reducible repeat (first | refine kN ?_ _ | refine kD ?_ | refine kA ?_ _)); exact BK102.out) : P := h
theorem Q27 (h : P := by exact ⟨_, (true), Q5, H', ⟨Q205⟩, ⟨Q26⟩, ⟨Q14⟩⟩) : P := h
theorem Q28 (h : P := by exact ⟨_, H', ⟨by have := HJ4.out; first | omega | exact Q85⟩, ⟨kI BK102⟩, ⟨eI HB⟩⟩) : P := h
theorem Q29 (h : P := by rw [Bool.eq_false_iff]; exact fun h_ => c19 (List.isEmpty_iff.mp h_)) : P := h
theorem Q30 (h : P := by first | simpa using c3 | (simp at c3 ⊢; omega)) : P := h
theorem Q31 (h : P := by repeat (first | (with_reducible first | exact HB.out | apply bA | apply bN | apply bD) | exact HB.out)) : P := h
theorem Q32 (h : P := by first | (with_reducible assumption) | assumption) : P := h
theorem Q33 (h : P := by rw [hg]; exact Q209) : P := h
theorem Q34 (h : P := by (with_reducible repeat (first | refine kN ?_ _ | refine kD ?_ | refine kA ?_ _)); exact BK103.out) : P := h
theorem Q35 (h : P := by repeat (first | (with_reducible first | exact HB.out | apply bA | apply bN | apply bD | refine below_set ?_ GE103.out) | exact HB.out)) : P := h
theorem Q36 (h : P := by rw [hg]; exact Q210) : P := h
theorem Q37 (h : P := by simp only [putAll, Act.put, aS1, aS2, aS3]) : P := h
theorem Q38 (h : P := by (with_reducible repeat (first | refine kN ?_ _ | refine kD ?_ | refine kA ?_ _)); exact BK104.out) : P := h
theorem Q39 (h : P := by repeat (first | (with_reducible first | exact HB.out | apply bA | apply bN | apply bD | refine below_set ?_ GE103.out | refine below_set ?_ GE104.out) | exact HB.out)) : P := h
theorem Q40 (h : P := by repeat (first | (with_reducible first | exact HB.out | apply bA | apply bN | apply bD | refine below_set ?_ GE104.out) | exact HB.out)) : P := h
theorem Q41 (h : P := by rw [hg]; exact Q211) : P := h
theorem Q42 (h : P := by exact Nat.ne_of_lt (Nat.lt_of_lt_of_le Q212 GW103.out)) : P := h
theorem Q43 (h : P := by exact Nat.ne_of_lt (Nat.lt_of_lt_of_le Q213 GW103.out)) : P := h
theorem Q44 (h : P := by exact Nat.ne_of_lt (Nat.lt_of_lt_of_le Q214 GW103.out)) : P := h
theorem Q45 (h : P := by exact Nat.ne_of_lt (Nat.lt_of_lt_of_le Q215 GW103.out)) : P := h
theorem Q46 (h : P := by exact Nat.ne_of_lt (Nat.lt_of_lt_of_le Q216 GW103.out)) : P := h
theorem Q47 (h : P := by exact Nat.ne_of_lt (Nat.lt_of_lt_of_le Q217 GW103.out)) : P := h
theorem Q48 (h : P := by exact Nat.ne_of_lt (Nat.lt_of_lt_of_le Q218 GW103.out)) : P := h
theorem Q49 (h : P := by exact Nat.ne_of_lt (Nat.lt_of_lt_of_le Q219 GW103.out)) : P := h
theorem Q50 (h : P := by exact Nat.ne_of_lt (Nat.lt_of_lt_of_le Q220 GW103.out)) : P := h
theorem Q51 (h : P := by exact Nat.ne_of_lt (Nat.lt_of_lt_of_le Q221 GW103.out)) : P := h
theorem Q52 (h : P := by exact Nat.ne_of_lt (Nat.lt_of_lt_of_le Q222 GW103.out)) : P := h
theorem Q53 (h : P := by exact Nat.ne_of_lt (Nat.lt_of_lt_of_le Q223 GW103.out)) : P := h
theorem Q54 (h : P := by exact Nat.ne_of_lt (Nat.lt_of_lt_of_le Q224 GW103.out)) : P := h
theorem Q55 (h : P := by exact Nat.ne_of_lt (Nat.lt_of_lt_of_le Q225 GW103.out)) : P := h
theorem Q56 (h : P := by exact Nat.ne_of_lt (Nat.lt_of_lt_of_le Q212 GW104.out)) : P := h
theorem Q57 (h : P := by exact Nat.ne_of_lt (Nat.lt_of_lt_of_le Q213 GW104.out)) : P := h
theorem Q58 (h : P := by exact Nat.ne_of_lt (Nat.lt_of_lt_of_le Q214 GW104.out)) : P := h
theorem Q59 (h : P := by exact Nat.ne_of_lt (Nat.lt_of_lt_of_le Q215 GW104.out)) : P := h
theorem Q60 (h : P := by exact Nat.ne_of_lt (Nat.lt_of_lt_of_le Q216 GW104.out)) : P := h
theorem Q61 (h : P := by exact Nat.ne_of_lt (Nat.lt_of_lt_of_le Q217 GW104.out)) : P := h
theorem Q62 (h : P := by exact Nat.ne_of_lt (Nat.lt_of_lt_of_le Q218 GW104.out)) : P := h
theorem Q63 (h : P := by exact Nat.ne_of_lt (Nat.lt_of_lt_of_le Q219 GW104.out)) : P := h
theorem Q64 (h : P := by exact Nat.ne_of_lt (Nat.lt_of_lt_of_le Q220 GW104.out)) : P := h
theorem Q65 (h : P := by exact Nat.ne_of_lt (Nat.lt_of_lt_of_le Q221 GW104.out)) : P := h
theorem Q66 (h : P := by exact Nat.ne_of_lt (Nat.lt_of_lt_of_le Q222 GW104.out)) : P := h
theorem Q67 (h : P := by exact Nat.ne_of_lt (Nat.lt_of_lt_of_le Q223 GW104.out)) : P := h
theorem Q68 (h : P := by exact Nat.ne_of_lt (Nat.lt_of_lt_of_le Q224 GW104.out)) : P := h
theorem Q69 (h : P := by exact Nat.ne_of_lt (Nat.lt_of_lt_of_le Q225 GW104.out)) : P := h
theorem Q70 (h : P := by exact ⟨Q97, Q31⟩) : P := h
theorem Q71 (h : P := by rw [Bool.eq_false_iff]; exact fun h_ => c11 (List.isEmpty_iff.mp h_)) : P := h
theorem Q72 (h : P := by rw [Bool.eq_false_iff]; exact fun h_ => c26 (List.isEmpty_iff.mp h_)) : P := h
theorem Q73 (h : P := by rw [Bool.eq_false_iff]; exact fun h_ => c50 (List.isEmpty_iff.mp h_)) : P := h
theorem Q74 (h : P := by rw [Bool.eq_false_iff]; exact fun h_ => c65 (List.isEmpty_iff.mp h_)) : P := h
theorem Q75 (h : P := by rw [Bool.eq_false_iff]; exact fun h_ => c91 (List.isEmpty_iff.mp h_)) : P := h
theorem Q76 (h : P := by rw [Bool.eq_false_iff]; exact fun h_ => c96 (List.isEmpty_iff.mp h_)) : P := h
theorem Q77 (h : P := by rw [Bool.eq_false_iff]; exact fun h_ => c104 (List.isEmpty_iff.mp h_)) : P := h
theorem Q78 (h : P := by rw [Bool.eq_false_iff]; exact fun h_ => c111 (List.isEmpty_iff.mp h_)) : P := h
theorem Q79 (h : P := by exact HC106_4.out) : P := h
theorem Q80 (h : P := by exact ⟨rfl, Q84, Q86, Q81⟩) : P := h
theorem Q81 (h : P := by repeat (first | (with_reducible first | exact HK.out | apply KeepBut.set_ | apply keep_drewN | apply keep_drew | apply keep_alloc) | exact HK.out)) : P := h
theorem Q82 (h : P := by first | (rw [add_block]; exact Q226) | exact Q226 | exact hf1 ad104 rfl (by omega)) : P := h
theorem Q83 (h : P := by (with_reducible repeat (first | apply Kd.S_alloc | apply Kd.S_drewN | apply Kd.S_drew)); exact HO_3.out) : P := h
theorem Q84 (h : P := by repeat (first | (with_reducible first | exact HI0.out | apply IsS65.alloc | apply IsS65.drewN | apply IsS65.drew | apply IsS65.set_1 | apply IsS65.set_2) | exact HI0.out)) : P := h
theorem Q85 (h : P := by exact Nat.le_refl _) : P := h
theorem Q86 (h : P := by repeat (first | (with_reducible first | exact HB.out | apply bA | apply bN | apply bD | refine below_set ?_ (IsS65.ge HI0.out)) | exact HB.out)) : P := h
theorem Q87 (h : P := by rw [hg]; exact Q227) : P := h
theorem Q88 (h : P := by rw [hg]; exact Q228) : P := h
theorem Q89 (h : P := by have h1 : k_ < w211.heap.size := hk.2; have h2 := GX180.out; show k_ ≠ gb180; omega) : P := h
theorem Q90 (h : P := by repeat (first | (with_reducible first | exact HI0.out | apply IsS65.alloc | apply IsS65.drewN | apply IsS65.drew | apply IsS65.set_1 | apply IsS65.set_2 | refine IsS65.far ?_ NB0_180.out _) | exact HI0.out)) : P := h
theorem Q91 (h : P := by have h1 : k_ < w211.heap.size := (HOK.out k_ hk).1.2; have h2 := GX180.out; show k_ ≠ gb180; omega) : P := h
theorem Q92 (h : P := by repeat (first | (with_reducible first | exact HK.out | apply KeepBut.set_ | apply keep_drewN | apply keep_drew | apply keep_alloc | refine keep_far ?_ GW180.out _) | exact HK.out)) : P := h
theorem Q93 (h : P := by (with_reducible repeat (first | apply rA | apply rN | apply rD)); exact HO_4.out) : P := h
theorem Q94 (h : P := by (with_reducible repeat (first | apply rA | apply rN | apply rD)); exact HO_5.out) : P := h
theorem Q95 (h : P := by (with_reducible repeat (first | refine kN ?_ _ | refine kD ?_ | refine kA ?_ _)); exact BK180.out) : P := h
theorem Q96 (h : P := by repeat (first | (with_reducible first | exact HB.out | apply bA | apply bN | apply bD | refine below_set ?_ (IsS65.ge HI0.out) | refine below_set ?_ GE180.out) | exact HB.out)) : P := h
theorem Q97 (h : P := by first | rfl | (simp [errW_none, errW_some] <;> rfl) | (simp [*, errW_none, errW_some] <;> rfl)) : P := h
theorem Q98 (h : P := by (with_reducible repeat (first | apply Kd.N_alloc | apply Kd.N_drewN | apply Kd.N_drew)); exact HO_3.out) : P := h
theorem Q99 (h : P := by (with_reducible repeat (first | apply FT.alloc | apply FT.drewN | apply FT.drew)); exact FT.set7 F.out) : P := h
theorem Q100 (h : P := by (with_reducible repeat (first | apply FT.alloc | apply FT.drewN | apply FT.drew)); exact F.out) : P := h
theorem Q101 (h : P := by exact ((show FT w0 w _ g gb180 s0_0 t182 t183 _ x3_1 _ ((rd_T54 x3_1 t176).f4) _ from Q100)).hi) : P := h
theorem Q102 (h : P := by exact ((show FT w0 w _ g gb180 s0_0 t182 t183 _ x3_1 _ ((rd_T54 x3_1 t176).f4) _ from Q100)).hb) : P := h
theorem Q103 (h : P := by exact ⟨_, Q97, Q229, Q90, Q96, Q92⟩) : P := h
theorem Q104 (h : P := by first | (rw [hy101]; with_reducible exact H) | (have H2_ := (Option.bind_some _ _).symm.trans H; rw [hy101]; with_reducible exact H2_) | (have H2_ := (Option.bind_some _ _).symm.trans H; with_reducible exact H2_) | with_reducible exact H | (rw [hy101]; exact H) | exact H) : P := h
theorem Q105 (h : P := by first | (rw [hy107]; with_reducible exact H) | (have H2_ := (Option.bind_some _ _).symm.trans H; rw [hy107]; with_reducible exact H2_) | (have H2_ := (Option.bind_some _ _).symm.trans H; with_reducible exact H2_) | with_reducible exact H | (rw [hy107]; exact H) | exact H) : P := h
theorem Q106 (h : P := by (with_reducible repeat (first | apply Kd.S_alloc | apply Kd.S_drewN | apply Kd.S_drew)); exact HO103.out) : P := h
theorem Q107 (h : P := by (with_reducible repeat (first | apply rA | apply rN | apply rD)); exact HO106.out) : P := h
theorem Q108 (h : P := by (with_reducible repeat (first | apply rA | apply rN | apply rD)); exact HO109.out) : P := h
theorem Q109 (h : P := by (try simp only [aM1, aM2, aM3]); first | done | rfl | (simp only [List.length_drop, List.length_take]; rfl)) : P := h
theorem Q110 (h : P := by first | (rw [add_block]; exact Q230) | (show (Addr.add _ _).block ≠ _; rw [add_block]; exact Q230) | exact Q230) : P := h
theorem Q111 (h : P := by exact norm_ Q37 (hCont (gb123) _ ⟨hHeld, Q231, Q93, Q94, Q113, GW123.out, GE123.out, NB0_123.out, NB123_0.out, Q112, Q114, Q122⟩)) : P := h
theorem Q112 (h : P := by repeat (first | (with_reducible first | exact HI0.out | apply IsS65.alloc | apply IsS65.drewN | apply IsS65.drew | apply IsS65.set_1 | apply IsS65.set_2 | refine IsS65.far ?_ NB0_123.out _) | exact HI0.out)) : P := h
theorem Q113 (h : P := by (with_reducible repeat (first | refine kN ?_ _ | refine kD ?_ | refine kA ?_ _)); exact BK123.out) : P := h
theorem Q114 (h : P := by repeat (first | (with_reducible first | exact HK.out | apply KeepBut.set_ | apply keep_drewN | apply keep_drew | apply keep_alloc | refine keep_far ?_ GW123.out _) | exact HK.out)) : P := h
theorem Q115 (h : P := by first | exact Q232 | (rw [add_block]; exact Q232) | (show (Addr.add _ _).block ≠ _; rw [add_block]; exact Q232) | (dsimp only; exact Q232)) : P := h
theorem Q116 (h : P := by first | (rw [hy124]; with_reducible exact H) | (have H2_ := (Option.bind_some _ _).symm.trans H; rw [hy124]; with_reducible exact H2_) | (have H2_ := (Option.bind_some _ _).symm.trans H; with_reducible exact H2_) | with_reducible exact H | (rw [hy124]; exact H) | exact H) : P := h
theorem Q117 (h : P := by first | (rw [hy130]; with_reducible exact H) | (have H2_ := (Option.bind_some _ _).symm.trans H; rw [hy130]; with_reducible exact H2_) | (have H2_ := (Option.bind_some _ _).symm.trans H; with_reducible exact H2_) | with_reducible exact H | (rw [hy130]; exact H) | exact H) : P := h
theorem Q118 (h : P := by (with_reducible repeat (first | apply Kd.S_alloc | apply Kd.S_drewN | apply Kd.S_drew)); exact Q233) : P := h
theorem Q119 (h : P := by (with_reducible repeat (first | apply rA | apply rN | apply rD)); exact Q234) : P := h
theorem Q120 (h : P := by (with_reducible repeat (first | apply rA | apply rN | apply rD)); exact Q235) : P := h
theorem Q121 (h : P := by (with_reducible repeat (first | refine kN ?_ _ | refine kD ?_ | refine kA ?_ _)); refine blk_put (cs := #[.string (rdOf ByteArray.empty y104 (x3_1.length : Int)), .int .i64 (wrap64 (1 + t117)), .int .i64 0, .int .i64 0, .slice none 0 0, .bool t120, .string (⟨#[]⟩ : ByteArray)]) ?_ 6 _ rfl; (with_reducible repeat (first | refine kN ?_ _ | refine kD ?_ | refine kA ?_ _)); refine blk_put (cs := #[.string (rdOf ByteArray.empty y104 (x3_1.length : Int)), .int .i64 (wrap64 (1 + t117)), .int .i64 0, .int .i64 0, .slice none 0 0, .bool false, .string (⟨#[]⟩ : ByteArray)]) ?_ 5 _ rfl; (with_reducible repeat (first | refine kN ?_ _ | refine kD ?_ | refine kA ?_ _)); refine blk_put (cs := #[.string (rdOf ByteArray.empty y104 (x3_1.length : Int)), .int .i64 (wrap64 (1 + t117)), .int .i64 0, .int .i64 0, .slice none 0 0, .bool false, .string (⟨#[]⟩ : ByteArray)]) ?_ 4 _ rfl; (with_reducible repeat (first | refine kN ?_ _ | refine kD ?_ | refine kA ?_ _)); refine blk_put (cs := #[.string (rdOf ByteArray.empty y104 (x3_1.length : Int)), .int .i64 (wrap64 (1 + t117)), .int .i64 0, .int .i64 0, .slice none 0 0, .bool false, .string (⟨#[]⟩ : ByteArray)]) ?_ 3 _ rfl; (with_reducible repeat (first | refine kN ?_ _ | refine kD ?_ | refine kA ?_ _)); refine blk_put (cs := #[.string (rdOf ByteArray.empty y104 (x3_1.length : Int)), .int .i64 (wrap64 (1 + t117)), .int .i64 0, .int .i64 0, .slice none 0 0, .bool false, .string (⟨#[]⟩ : ByteArray)]) ?_ 2 _ rfl; (with_reducible repeat (first | refine kN ?_ _ | refine kD ?_ | refine kA ?_ _)); refine blk_put (cs := #[.string (rdOf ByteArray.empty y104 (x3_1.length : Int)), .int .i64 0, .int .i64 0, .int .i64 0, .slice none 0 0, .bool false, .string (⟨#[]⟩ : ByteArray)]) ?_ 1 _ rfl; (with_reducible repeat (first | refine kN ?_ _ | refine kD ?_ | refine kA ?_ _)); refine blk_put (cs := #[.string (⟨#[]⟩ : ByteArray), .int .i64 0, .int .i64 0, .int .i64 0, .slice none 0 0, .bool false, .string (⟨#[]⟩ : ByteArray)]) ?_ 0 _ rfl; (with_reducible repeat (first | refine kN ?_ _ | refine kD ?_ | refine kA ?_ _)); exact BK123.out) : P := h
theorem Q122 (h : P := by repeat (first | (with_reducible first | exact HB.out | apply bA | apply bN | apply bD | refine below_set ?_ (IsS65.ge HI0.out) | refine below_set ?_ GE123.out) | exact HB.out)) : P := h
theorem Q123 (h : P := by (with_reducible repeat (first | apply rA | apply rN | apply rD)); exact HO126.out) : P := h
theorem Q124 (h : P := by (with_reducible repeat (first | refine kN ?_ _ | refine kD ?_ | refine kA ?_ _)); refine blk_put (cs := #[.string (rdOf ByteArray.empty y104 (x3_1.length : Int)), .int .i64 (wrap64 (1 + t117)), .int .i64 0, .int .i64 0, .slice none 0 0, .bool t120, .string (⟨#[]⟩ : ByteArray)]) ?_ 2 _ rfl; (with_reducible repeat (first | refine kN ?_ _ | refine kD ?_ | refine kA ?_ _)); exact BK123.out) : P := h
theorem Q125 (h : P := by have := HK1.out; first | omega | exact Q85) : P := h
theorem Q126 (h : P := by simp [Value.ownBlock]) : P := h
theorem Q127 (h : P := by first | exact Q236 | exact Q237 | exact Q238 | exact Q239 | exact Q240) : P := h
theorem Q128 (h : P := by first | (rw [hy142]; with_reducible exact H) | (have H2_ := (Option.bind_some _ _).symm.trans H; rw [hy142]; with_reducible exact H2_) | (have H2_ := (Option.bind_some _ _).symm.trans H; with_reducible exact H2_) | with_reducible exact H | (rw [hy142]; exact H) | exact H) : P := h
theorem Q129 (h : P := by (with_reducible repeat (first | apply rA | apply rN | apply rD)); exact HO144.out) : P := h
theorem Q130 (h : P := by first | exact hk.1.2 | (have h_ := hk.1.2; clear hk; revert h_; cases Ao68 <;> exact id)) : P := h
theorem Q131 (h : P := by first | exact hk.1.1 | (have h_ := hk.1.1; clear hk; revert h_; cases Ao68 <;> exact id)) : P := h
theorem Q132 (h : P := by (with_reducible repeat (first | apply rA | apply rN | apply rD)); exact Q241) : P := h
theorem Q133 (h : P := by have := HK1.out; have := HJ14.out; first | omega | exact Q85) : P := h
theorem Q134 (h : P := by exact Q242) : P := h
theorem Q135 (h : P := by exact (keep_size (w := w) (g := g) (row := none) Q114)) : P := h
theorem Q136 (h : P := by (with_reducible repeat (first | apply rA | apply rN | apply rD)); exact Q243) : P := h
theorem Q137 (h : P := by (with_reducible repeat (first | apply rA | apply rN | apply rD)); exact HO163.out) : P := h
theorem Q138 (h : P := by exact Q244) : P := h
theorem Q139 (h : P := by have := HK1.out; have := HJ14.out; have := HJ71.out; omega) : P := h
theorem Q140 (h : P := by (with_reducible repeat (first | apply rA | apply rN | apply rD)); exact Kd.R_mono HO_4.out (fun _ hk => hk.2)) : P := h
theorem Q141 (h : P := by exact Q245) : P := h
theorem Q142 (h : P := by (with_reducible repeat (first | apply rA | apply rN | apply rD)); exact Kd.R_mono HO_4.out (fun _ hk => hk.1)) : P := h
theorem Q143 (h : P := by (with_reducible repeat (first | apply rA | apply rN | apply rD)); exact Kd.R_mono HO_5.out (fun _ hk => hk.1)) : P := h
theorem Q144 (h : P := by (with_reducible repeat (first | apply rA | apply rN | apply rD)); exact HO172.out) : P := h
theorem Q145 (h : P := by rw [Bool.eq_false_iff]; exact fun h_ => c4 (List.isEmpty_iff.mp h_)) : P := h
theorem Q146 (h : P := by (rw [ByteArray.size_extract];  omega)) : P := h
theorem Q147 (h : P := by rw [hg]; exact Q246) : P := h
theorem Q148 (h : P := by repeat (first | (with_reducible first | exact HI101.out | apply IsS65.alloc | apply IsS65.drewN | apply IsS65.drew | apply IsS65.set_1 | apply IsS65.set_2) | exact HI101.out)) : P := h
theorem Q149 (h : P := by repeat (first | (with_reducible first | exact HB.out | apply bA | apply bN | apply bD | refine below_set ?_ (IsS65.ge HI101.out)) | exact HB.out)) : P := h
theorem Q150 (h : P := by exact (Kd.N_reads' HO104.out).2.2) : P := h
theorem Q151 (h : P := by exact (Kd.N_reads' HO104.out).2.1) : P := h
theorem Q152 (h : P := by (with_reducible repeat (first | apply Kd.N_alloc | apply Kd.N_drewN | apply Kd.N_drew)); exact HO104.out) : P := h
theorem Q153 (h : P := by exact ⟨Q97, Q149⟩) : P := h
theorem Q154 (h : P := by first | (rw [hy102]; with_reducible exact H) | (have H2_ := (Option.bind_some _ _).symm.trans H; rw [hy102]; with_reducible exact H2_) | (have H2_ := (Option.bind_some _ _).symm.trans H; with_reducible exact H2_) | with_reducible exact H | (rw [hy102]; exact H) | exact H) : P := h
theorem Q155 (h : P := by exact GT.below HG.out (eI HB)) : P := h
theorem Q156 (h : P := by exact Q247) : P := h
theorem Q157 (h : P := by exact (below_size (eI HB))) : P := h
theorem Q158 (h : P := by exact (fun _ _ => trivial)) : P := h
theorem Q159 (h : P := by first | (rw [hy127]; with_reducible exact H) | (have H2_ := (Option.bind_some _ _).symm.trans H; rw [hy127]; with_reducible exact H2_) | (have H2_ := (Option.bind_some _ _).symm.trans H; with_reducible exact H2_) | with_reducible exact H | (rw [hy127]; exact H) | exact H) : P := h
theorem Q160 (h : P := by rw [Bool.eq_false_iff]; exact fun h_ => c40 (List.isEmpty_iff.mp h_)) : P := h
theorem Q161 (h : P := by exact (Reps.one (show Kd.M Kd.string _ _ _ (⟨#[105, 102]⟩ : ByteArray) [.string (⟨#[105, 102]⟩ : ByteArray)] from rfl) (Reps.one (show Kd.M Kd.string _ _ _ a0_6 [.string a0_6] from rfl) (Reps.none _ _)))) : P := h
theorem Q162 (h : P := by rw [Bool.eq_false_iff]; exact fun h_ => c58 (List.isEmpty_iff.mp h_)) : P := h
theorem Q163 (h : P := by exact Kd.C_below HR106_4.out Q165) : P := h
theorem Q164 (h : P := by exact ⟨Q97, Q165⟩) : P := h
theorem Q165 (h : P := by repeat (first | (with_reducible first | exact HB.out | apply bA | apply bN | apply bD | refine below_set ?_ GE107.out) | exact HB.out)) : P := h
theorem Q166 (h : P := by first | rfl | kernel_rfl) : P := h
theorem Q167 (h : P := by (with_reducible repeat (first | apply Kd.V_alloc | apply Kd.V_drewN | apply Kd.V_drew)); exact HO0.out) : P := h
theorem Q168 (h : P := by (with_reducible repeat (first | refine kN ?_ _ | refine kD ?_ | refine kA ?_ _)); refine blk_put (cs := #[.string (⟨#[]⟩ : ByteArray), .int .i64 0, .int .i64 0, .int .i64 0, .slice none 0 0, .bool false, .string (⟨#[]⟩ : ByteArray)]) ?_ 6 _ rfl; (with_reducible repeat (first | refine kN ?_ _ | refine kD ?_ | refine kA ?_ _)); refine blk_put (cs := #[.string (⟨#[]⟩ : ByteArray), .int .i64 0, .int .i64 0, .int .i64 0, .slice none 0 0, .bool false, .string (⟨#[]⟩ : ByteArray)]) ?_ 5 _ rfl; (with_reducible repeat (first | refine kN ?_ _ | refine kD ?_ | refine kA ?_ _)); refine blk_put (cs := #[.string (⟨#[]⟩ : ByteArray), .int .i64 0, .int .i64 0, .int .i64 0, .slice none 0 0, .bool false, .string (⟨#[]⟩ : ByteArray)]) ?_ 4 _ rfl; (with_reducible repeat (first | refine kN ?_ _ | refine kD ?_ | refine kA ?_ _)); refine blk_put (cs := #[.string (⟨#[]⟩ : ByteArray), .int .i64 0, .int .i64 0, .int .i64 0, .slice none 0 0, .bool false, .string (⟨#[]⟩ : ByteArray)]) ?_ 3 _ rfl; (with_reducible repeat (first | refine kN ?_ _ | refine kD ?_ | refine kA ?_ _)); refine blk_put (cs := #[.string (⟨#[]⟩ : ByteArray), .int .i64 0, .int .i64 0, .int .i64 0, .slice none 0 0, .bool false, .string (⟨#[]⟩ : ByteArray)]) ?_ 2 _ rfl; (with_reducible repeat (first | refine kN ?_ _ | refine kD ?_ | refine kA ?_ _)); refine blk_put (cs := #[.string (⟨#[]⟩ : ByteArray), .int .i64 0, .int .i64 0, .int .i64 0, .slice none 0 0, .bool false, .string (⟨#[]⟩ : ByteArray)]) ?_ 1 _ rfl; (with_reducible repeat (first | refine kN ?_ _ | refine kD ?_ | refine kA ?_ _)); refine blk_put (cs := #[.string (⟨#[]⟩ : ByteArray), .int .i64 0, .int .i64 0, .int .i64 0, .slice none 0 0, .bool false, .string (⟨#[]⟩ : ByteArray)]) ?_ 0 _ rfl; (with_reducible repeat (first | refine kN ?_ _ | refine kD ?_ | refine kA ?_ _)); exact BK101.out) : P := h
theorem Q169 (h : P := by repeat (first | (with_reducible first | exact HB.out | apply bA | apply bN | apply bD | refine below_set ?_ GE101.out) | exact HB.out)) : P := h
theorem Q170 (h : P := by (with_reducible repeat (first | refine kN ?_ _ | refine kD ?_ | refine kA ?_ _)); exact BK101.out) : P := h
theorem Q171 (h : P := by repeat (first | (with_reducible first | exact HB.out | apply bA | apply bN | apply bD | refine below_set ?_ GE101.out | refine below_set ?_ GE103.out) | exact HB.out)) : P := h
theorem Q172 (h : P := by (with_reducible repeat (first | apply Kd.V_alloc | apply Kd.V_drewN | apply Kd.V_drew)); exact HO109.out) : P := h
theorem Q173 (h : P := by have := HJ15.out; first | omega | exact Q85) : P := h
theorem Q174 (h : P := by (with_reducible repeat (first | refine kN ?_ _ | refine kD ?_ | refine kA ?_ _)); refine blk_far ?_ NB101_103.out _; (with_reducible repeat (first | refine kN ?_ _ | refine kD ?_ | refine kA ?_ _)); exact BK101.out) : P := h
theorem Q175 (h : P := by (with_reducible repeat (first | refine kN ?_ _ | refine kD ?_ | refine kA ?_ _)); refine blk_put (cs := #[.string (rdOf ByteArray.empty l0 0), .int .i64 0, .int .i64 0, .int .i64 0, .slice none 0 0, .bool false, .string (⟨#[]⟩ : ByteArray)]) ?_ 1 _ rfl; (with_reducible repeat (first | refine kN ?_ _ | refine kD ?_ | refine kA ?_ _)); exact BK103.out) : P := h
theorem Q176 (h : P := by exact GE.below HG.out Q171) : P := h
theorem Q177 (h : P := by (with_reducible repeat (first | apply Kd.V_alloc | apply Kd.V_drewN | apply Kd.V_drew)); exact HO_6.out) : P := h
theorem Q178 (h : P := by rw [hw]; exact Q248) : P := h
theorem Q179 (h : P := by rw [hw]; exact Q181) : P := h
theorem Q180 (h : P := by exact ⟨_, (x6_2), ((⟨#[]⟩ : ByteArray)), (0), (0), (0), (false), ((⟨#[]⟩ : ByteArray)), (3), (0), (0), (x104004_2), (u104004), H', ⟨Q249⟩, ⟨Q177⟩, ⟨Q182⟩, ⟨Q170⟩, ⟨Q34⟩, ⟨Q171⟩⟩) : P := h
theorem Q181 (h : P := by exact Q171) : P := h
theorem Q182 (h : P := by (with_reducible repeat (first | apply rA | apply rN | apply rD)); exact Q250) : P := h
theorem Q183 (h : P := by rw [hw]; exact Q251) : P := h
theorem Q184 (h : P := by rw [hw]; exact Q252) : P := h
theorem Q185 (h : P := by rw [hw]; exact Q253) : P := h
theorem Q186 (h : P := by first | exact Q240 | exact Q237 | exact Q238 | exact Q239 | exact Q236) : P := h
theorem Q187 (h : P := by exact GE.below HG.out Q31) : P := h
theorem Q188 (h : P := by (with_reducible repeat (first | apply Kd.S_alloc | apply Kd.S_drewN | apply Kd.S_drew)); exact HO_4.out) : P := h
theorem Q189 (h : P := by (with_reducible repeat (first | apply rA | apply rN | apply rD)); exact HO_22.out) : P := h
theorem Q190 (h : P := by exact Kd.R_V (Kd.R_tight rfl (Kd.R_apart' (HO115.out) (Kd.S_typed HO_4.out) (by decide)))) : P := h
theorem Q191 (h : P := by (with_reducible repeat (first | apply rA | apply rN | apply rD)); exact HO115.out) : P := h
theorem Q192 (h : P := by (with_reducible repeat (first | apply rA | apply rN | apply rD)); exact HO122.out) : P := h
theorem Q193 (h : P := by exact Q195) : P := h
theorem Q194 (h : P := by (with_reducible repeat (first | refine kN ?_ _ | refine kD ?_ | refine kA ?_ _)); exact BK126.out) : P := h
theorem Q195 (h : P := by repeat (first | (with_reducible first | exact HB.out | apply bA | apply bN | apply bD | refine below_set ?_ GE126.out) | exact HB.out)) : P := h
theorem Q196 (h : P := by first | rfl | (simp [errW_none, errW_some] <;> rfl) | (simp only [← hji4]; first | rfl | (simp [errW_none, errW_some] <;> rfl)) | (simp [*, errW_none, errW_some] <;> rfl)) : P := h
theorem Q197 (h : P := by exact GT.below HG.out.gt Q31) : P := h
theorem Q198 (h : P := by exact ⟨_, Q196, Q254, Q31⟩) : P := h
theorem Q199 (h : P := by (with_reducible repeat (first | apply Kd.N_alloc | apply Kd.N_drewN | apply Kd.N_drew)); exact HO110.out) : P := h
theorem Q200 (h : P := by simpa using c14) : P := h
theorem Q201 (h : P := by exact ⟨_, (true), Q5, H', ⟨Q205⟩, ⟨Q31⟩⟩) : P := h
theorem Q202 (h : P := by simpa using c17) : P := h
theorem Q203 (h : P := by (with_reducible repeat (first | apply Kd.N_alloc | apply Kd.N_drewN | apply Kd.N_drew)); exact HO120.out) : P := h
theorem Q204 (h : P := by rw [List.length_take]; have h_ : (x88_4 : Int) ≤ (l1_4.length : Int) := odt; omega) : P := h
theorem Q205 (h : P := by first | omega | exact Q85) : P := h
theorem Q206 (h : P := by exact Drawn0.refl _) : P := h
theorem Q207 (h : P := by have := HJ1.out; have := HK2.out; omega) : P := h
theorem Q208 (h : P := by repeat (first | exact Q206 | apply Drawn0.step)) : P := h
theorem Q209 (h : P := by exact (below_size Q31)) : P := h
theorem Q210 (h : P := by exact (below_size Q35)) : P := h
theorem Q211 (h : P := by exact (below_size Q40)) : P := h
theorem Q212 (h : P := by have := bltc _ _ hw101_0; first | rwa [add_block] at this | exact this) : P := h
theorem Q213 (h : P := by have := bltc _ _ hw101_1; first | rwa [add_block] at this | exact this) : P := h
theorem Q214 (h : P := by have := bltc _ _ hw101_2; first | rwa [add_block] at this | exact this) : P := h
theorem Q215 (h : P := by have := bltc _ _ hw101_3; first | rwa [add_block] at this | exact this) : P := h
theorem Q216 (h : P := by have := bltc _ _ hw101_4; first | rwa [add_block] at this | exact this) : P := h
theorem Q217 (h : P := by have := bltc _ _ hw101_5; first | rwa [add_block] at this | exact this) : P := h
theorem Q218 (h : P := by have := bltc _ _ hw101_6; first | rwa [add_block] at this | exact this) : P := h
theorem Q219 (h : P := by have := bltc _ _ hw102_0; first | rwa [add_block] at this | exact this) : P := h
theorem Q220 (h : P := by have := bltc _ _ hw102_1; first | rwa [add_block] at this | exact this) : P := h
theorem Q221 (h : P := by have := bltc _ _ hw102_2; first | rwa [add_block] at this | exact this) : P := h
theorem Q222 (h : P := by have := bltc _ _ hw102_3; first | rwa [add_block] at this | exact this) : P := h
theorem Q223 (h : P := by have := bltc _ _ hw102_4; first | rwa [add_block] at this | exact this) : P := h
theorem Q224 (h : P := by have := bltc _ _ hw102_5; first | rwa [add_block] at this | exact this) : P := h
theorem Q225 (h : P := by have := bltc _ _ hw102_6; first | rwa [add_block] at this | exact this) : P := h
theorem Q226 (h : P := by exact hf1 _ rfl (by omega)) : P := h
theorem Q227 (h : P := by exact (keep_size (w := w) (g := g) (row := none) Q81)) : P := h
theorem Q228 (h : P := by exact Nat.ne_of_lt (IsS65.lt (show IsS65 w0 _ g s0_0 t177 t178 from Q84))) : P := h
theorem Q229 (h : P := by (with_reducible repeat (first | apply Kd.N_alloc | apply Kd.N_drewN | apply Kd.N_drew)); exact Kd.N_mono HO_3.out (fun _ hk => hk)) : P := h
theorem Q230 (h : P := by exact Kd.own_blk (IsS65.own_ne HI0.out HO_4.out (by decide))) : P := h
theorem Q231 (h : P := by (with_reducible repeat (first | apply Kd.S_alloc | apply Kd.S_drewN | apply Kd.S_drew)); exact Kd.S_mono HO_3.out (fun _ hk => ⟨hk.1.1, ⟨hk.1.2, hk.2⟩⟩)) : P := h
theorem Q232 (h : P := by exact Kd.own_blk (Kd.R_ne HO_4.out BK123.out (by decide))) : P := h
theorem Q233 (h : P := by exact (Kd.S_mono (Kd.S_far (p := ⟨gb123, 6, none⟩) (Kd.S_far (p := ⟨gb123, 5, none⟩) (Kd.S_far (p := ⟨gb123, 4, none⟩) (Kd.S_far (p := ⟨gb123, 3, none⟩) (Kd.S_far (p := ⟨gb123, 2, none⟩) (Kd.S_far (p := ⟨gb123, 1, none⟩) (Kd.S_far (p := ⟨gb123, 0, none⟩) (Kd.S_mono HO_3.out (fun k_ hk => (⟨hk, hk.2.2⟩ : _ ∧ k_ ≠ gb123))) (fun _ hk => hk.2) (.string (rdOf ByteArray.empty y104 (x3_1.length : Int)))) (fun _ hk => hk.2) (.int .i64 (wrap64 (1 + t117)))) (fun _ hk => hk.2) (.int .i64 0)) (fun _ hk => hk.2) (.int .i64 0)) (fun _ hk => hk.2) (.slice none 0 0)) (fun _ hk => hk.2) (.bool t120)) (fun _ hk => hk.2) (.string (⟨#[]⟩ : ByteArray))) (fun _ h_ => h_.1))) : P := h
theorem Q234 (h : P := by exact (Kd.R_mono (Kd.R_far (p := ⟨gb123, 6, none⟩) (Kd.R_far (p := ⟨gb123, 5, none⟩) (Kd.R_far (p := ⟨gb123, 4, none⟩) (Kd.R_far (p := ⟨gb123, 3, none⟩) (Kd.R_far (p := ⟨gb123, 2, none⟩) (Kd.R_far (p := ⟨gb123, 1, none⟩) (Kd.R_far (p := ⟨gb123, 0, none⟩) (Kd.R_types HO_4.out BK123.out (by decide)) (fun _ hk => hk.2) (.string (rdOf ByteArray.empty y104 (x3_1.length : Int)))) (fun _ hk => hk.2) (.int .i64 (wrap64 (1 + t117)))) (fun _ hk => hk.2) (.int .i64 0)) (fun _ hk => hk.2) (.int .i64 0)) (fun _ hk => hk.2) (.slice none 0 0)) (fun _ hk => hk.2) (.bool t120)) (fun _ hk => hk.2) (.string (⟨#[]⟩ : ByteArray))) (fun _ h_ => h_.1))) : P := h
theorem Q235 (h : P := by exact (Kd.R_mono (Kd.R_far (p := ⟨gb123, 6, none⟩) (Kd.R_far (p := ⟨gb123, 5, none⟩) (Kd.R_far (p := ⟨gb123, 4, none⟩) (Kd.R_far (p := ⟨gb123, 3, none⟩) (Kd.R_far (p := ⟨gb123, 2, none⟩) (Kd.R_far (p := ⟨gb123, 1, none⟩) (Kd.R_far (p := ⟨gb123, 0, none⟩) (Kd.R_types HO_5.out BK123.out (by decide)) (fun _ hk => hk.2) (.string (rdOf ByteArray.empty y104 (x3_1.length : Int)))) (fun _ hk => hk.2) (.int .i64 (wrap64 (1 + t117)))) (fun _ hk => hk.2) (.int .i64 0)) (fun _ hk => hk.2) (.int .i64 0)) (fun _ hk => hk.2) (.slice none 0 0)) (fun _ hk => hk.2) (.bool t120)) (fun _ hk => hk.2) (.string (⟨#[]⟩ : ByteArray))) (fun _ h_ => h_.1))) : P := h
theorem Q236 (h : P := by exact Kd.R_nil _ _ _ _ _) : P := h
theorem Q237 (h : P := by exact Kd.N_nil _ _ _ _ _) : P := h
theorem Q238 (h : P := by exact Kd.V_nil _ _ _ _ _) : P := h
theorem Q239 (h : P := by exact Kd.Q_nil _ _ _ _ _) : P := h
theorem Q240 (h : P := by exact Kd.S_nil _ _ _ _ _) : P := h
theorem Q241 (h : P := by exact HO_124004.out) : P := h
theorem Q242 (h : P := by (with_reducible repeat (first | apply rA | apply rN | apply rD)); exact Kd.R_mono (Kd.R_far (p := ⟨gb123, 6, none⟩) (Kd.R_types HO_5.out BK123.out (by decide)) (fun _ hk => hk.2) (.string (rdOf ByteArray.empty x5_1 t157))) (fun _ hk => ⟨hk.1.1, hk.1.2⟩)) : P := h
theorem Q243 (h : P := by exact Kd.R_mono (Kd.R_far (p := ⟨gb123, 6, none⟩) (Kd.R_types HO_124004.out BK123.out (by decide)) (fun _ hk => hk.2) (.string (rdOf ByteArray.empty x5_1 t157))) (fun _ hk => ⟨hk.1.1, hk.1.2⟩)) : P := h
theorem Q244 (h : P := by (with_reducible repeat (first | apply Kd.S_alloc | apply Kd.S_drewN | apply Kd.S_drew)); exact Kd.S_mono HO_3.out (fun k_ hk => ⟨⟨hk.1.1, ⟨hk.2, hk.1.2.2⟩⟩, fun e_ => hk.1.2.1 e_⟩)) : P := h
theorem Q245 (h : P := by (with_reducible repeat (first | apply Kd.S_alloc | apply Kd.S_drewN | apply Kd.S_drew)); exact Kd.S_mono HO_3.out (fun k_ hk => ⟨⟨hk.1, ⟨hk.2.1, hk.2.2.2⟩⟩, fun e_ => hk.2.2.1 e_⟩)) : P := h
theorem Q246 (h : P := by exact (below_size hB_)) : P := h
theorem Q247 (h : P := by (with_reducible repeat (first | apply rA | apply rN | apply rD)); exact Kd.R_mono HO104.out (fun _ hk => hk.2)) : P := h
theorem Q248 (h : P := by exact Q174) : P := h
theorem Q249 (h : P := by have := HJ15.out; have := HK2.out; first | omega | exact Q85) : P := h
theorem Q250 (h : P := by exact HO_104004.out) : P := h
theorem Q251 (h : P := by exact (by (with_reducible repeat (first | apply Kd.V_alloc | apply Kd.V_drewN | apply Kd.V_drew)); exact Kd.V_mono (Kd.V_far (p := ⟨gb103, 5, none⟩) (Kd.V_mono HO_6.out (fun k_ hk => (⟨hk, hk.2.2.2⟩ : _ ∧ k_ ≠ gb103))) (fun _ hk => hk.2) (.bool true)) (fun _ hk => ⟨hk.1.1, ⟨hk.1.2.1, ⟨hk.1.2.2.1, hk.1.2.2.2⟩⟩⟩))) : P := h
theorem Q252 (h : P := by exact (by (with_reducible repeat (first | apply rA | apply rN | apply rD)); exact Kd.R_mono (Kd.R_far (p := ⟨gb103, 5, none⟩) (Kd.R_types HO_104004.out BK103.out (by decide)) (fun _ hk => hk.2) (.bool true)) (fun _ hk => hk.1))) : P := h
theorem Q253 (h : P := by exact (by (with_reducible repeat (first | refine kN ?_ _ | refine kD ?_ | refine kA ?_ _)); refine blk_put (cs := #[.string (rdOf ByteArray.empty l0 0), .int .i64 x104001_7, .int .i64 x104002_7, .int .i64 x104003_7, u104004, .bool false, .string (⟨#[]⟩ : ByteArray)]) ?_ 5 _ rfl; (with_reducible repeat (first | refine kN ?_ _ | refine kD ?_ | refine kA ?_ _)); exact BK103.out)) : P := h
theorem Q254 (h : P := by first | exact Q240 | exact Q237 | exact Q238 | exact Q239 | exact Q236) : P := h
end
end Go.Proofs.YtiaiohoadefgjaaDoor.X
namespace Go.Proofs.YtiaiohoadefgjaaDoor.X
open Go.RowKit Go.Proofs.YtiaiohoadefgjaaDoorW.PrintWords Go.Proofs.YtiaiohoadefgjaaDoorW.PrintLast Go.Proofs.YtiaiohoadefgjaaDoorW.PrintMore
attribute [local go_sem] max2_int min2_int max_two min_two max_three min_three max_four min_four
set_option linter.unusedVariables false
set_option linter.unusedSimpArgs false
attribute [-simp] ByteArray.size_append ByteArray.size_extract
attribute [-go_sem] ByteArray.size_append'
/-! ### slices_Index_string_string: function 51 -/
def slices_Index_string_string.l0 : Nat → List ByteArray → ByteArray → Int → Int → Option (Int)
 | 0, _, _, _, _ => none
 | k + 1, x0, x1, x7, x8 => if x8 < x7 then (if 0 ≤ x8 then (if x8 < (x0.length : Int) then (if x1.toList = (rdOf ByteArray.empty x0 x8).toList then (some x8) else (slices_Index_string_string.l0 k x0 x1 x7 (wrap64 (x8 + 1)))) else (none)) else (none)) else (some (-1))
def slices_Index_string_string.f (k : Nat) (l0 : List ByteArray) (a1 : ByteArray) : Option (Int) := slices_Index_string_string.l0 k l0 a1 (l0.length : Int) 0
set_option maxHeartbeats 8000000 in
set_option maxRecDepth 100000 in
theorem slices_Index_string_string.calls (k : Nat) (A0 : Option Addr) (c0 : Nat) (l0 : List ByteArray) (a1 : ByteArray) (r : Int) (w : World) (hr0 : Kd.C Kd.string w A0 l0.length l0) (hc0 : l0.length ≤ c0) (h : slices_Index_string_string.f k l0 a1 = some r) :
  Calls Tryd.prog 51 #[.slice A0 l0.length c0, .string a1] w fun e w' => e = .returned (.int .i64 r) ∧ Drawn0 w w' := by
 (have HR0 := Aside0.mk hr0); (have HC0 := Aside0.mk hc0); clear hr0 hc0; (unfold slices_Index_string_string.f at h); (have H := h); clear h; (have H' := Aside0.mk H); clear H; (go_enter Tryd.func51, Tryd.ntmps51); (go_wp2); (go_loopg [8] k (fun kq v8 w' => ∃ (x8_1 : Int), v8 = .int .i64 x8_1 ∧ Aside0 (slices_Index_string_string.l0 kq l0 a1 (l0.length : Int) x8_1 = some r) ∧ Aside0 (kq ≤ k) ∧ Drawn0 w w'))
 case atStart => exact Q0
 case round =>
  (clear H'); (try clear p2); (obtain ⟨x8_1, rfl, HA, HK1, ⟨m1, rfl⟩⟩ := hrel)
  cases gk with
  | zero => exact absurd HA.out (by simp [slices_Index_string_string.l0])
  | succ k1 =>
   (have H := HA.out); clear HA; (simp only [slices_Index_string_string.l0] at H); (by_cases c3 : x8_1 < (l0.length : Int))
   ·rw [if_pos c3] at H
    (have c3b0 := decide_eq_true c3); clear c3; (by_cases c4 : 0 ≤ x8_1)
    ·rw [if_pos c4] at H
     (have c4b0 := decide_eq_true c4); clear c4; (by_cases c5 : x8_1 < (l0.length : Int))
     ·rw [if_pos c5] at H
      (have c5b0 := decide_eq_true c5); clear c5; (by_cases c6 : a1.toList = (rdOf ByteArray.empty l0 x8_1).toList)
      ·rw [if_pos c6] at H
       (have c6b0 : (a1.toList == (rdOf ByteArray.empty l0 x8_1).toList) = true := beq_iff_eq.mpr c6); (have c6b1 : (a1.toList != (rdOf ByteArray.empty l0 x8_1).toList) = false := bne_eq_false_iff_eq.mpr c6); clear c6; (obtain rfl := Option.some.inj H); (have p101 : 0 ≤ (x8_1 : Int) := odt); (have q101 : x8_1 < (l0.length : Int) := odt); (obtain ⟨ad101, e101, hx101_0⟩ := Kd.at_string HR0.out x8_1 p101 q101); (cases e101); (replace p101 := eq_true p101); (replace q101 := eq_true q101); (go_wp2); go_ret; (exact Q1)
      ·rw [if_neg c6] at H
       (have c6b0 : (a1.toList == (rdOf ByteArray.empty l0 x8_1).toList) = false := beq_eq_false_iff_ne.mpr c6); (have c6b1 : (a1.toList != (rdOf ByteArray.empty l0 x8_1).toList) = true := bne_iff_ne.mpr c6); (have H' := Aside0.mk H); clear H; (have p101 : 0 ≤ (x8_1 : Int) := odt); (have q101 : x8_1 < (l0.length : Int) := odt); (obtain ⟨ad101, e101, hx101_0⟩ := Kd.at_string HR0.out x8_1 p101 q101); (cases e101); (replace p101 := eq_true p101); (replace q101 := eq_true q101); (go_wp2); go_roundg k1
       case measure => have := HK1.out; omega
       case rel => exact Q2
     ·rw [if_neg c5] at H
      exact Q3
    ·rw [if_neg c4] at H
     exact Q3
   ·rw [if_neg c3] at H
    (have c3b0 := decide_eq_false c3); clear c3; (obtain rfl := Option.some.inj H); (go_wp2); go_ret; (exact Q1)
/-! ### slices_Contains_string_string: function 26 -/
def slices_Contains_string_string.f (k : Nat) (l0 : List ByteArray) (a1 : ByteArray) : Option (Bool) := (slices_Index_string_string.f k l0 a1).bind fun t101 => (some (decide (t101 ≥ 0)))
set_option maxHeartbeats 8000000 in
set_option maxRecDepth 100000 in
theorem slices_Contains_string_string.calls (k : Nat) (A0 : Option Addr) (c0 : Nat) (l0 : List ByteArray) (a1 : ByteArray) (r : Bool) (w : World) (hr0 : Kd.C Kd.string w A0 l0.length l0) (hc0 : l0.length ≤ c0) (h : slices_Contains_string_string.f k l0 a1 = some r) :
  Calls Tryd.prog 26 #[.slice A0 l0.length c0, .string a1] w fun e w' => e = .returned (.bool r) ∧ Drawn0 w w' := by
 (have HR0 := Aside0.mk hr0); (have HC0 := Aside0.mk hc0); clear hr0 hc0; (unfold slices_Contains_string_string.f at h); (have H := h); clear h; (replace H := obS H); (obtain ⟨t101, A3, H⟩ := H); (obtain rfl := Option.some.inj H); (go_enter Tryd.func26, Tryd.ntmps26); (go_wp2_with (first | ((with_reducible refine gate_callee (f := 51) rfl ?_); refine gL (some 7) Tryd.func51 #[.slice A0 l0.length c0, .string a1] ?_; (with_reducible refine (slices_Index_string_string.calls k _ _ l0 a1 t101 _ ?side1 ?side2 A3.out).mono ?_); (case side1 => exact cI HR0.out); (case side2 => exact HC0.out); rintro e w' ⟨rfl, ⟨nd, rfl⟩⟩; refine ⟨_, rfl, ?_⟩))); go_ret; (exact Q1)
end Go.Proofs.YtiaiohoadefgjaaDoor.X
set_option linter.unusedVariables false
set_option linter.unusedSimpArgs false
namespace Go.Proofs.YtiaiohoadefgjaaDoor.E
open Go.RowKit Go.Proofs.YtiaiohoadefgjaaDoorW.PrintWords
variable {α β S R : Type}
theorem ev_cast {g : Nat → Option α} {r r' : α} (h : Ev g r) (e : r = r') : Ev g r' := e ▸ h
theorem ev_pos {c : Prop} [Decidable c] (h : c) {f g : Nat → Option α} {r : α} (k : Ev f r) : Ev (fun k => if c then f k else g k) r := Ev.congr (fun _ => if_pos h) k
theorem ev_neg {c : Prop} [Decidable c] (h : ¬ c) {f g : Nat → Option α} {r : α} (k : Ev g r) : Ev (fun k => if c then f k else g k) r := Ev.congr (fun _ => if_neg h) k
theorem ev_ite {c : Prop} [Decidable c] {f g : Nat → Option α} {r : α} (h1 : c → Ev f r) (h2 : ¬ c → Ev g r) : Ev (fun k => if c then f k else g k) r := by
  by_cases h : c
  · exact ev_pos h (h1 h)
  · exact ev_neg h (h2 h)
theorem ev_now {r r' : α} (e : r = r') : Ev (fun _ => some r) r' := e ▸ Ev.now r
theorem ev_bind0 {o : Option α} {a : α} (h : o = some a) {f : Nat → α → Option β} {r : β} (k : Ev (fun n => f n a) r) : Ev (fun n => o.bind (f n)) r := by subst h; exact k
theorem ev_some {a : α} {f : Nat → α → Option β} {r : β} (k : Ev (fun n => f n a) r) : Ev (fun n => (some a).bind (f n)) r := k
theorem ev_of {o : Option α} {r : α} (h : o = some r) : Ev (fun _ => o) r := h ▸ Ev.now r
theorem ev_get {g : Nat → Option α} {r : α} (h : Ev g r) : ∃ k, g k = some r := Ev.rounds h
theorem ev_unique {g : Nat → Option α} {r r' : α} (h : Ev g r) (h' : Ev g r') : r = r' := by
  obtain ⟨K, hK⟩ := h
  obtain ⟨K', hK'⟩ := h'
  have h1 := hK (max K K') (Nat.le_max_left _ _)
  have h2 := hK' (max K K') (Nat.le_max_right _ _)
  rw [h1] at h2
  exact Option.some.inj h2
theorem wrap_id {x : Int} (h0 : -9223372036854775808 ≤ x) (h1 : x ≤ 9223372036854775807) : wrap64 x = x := IntWalk.wrap64_in x ⟨h0, h1⟩
theorem wrap_succ {i n : Nat} (h : i < n) (hn : n ≤ 9223372036854775807) : wrap64 ((i : Int) + 1) = ((i + 1 : Nat) : Int) := by rw [wrap_id] <;> omega
theorem rd_nat (xs : List Int) (i : Nat) : rd xs (i : Int) = xs.getD i 0 := rfl
theorem drop_cons {xs : List α} {i : Nat} {x : α} {r : List α} (h : xs.drop i = x :: r) (d : α) : xs.getD i d = x ∧ i < xs.length ∧ xs.drop (i + 1) = r ∧ xs[i]? = some x := by
  have hi : i < xs.length := by
    rcases Nat.lt_or_ge i xs.length with h' | h'
    · exact h'
    · rw [List.drop_eq_nil_of_le h'] at h; cases h
  have h2 := List.drop_eq_getElem_cons hi
  rw [h] at h2
  injection h2 with h3 h4
  exact ⟨by rw [List.getD_eq_getElem?_getD, List.getElem?_eq_getElem hi, Option.getD_some, h3], hi, h4.symm, by rw [List.getElem?_eq_getElem hi, h3]⟩
theorem ev_scan {L : Nat → S → Int → Option R} {G : S → Nat → List α → R} (I : S → Nat → List α → Prop) (xs : List α)
    (hend : ∀ s, I s xs.length [] → Ev (fun k => L k s xs.length) (G s xs.length []))
    (hstep : ∀ s (i : Nat) x r, I s i (x :: r) → i < xs.length → xs.drop i = x :: r → (∀ d, xs.getD i d = x) →
      (∀ s', I s' (i + 1) r → Ev (fun k => L k s' ((i + 1 : Nat) : Int)) (G s' (i + 1) r)) → Ev (fun k => L k s i) (G s i (x :: r))) :
    ∀ (n i : Nat) s, n = xs.length - i → i ≤ xs.length → I s i (xs.drop i) → Ev (fun k => L k s i) (G s i (xs.drop i)) := by
  intro n
  induction n with
  | zero =>
    intro i s hn hi hI
    obtain rfl : i = xs.length := by omega
    rw [List.drop_length] at hI ⊢
    exact hend s hI
  | succ n ih =>
    intro i s hn hi hI
    have hlt : i < xs.length := by omega
    obtain ⟨x, r, hd⟩ : ∃ x r, xs.drop i = x :: r := ⟨_, _, List.drop_eq_getElem_cons hlt⟩
    have hc := fun d => drop_cons hd d
    rw [hd] at hI ⊢
    refine hstep s i x r hI hlt hd (fun d => (hc d).1) (fun s' hI' => ?_)
    have := ih (i + 1) s' (by omega) (by omega)
    rw [(hc x).2.2.1] at this
    exact this hI'
theorem ev_scan0 {L : Nat → S → Int → Option R} {G : S → Nat → List α → R} (I : S → Nat → List α → Prop) (xs : List α) (s : S) (h0 : I s 0 xs)
    (hend : ∀ s, I s xs.length [] → Ev (fun k => L k s xs.length) (G s xs.length []))
    (hstep : ∀ s (i : Nat) x r, I s i (x :: r) → i < xs.length → xs.drop i = x :: r → (∀ d, xs.getD i d = x) →
      (∀ s', I s' (i + 1) r → Ev (fun k => L k s' ((i + 1 : Nat) : Int)) (G s' (i + 1) r)) → Ev (fun k => L k s i) (G s i (x :: r))) :
    Ev (fun k => L k s 0) (G s 0 xs) := ev_scan I xs hend hstep xs.length 0 s (by omega) (by omega) h0
theorem ev_walk {L : Nat → Int → Option R} {G : Nat → List α → R} (xs : List α)
    (hend : Ev (fun k => L k xs.length) (G xs.length []))
    (hstep : ∀ (i : Nat) x r, i < xs.length → xs.drop i = x :: r → (∀ d, xs.getD i d = x) →
      Ev (fun k => L k ((i + 1 : Nat) : Int)) (G (i + 1) r) → Ev (fun k => L k i) (G i (x :: r))) :
    Ev (fun k => L k 0) (G 0 xs) :=
  ev_scan0 (L := fun k (_ : Unit) i => L k i) (G := fun _ i r => G i r) (fun _ _ _ => True) xs () trivial (fun _ _ => hend) (fun _ i x r _ h1 h2 h3 h4 => hstep i x r h1 h2 h3 (h4 () trivial))
theorem ev_same {L : Nat → Int → Option Bool} (n : Nat) (hend : Ev (fun k => L k n) true)
    (hstep : ∀ i : Nat, i < n → Ev (fun k => L k ((i + 1 : Nat) : Int)) true → Ev (fun k => L k i) true) : Ev (fun k => L k 0) true := by
  have main : ∀ (m i : Nat), m = n - i → i ≤ n → Ev (fun k => L k i) true := by
    intro m
    induction m with
    | zero => intro i h1 h2; obtain rfl : i = n := by omega
              exact hend
    | succ m ih => intro i h1 h2; exact hstep i (by omega) (ih (i + 1) (by omega) (by omega))
  exact main n 0 (by omega) (by omega)
def idxG (p : α → Bool) : Nat → List α → Int
  | _, [] => -1
  | i, x :: r => if p x = true then (i : Int) else idxG p (i + 1) r
theorem idxG_spec (p : α → Bool) : ∀ (l : List α) (i : Nat), (idxG p i l = -1 ∧ ∀ x ∈ l, p x = false) ∨
    ∃ j x, j < l.length ∧ idxG p i l = ((i + j : Nat) : Int) ∧ l[j]? = some x ∧ p x = true ∧ l.find? p = some x ∧ ∀ m y, m < j → l[m]? = some y → p y = false
  | [], i => .inl ⟨rfl, by simp⟩
  | x :: r, i => by
    by_cases h : p x = true
    · exact .inr ⟨0, x, by simp, by simp [idxG, h], rfl, h, by simp [h], fun m y hm => by omega⟩
    · rcases idxG_spec p r (i + 1) with ⟨h1, h2⟩ | ⟨j, y, h1, h2, h3, h4, h5, h6⟩
      · refine .inl ⟨by simp [idxG, h, h1], fun z hz => ?_⟩
        rcases List.mem_cons.1 hz with rfl | hz
        · simpa using h
        · exact h2 z hz
      · refine .inr ⟨j + 1, y, by simp only [List.length_cons]; omega, ?_, by simpa using h3, h4, by simp [h, h5], fun m z hm hz => ?_⟩
        · rw [idxG, if_neg h, h2]; congr 1; omega
        · cases m with
          | zero => simp at hz; subst hz; simpa using h
          | succ m => exact h6 m z (by omega) (by simpa using hz)
theorem idxG_lt (p : α → Bool) (l : List α) (i : Nat) : idxG p i l < 0 ↔ l.any p = false := by
  rcases idxG_spec p l i with ⟨h1, h2⟩ | ⟨j, x, h1, h2, h3, h4, h5, h6⟩
  · rw [h1]
    refine ⟨fun _ => ?_, fun _ => by omega⟩
    rw [List.any_eq_false]; intro x hx; simp [h2 x hx]
  · rw [h2]
    refine ⟨fun h => by omega, fun h => ?_⟩
    rw [List.any_eq_false] at h
    exact absurd h4 (h x (List.mem_of_getElem? h3))
theorem idxG_here {p : α → Bool} {l : List α} {k : Nat} {x : α} (hx : l[k]? = some x) (hp : p x = true) (h : ∀ m y, m < k → l[m]? = some y → p y = false) : idxG p 0 l = (k : Int) := by
  rcases idxG_spec p l 0 with ⟨h1, h2⟩ | ⟨j, y, h1, h2, h3, h4, h5, h6⟩
  · exact absurd hp (by rw [h2 x (List.mem_of_getElem? hx)]; simp)
  · rcases Nat.lt_trichotomy j k with hj | hj | hj
    · rw [h j y hj h3] at h4; cases h4
    · subst hj; rw [h2]; simp
    · rw [h6 k x hj hx] at hp; cases hp
theorem idxG_none {p : α → Bool} {l : List α} (h : ∀ m y, m < l.length → l[m]? = some y → p y = false) : idxG p 0 l = -1 := by
  rcases idxG_spec p l 0 with ⟨h1, h2⟩ | ⟨j, y, h1, h2, h3, h4, h5, h6⟩
  · exact h1
  · rw [h j y h1 h3] at h4; cases h4
theorem idxG_nonneg (p : α → Bool) (l : List α) (i : Nat) : decide (0 ≤ idxG p i l) = l.any p := by
  have h := idxG_lt p l i
  by_cases c : l.any p = true
  · rw [c, decide_eq_true_eq]
    have : ¬ idxG p i l < 0 := fun h' => by rw [h.1 h'] at c; cases c
    omega
  · have c' : l.any p = false := by simpa using c
    rw [c', decide_eq_false_iff_not]
    have := h.2 c'
    omega
theorem ev_all {L : Nat → S → Int → Option R} (n : Nat) (St : Nat → S) (C : Nat → Bool) (F Rn : R) (hend : (∀ j, j < n → C j = true) → Ev (fun k => L k (St n) n) Rn)
    (hs : ∀ i, i < n → (∀ j, j < i → C j = true) → C i = true → ∀ y, Ev (fun k => L k (St (i + 1)) ((i + 1 : Nat) : Int)) y → Ev (fun k => L k (St i) i) y)
    (hf : ∀ i, i < n → (∀ j, j < i → C j = true) → C i = false → Ev (fun k => L k (St i) i) F) : Ev (fun k => L k (St 0) 0) (if (List.range n).all C = true then Rn else F) := by
  have main : ∀ (m i : Nat), m = n - i → i ≤ n → (∀ j, j < i → C j = true) → Ev (fun k => L k (St i) i) (if (List.range n).all C = true then Rn else F) := by
    intro m
    induction m with
    | zero =>
      intro i hm hi hC
      obtain rfl : i = n := by omega
      rw [if_pos (by rw [List.all_eq_true]; intro x hx; exact hC x (List.mem_range.1 hx))]
      exact hend hC
    | succ m ih =>
      intro i hm hi hC
      have hlt : i < n := by omega
      cases hc : C i with
      | true =>
        refine hs i hlt hC hc _ (ih (i + 1) (by omega) (by omega) (fun j hj => ?_))
        by_cases e : j = i
        · rw [e]; exact hc
        · exact hC j (by omega)
      | false =>
        rw [if_neg (by rw [List.all_eq_true]; intro h; rw [h i (List.mem_range.2 hlt)] at hc; cases hc)]
        exact hf i hlt hC hc
  exact main n 0 (by omega) (by omega) (fun j hj => by omega)
theorem ev_all0 {L : Nat → Int → Option R} (n : Nat) (C : Nat → Bool) (F Rn : R) (hend : (∀ j, j < n → C j = true) → Ev (fun k => L k n) Rn)
    (hs : ∀ i, i < n → (∀ j, j < i → C j = true) → C i = true → ∀ y, Ev (fun k => L k ((i + 1 : Nat) : Int)) y → Ev (fun k => L k i) y)
    (hf : ∀ i, i < n → (∀ j, j < i → C j = true) → C i = false → Ev (fun k => L k i) F) : Ev (fun k => L k 0) (if (List.range n).all C = true then Rn else F) :=
  ev_all (L := fun k (_ : Unit) i => L k i) n (fun _ => ()) C F Rn hend hs hf
theorem all_range {n : Nat} {C : Nat → Bool} : (List.range n).all C = true ↔ ∀ i, i < n → C i = true := by
  rw [List.all_eq_true]
  exact ⟨fun h i hi => h i (List.mem_range.2 hi), fun h i hi => h i (List.mem_range.1 hi)⟩
theorem getD_in {α : Type} {l : List α} {i : Nat} (h : i < l.length) (d : α) : l.getD i d = l[i] := by rw [List.getD_eq_getElem?_getD, List.getElem?_eq_getElem h, Option.getD_some]
theorem wrap_pred {i : Nat} (h : 0 < i) (hn : i ≤ 9223372036854775807) : wrap64 ((i : Int) - 1) = ((i - 1 : Nat) : Int) := by rw [wrap_id] <;> omega
theorem idxG_take (p : α → Bool) : ∀ (l : List α) (s i : Nat), idxG p s (l.take i) = if (s : Int) ≤ idxG p s l ∧ idxG p s l < ((s + i : Nat) : Int) then idxG p s l else -1
  | [], s, i => by
    rw [List.take_nil]
    by_cases h : (s : Int) ≤ idxG p s ([] : List α) ∧ idxG p s ([] : List α) < ((s + i : Nat) : Int)
    · rw [if_pos h]
    · rw [if_neg h]; rfl
  | x :: r, s, 0 => by
    have h : idxG p s ((x :: r).take 0) = -1 := rfl
    rw [h, if_neg]
    omega
  | x :: r, s, i + 1 => by
    rw [List.take_succ_cons]
    by_cases h : p x = true
    · have e1 : idxG p s (x :: r) = (s : Int) := by simp [idxG, h]
      have e2 : idxG p s (x :: r.take i) = (s : Int) := by simp [idxG, h]
      rw [e1, e2, if_pos (by omega)]
    · have e1 : idxG p s (x :: r) = idxG p (s + 1) r := by simp [idxG, h]
      have e2 : idxG p s (x :: r.take i) = idxG p (s + 1) (r.take i) := by simp [idxG, h]
      rw [e1, e2, idxG_take p r (s + 1) i]
      rcases idxG_spec p r (s + 1) with ⟨h1, _⟩ | ⟨j, y, _, h2, _⟩
      · rw [h1, if_neg (by omega), if_neg (by omega)]
      · rw [h2]
        by_cases c : j < i
        · rw [if_pos (by omega), if_pos (by omega)]
        · rw [if_neg (by omega), if_neg (by omega)]
theorem idxG_first {p : α → Bool} {l : List α} {i : Nat} {x : α} (hx : l[i]? = some x) (hp : p x = true) : idxG p 0 l = (i : Int) ↔ idxG p 0 (l.take i) < 0 := by
  rw [idxG_take]
  have hle : 0 ≤ idxG p 0 l ∧ idxG p 0 l ≤ (i : Int) := by
    rcases idxG_spec p l 0 with ⟨h1, h2⟩ | ⟨j, y, h0, h2, h3, h4, h5, h6⟩
    · rw [h2 x (List.mem_of_getElem? hx)] at hp; cases hp
    · rw [h2]
      rcases Nat.lt_or_ge i j with h | h
      · rw [h6 i x h hx] at hp; cases hp
      · omega
  constructor
  · intro e
    rw [e, if_neg (by omega)]; omega
  · intro h
    by_cases c : ((0 : Nat) : Int) ≤ idxG p 0 l ∧ idxG p 0 l < ((0 + i : Nat) : Int)
    · rw [if_pos c] at h; omega
    · omega
end Go.Proofs.YtiaiohoadefgjaaDoor.E
set_option linter.unusedVariables false
namespace Go.Proofs.YtiaiohoadefgjaaDoor.X
open Go.RowKit Go.Proofs.YtiaiohoadefgjaaDoorW.PrintWords Go.Proofs.YtiaiohoadefgjaaDoorW.PrintLast Go.Proofs.YtiaiohoadefgjaaDoorW.PrintMore Go.Proofs.YtiaiohoadefgjaaDoor.E
set_option maxHeartbeats 1000000 in
set_option maxRecDepth 100000 in
theorem idxFunc69 (A_ : Option Addr) (c_ : Nat) (l0 : List (S54)) (g : Nat) (lb : Array Value) (p : S54 → Bool) (w : World)
  (hr0 : Kd.C k54 w A_ l0.length l0) (eg : ∀ args w, (callFunc g args).run Tryd.prog w = .ok (.enter g args) w)
  (hp : ∀ (W : World) (x : S54) (A4 : Option Addr) (c4 : Nat), x ∈ l0 → Below w.heap.size w W → x.f4.length ≤ c4 → Kd.C Kd.string W A4 x.f4.length x.f4 → Calls Tryd.prog g (#[.agg #[.string x.f0, .int .i64 x.f1, .int .i64 x.f2, .int .i64 x.f3, .slice A4 x.f4.length c4, .bool x.f5, .string x.f6]] ++ lb) W fun e w' => e = .returned (.bool (p x)) ∧ Below W.heap.size W w') :
  Calls Tryd.prog 69 #[.slice A_ l0.length c_, .func (.func g) #[] lb] w fun e w' => e = .returned (.int .i64 (idxG p 0 l0)) ∧ Below w.heap.size w w' := by
 have hu54 := Tryd.underlying54
 have HL := Aside0.mk hr0.2.1
 have HR0 := Aside0.mk hr0
 have HP := Aside0.mk hp
 clear hr0 hp
 go_enter Tryd.func69, Tryd.ntmps69
 go_wp2
 go_loopg [5, 8] l0.length (fun gg _ s8 wr => ∃ x8 : Int, s8 = .int .i64 x8 ∧ Aside0 (0 ≤ x8) ∧ Aside0 (x8 ≤ (l0.length : Int)) ∧ Aside0 ((l0.length : Int) - x8 ≤ (gg : Int)) ∧ Aside0 (Below w.heap.size w wr) ∧ Aside0 (∀ (m : Nat) y, (m : Int) < x8 → l0[m]? = some y → p y = false))
 case atStart => exact ⟨0, rfl, ⟨by omega⟩, ⟨by omega⟩, ⟨by omega⟩, ⟨Below.refl _ _⟩, ⟨fun m y hm => by omega⟩⟩
 case round =>
  obtain ⟨x8, rfl, H0, H1, HG, HB, HN⟩ := hrel
  by_cases c : x8 < (l0.length : Int)
  ·have p1 := H0.out
   have q1 := c
   have cb : decide (x8 < (l0.length : Int)) = true := decide_eq_true c
   obtain ⟨ad, A4, c4, e, hx0, hx1, hx2, hx3, hx4, hx5, hx6, hl4, hi4⟩ := at_T54 (Kd.C_below HR0.out HB.out) x8 p1 q1
   cases e
   replace p1 := eq_true p1
   replace q1 := eq_true q1
   have hel : l0[x8.toNat]? = some (rd_T54 l0 x8) := by
    have := H0.out
    unfold rd_T54
    rw [List.getD_eq_getElem?_getD, List.getElem?_eq_getElem (show x8.toNat < l0.length by omega), Option.getD_some]
   have hcall := HP.out wr (rd_T54 l0 x8) A4 c4 (List.mem_of_getElem? hel) HB.out hl4 hi4
   clear hl4 hi4
   have HE := Aside0.mk hel
   clear hel
   have hwr : wrap64 (x8 + 1) = x8 + 1 := wrap_id (by have := H0.out; omega) (by have := HL.out; omega)
   cases hq : p (rd_T54 l0 x8) with
   | true =>
    rw [hq] at hcall
    have HQ := Aside0.mk hq
    clear hq
    go_wp2_with (go_at_fn g; refine hcall.mono ?_; rintro e w' ⟨rfl, hb⟩)
    go_ret
    refine ⟨?_, ?_⟩
    ·rw [idxG_here HE.out HQ.out (fun m y hm => HN.out m y (by have := H0.out; omega))]
     have := H0.out
     rw [Int.toNat_of_nonneg (by omega)]
     rfl
    ·exact below_step HB.out hb
   | false =>
    rw [hq] at hcall
    have HQ := Aside0.mk hq
    clear hq
    go_wp2_with (go_at_fn g; refine hcall.mono ?_; rintro e w' ⟨rfl, hb⟩)
    go_roundg (l0.length - (x8.toNat + 1))
    case measure => have := HG.out; have := H0.out; omega
    case rel =>
     refine ⟨x8 + 1, by simp [*], ⟨by have := H0.out; omega⟩, ⟨by omega⟩, ⟨by have := H0.out; omega⟩, ⟨below_step HB.out hb⟩, ⟨fun m y hm hy => ?_⟩⟩
     by_cases e : (m : Int) = x8
     ·have : x8.toNat = m := by omega
      rw [← this, HE.out] at hy
      cases hy
      exact HQ.out
     ·exact HN.out m y (by omega) hy
  ·have cb : decide (x8 < (l0.length : Int)) = false := decide_eq_false c
   have e : x8 = (l0.length : Int) := by have := H1.out; omega
   have HE := Aside0.mk e
   clear e
   go_wp2
   go_ret
   refine ⟨?_, HB.out⟩
   rw [idxG_none (fun m y hm => HN.out m y (by rw [HE.out]; omega))]
   rfl
end Go.Proofs.YtiaiohoadefgjaaDoor.X
namespace Go.Proofs.YtiaiohoadefgjaaDoor.X
open Go.RowKit Go.Proofs.YtiaiohoadefgjaaDoorW.PrintWords Go.Proofs.YtiaiohoadefgjaaDoorW.PrintLast Go.Proofs.YtiaiohoadefgjaaDoorW.PrintMore Go.Proofs.YtiaiohoadefgjaaDoor.E
attribute [local go_sem] max2_int min2_int max_two min_two max_three min_three max_four min_four
set_option linter.unusedVariables false
set_option linter.unusedSimpArgs false
attribute [-simp] ByteArray.size_append ByteArray.size_extract
attribute [-go_sem] ByteArray.size_append'
/-! ### impl_fieldOf: function 46 -/
theorem fieldOf1 (x : S54) (A4 : Option Addr) (c4 : Nat) (a : ByteArray) (B : Nat) (w : World) (hc : w.cell? ⟨B, 0, none⟩ = some (.string a)) :
  Calls Tryd.prog 70 #[.agg #[.string x.f0, .int .i64 x.f1, .int .i64 x.f2, .int .i64 x.f3, .slice A4 x.f4.length c4, .bool x.f5, .string x.f6], .pointer (some ⟨B, 0, none⟩)] w fun e w' => e = .returned (.bool (x.f0.toList == a.toList)) ∧ Below w.heap.size w w' := by
 (have hu59 := Tryd.underlying54); (have hc' : ∀ o : Obj, (w.alloc o).cell? ⟨B, 0, none⟩ = some (.string a) := fun o => ((((Below.refl _ _).alloc (Nat.le_refl _) o).cell (p := ⟨B, 0, none⟩) (bltc w _ hc))).trans hc); (go_enter Tryd.func70, Tryd.ntmps70); (go_wp2); go_ret; (exact ⟨rfl, (Below.refl _ _).alloc (Nat.le_refl _) _⟩)
def impl_fieldOf.f (l0 : List S54) (a1 : ByteArray) : Option Int := some (idxG (fun x : S54 => x.f0.toList == a1.toList) 0 l0)
set_option maxHeartbeats 400000 in
set_option maxRecDepth 100000 in
theorem impl_fieldOf.calls (A0 : Option Addr) (c0 : Nat) (l0 : List (S54)) (a1 : ByteArray) (r : Int) (w : World) (hr0 : Kd.C k54 w A0 l0.length l0) (hc0 : l0.length ≤ c0) (h : impl_fieldOf.f l0 a1 = some r) :
  Calls Tryd.prog 46 #[.slice A0 l0.length c0, .string a1] w fun e w' => e = .returned (.int .i64 r) ∧ Below w.heap.size w w' := by
 (have hr := Option.some.inj h); (have HH := Aside0.mk hr); clear h hr
 have C := fun (W : World) (hb : Below w.heap.size w W) (hlt : w.heap.size < W.heap.size) (hcell : W.cell? ⟨w.heap.size, 0, none⟩ = some (.string a1)) =>
  idxFunc69 A0 c0 l0 70 #[.pointer (some ⟨w.heap.size, 0, none⟩)] (fun x : S54 => x.f0.toList == a1.toList) W (Kd.C_below hr0 hb) (enters_of Tryd.func70 (by kernel_rfl) rfl) (fun W' x A4 c4 _ hb' _ _ => fieldOf1 x A4 c4 a1 w.heap.size W' ((hb'.cell (p := ⟨w.heap.size, 0, none⟩) hlt).trans hcell))
 (have CC := Aside0.mk C); clear C hr0; (go_enter Tryd.func46, Tryd.ntmps46); (go_wp2_with (go_at_call 69; refine (CC.out _ ?s1 ?s2 ?s3).mono ?_; (case s1 => exact (Below.refl _ _).alloc (Nat.le_refl _) _); (case s2 => simp); (case s3 => simp); rintro e w' ⟨rfl, hb⟩)); go_ret; (refine ⟨?_, below_step ((Below.refl _ _).alloc (Nat.le_refl _) _) hb⟩); (rw [← HH.out]); rfl
end Go.Proofs.YtiaiohoadefgjaaDoor.X
namespace Go.Proofs.YtiaiohoadefgjaaDoor.X
open Go.RowKit Go.Proofs.YtiaiohoadefgjaaDoorW.PrintWords Go.Proofs.YtiaiohoadefgjaaDoorW.PrintLast Go.Proofs.YtiaiohoadefgjaaDoorW.PrintMore
attribute [local go_sem] max2_int min2_int max_two min_two max_three min_three max_four min_four
set_option linter.unusedVariables false
set_option linter.unusedSimpArgs false
attribute [-simp] ByteArray.size_append ByteArray.size_extract
attribute [-go_sem] ByteArray.size_append'
/-! ### impl_within: function 59 -/
def impl_within.f (a0 : Int) (a1 : Int) (a2 : Int) : Option (Bool) := if a0 ≥ a1 then (some (decide (a0 ≤ a2))) else (some false)
set_option maxHeartbeats 8000000 in
set_option maxRecDepth 100000 in
theorem impl_within.calls (a0 : Int) (a1 : Int) (a2 : Int) (r : Bool) (w : World) (h : impl_within.f a0 a1 a2 = some r) :
  Calls Tryd.prog 59 #[.int .i64 a0, .int .i64 a1, .int .i64 a2] w fun e w' => e = .returned (.bool r) ∧ Drawn0 w w' := by
 (unfold impl_within.f at h); (have H := h); clear h; (by_cases c4 : a0 ≥ a1); (· (rw [if_pos c4] at H); (have c4b0 : decide (a1 ≤ a0) = true := decide_eq_true c4); clear c4; (obtain rfl := Option.some.inj H); (go_enter Tryd.func59, Tryd.ntmps59); (go_wp2); go_ret; (exact Q1)); (· (rw [if_neg c4] at H); (have c4b0 : decide (a1 ≤ a0) = false := decide_eq_false c4); clear c4; (obtain rfl := Option.some.inj H); (go_enter Tryd.func59, Tryd.ntmps59); (go_wp2); go_ret; (exact Q1))
/-! ### impl_isName: function 58 -/
def impl_isName.l0 : Nat → ByteArray → Int → Int → Option (Bool)
 | 0, _, _, _ => none
 | k + 1, x0, x7, x8 => if x8 < x7 then (if 0 ≤ x8 then (if x8 < (x0.size : Int) then (if (bt x0 x8) ≥ 97 then (if (bt x0 x8) ≥ 48 then (if ((bt x0 x8) ≤ 122) then (impl_isName.l0 k x0 x7 (wrap64 (x8 + 1))) else (if x8 = 0 then (some false) else (if ((bt x0 x8) ≤ 57) then (impl_isName.l0 k x0 x7 (wrap64 (x8 + 1))) else (some false)))) else (if ((bt x0 x8) ≤ 122) then (impl_isName.l0 k x0 x7 (wrap64 (x8 + 1))) else (if x8 = 0 then (some false) else (some false)))) else (if (bt x0 x8) ≥ 48 then (if x8 = 0 then (some false) else (if ((bt x0 x8) ≤ 57) then (impl_isName.l0 k x0 x7 (wrap64 (x8 + 1))) else (some false))) else (if x8 = 0 then (some false) else (some false)))) else (none)) else (none)) else ((impl_within.f (x0.size : Int) 1 8).bind fun t101 => (some t101))
def impl_isName.f (k : Nat) (a0 : ByteArray) : Option (Bool) := impl_isName.l0 k a0 (a0.size : Int) 0
set_option maxHeartbeats 8000000 in
set_option maxRecDepth 100000 in
theorem impl_isName.calls (k : Nat) (a0 : ByteArray) (r : Bool) (w : World) (h : impl_isName.f k a0 = some r) :
  Calls Tryd.prog 58 #[.string a0] w fun e w' => e = .returned (.bool r) ∧ Drawn0 w w' := by
 (unfold impl_isName.f at h); (have H := h); clear h; (have H' := Aside0.mk H); clear H; (go_enter Tryd.func58, Tryd.ntmps58); (go_wp2); (go_loopg [8] k (fun kq v8 w' => ∃ (x8_1 : Int), v8 = .int .i64 x8_1 ∧ Aside0 (impl_isName.l0 kq a0 (a0.size : Int) x8_1 = some r) ∧ Aside0 (kq ≤ k) ∧ Drawn0 w w'))
 case atStart => exact Q0
 case round =>
  (clear H'); (obtain ⟨x8_1, rfl, HA, HK1, ⟨m1, rfl⟩⟩ := hrel)
  cases gk with
  | zero => exact absurd HA.out (by simp [impl_isName.l0])
  | succ k1 =>
   (have H := HA.out); clear HA; (simp only [impl_isName.l0] at H); (by_cases c2 : x8_1 < (a0.size : Int))
   ·rw [if_pos c2] at H
    (have c2b0 := decide_eq_true c2); clear c2; (by_cases c3 : 0 ≤ x8_1)
    ·rw [if_pos c3] at H
     (have c3b0 := decide_eq_true c3); clear c3; (by_cases c4 : x8_1 < (a0.size : Int))
     ·rw [if_pos c4] at H
      (have c4b0 := decide_eq_true c4); clear c4; (by_cases c6 : (bt a0 x8_1) ≥ 97)
      ·rw [if_pos c6] at H
       (have c6b0 : decide (97 ≤ (bt a0 x8_1)) = true := decide_eq_true c6); clear c6; (by_cases c9 : (bt a0 x8_1) ≥ 48)
       ·rw [if_pos c9] at H
        (have c9b0 : decide (48 ≤ (bt a0 x8_1)) = true := decide_eq_true c9); clear c9; (by_cases c11 : ((bt a0 x8_1) ≤ 122))
        ·rw [if_pos c11] at H
         (have c11b0 : decide ((bt a0 x8_1) ≤ 122) = true := decide_eq_true c11); clear c11; (have H' := Aside0.mk H); clear H; (have p5 : 0 ≤ (x8_1 : Int) := odt); (have q5 : x8_1 < (a0.size : Int) := odt); (have hx5 := bt_at a0 x8_1); (replace p5 := eq_true p5); (replace q5 := eq_true q5); (have p7 : 0 ≤ (x8_1 : Int) := odt); (have q7 : x8_1 < (a0.size : Int) := odt); (have hx7 := bt_at a0 x8_1); (replace p7 := eq_true p7); (replace q7 := eq_true q7); (have p8 : 0 ≤ (x8_1 : Int) := odt); (have q8 : x8_1 < (a0.size : Int) := odt); (have hx8 := bt_at a0 x8_1); (replace p8 := eq_true p8); (replace q8 := eq_true q8); (have p10 : 0 ≤ (x8_1 : Int) := odt); (have q10 : x8_1 < (a0.size : Int) := odt); (have hx10 := bt_at a0 x8_1); (replace p10 := eq_true p10); (replace q10 := eq_true q10); (go_wp2); go_roundg k1
         case measure => have := HK1.out; omega
         case rel => exact Q2
        ·rw [if_neg c11] at H
         (have c11b0 : decide ((bt a0 x8_1) ≤ 122) = false := decide_eq_false c11); clear c11; (by_cases c12 : x8_1 = 0)
         ·rw [if_pos c12] at H
          (have c12b0 : (x8_1 == 0) = true := beq_iff_eq.mpr c12); (have c12b1 : (x8_1 != 0) = false := bne_eq_false_iff_eq.mpr c12); clear c12; (obtain rfl := Option.some.inj H); (have p5 : 0 ≤ (x8_1 : Int) := odt); (have q5 : x8_1 < (a0.size : Int) := odt); (have hx5 := bt_at a0 x8_1); (replace p5 := eq_true p5); (replace q5 := eq_true q5); (have p7 : 0 ≤ (x8_1 : Int) := odt); (have q7 : x8_1 < (a0.size : Int) := odt); (have hx7 := bt_at a0 x8_1); (replace p7 := eq_true p7); (replace q7 := eq_true q7); (have p8 : 0 ≤ (x8_1 : Int) := odt); (have q8 : x8_1 < (a0.size : Int) := odt); (have hx8 := bt_at a0 x8_1); (replace p8 := eq_true p8); (replace q8 := eq_true q8); (have p10 : 0 ≤ (x8_1 : Int) := odt); (have q10 : x8_1 < (a0.size : Int) := odt); (have hx10 := bt_at a0 x8_1); (replace p10 := eq_true p10); (replace q10 := eq_true q10); (go_wp2); go_ret; (exact Q1)
         ·rw [if_neg c12] at H
          (have c12b0 : (x8_1 == 0) = false := beq_eq_false_iff_ne.mpr c12); (have c12b1 : (x8_1 != 0) = true := bne_iff_ne.mpr c12); (by_cases c13 : ((bt a0 x8_1) ≤ 57))
          ·rw [if_pos c13] at H
           (have c13b0 : decide ((bt a0 x8_1) ≤ 57) = true := decide_eq_true c13); clear c13; (have H' := Aside0.mk H); clear H; (have p5 : 0 ≤ (x8_1 : Int) := odt); (have q5 : x8_1 < (a0.size : Int) := odt); (have hx5 := bt_at a0 x8_1); (replace p5 := eq_true p5); (replace q5 := eq_true q5); (have p7 : 0 ≤ (x8_1 : Int) := odt); (have q7 : x8_1 < (a0.size : Int) := odt); (have hx7 := bt_at a0 x8_1); (replace p7 := eq_true p7); (replace q7 := eq_true q7); (have p8 : 0 ≤ (x8_1 : Int) := odt); (have q8 : x8_1 < (a0.size : Int) := odt); (have hx8 := bt_at a0 x8_1); (replace p8 := eq_true p8); (replace q8 := eq_true q8); (have p10 : 0 ≤ (x8_1 : Int) := odt); (have q10 : x8_1 < (a0.size : Int) := odt); (have hx10 := bt_at a0 x8_1); (replace p10 := eq_true p10); (replace q10 := eq_true q10); (go_wp2); go_roundg k1
           case measure => have := HK1.out; omega
           case rel => exact Q2
          ·rw [if_neg c13] at H
           (have c13b0 : decide ((bt a0 x8_1) ≤ 57) = false := decide_eq_false c13); clear c13; (obtain rfl := Option.some.inj H); (have p5 : 0 ≤ (x8_1 : Int) := odt); (have q5 : x8_1 < (a0.size : Int) := odt); (have hx5 := bt_at a0 x8_1); (replace p5 := eq_true p5); (replace q5 := eq_true q5); (have p7 : 0 ≤ (x8_1 : Int) := odt); (have q7 : x8_1 < (a0.size : Int) := odt); (have hx7 := bt_at a0 x8_1); (replace p7 := eq_true p7); (replace q7 := eq_true q7); (have p8 : 0 ≤ (x8_1 : Int) := odt); (have q8 : x8_1 < (a0.size : Int) := odt); (have hx8 := bt_at a0 x8_1); (replace p8 := eq_true p8); (replace q8 := eq_true q8); (have p10 : 0 ≤ (x8_1 : Int) := odt); (have q10 : x8_1 < (a0.size : Int) := odt); (have hx10 := bt_at a0 x8_1); (replace p10 := eq_true p10); (replace q10 := eq_true q10); (go_wp2); go_ret; (exact Q1)
       ·rw [if_neg c9] at H
        (have c9b0 : decide (48 ≤ (bt a0 x8_1)) = false := decide_eq_false c9); clear c9; (by_cases c14 : ((bt a0 x8_1) ≤ 122))
        ·rw [if_pos c14] at H
         (have c14b0 : decide ((bt a0 x8_1) ≤ 122) = true := decide_eq_true c14); clear c14; (have H' := Aside0.mk H); clear H; (have p5 : 0 ≤ (x8_1 : Int) := odt); (have q5 : x8_1 < (a0.size : Int) := odt); (have hx5 := bt_at a0 x8_1); (replace p5 := eq_true p5); (replace q5 := eq_true q5); (have p7 : 0 ≤ (x8_1 : Int) := odt); (have q7 : x8_1 < (a0.size : Int) := odt); (have hx7 := bt_at a0 x8_1); (replace p7 := eq_true p7); (replace q7 := eq_true q7); (have p8 : 0 ≤ (x8_1 : Int) := odt); (have q8 : x8_1 < (a0.size : Int) := odt); (have hx8 := bt_at a0 x8_1); (replace p8 := eq_true p8); (replace q8 := eq_true q8); (go_wp2); go_roundg k1
         case measure => have := HK1.out; omega
         case rel => exact Q2
        ·rw [if_neg c14] at H
         (have c14b0 : decide ((bt a0 x8_1) ≤ 122) = false := decide_eq_false c14); clear c14; (by_cases c15 : x8_1 = 0)
         ·rw [if_pos c15] at H
          (have c15b0 : (x8_1 == 0) = true := beq_iff_eq.mpr c15); (have c15b1 : (x8_1 != 0) = false := bne_eq_false_iff_eq.mpr c15); clear c15; (obtain rfl := Option.some.inj H); (have p5 : 0 ≤ (x8_1 : Int) := odt); (have q5 : x8_1 < (a0.size : Int) := odt); (have hx5 := bt_at a0 x8_1); (replace p5 := eq_true p5); (replace q5 := eq_true q5); (have p7 : 0 ≤ (x8_1 : Int) := odt); (have q7 : x8_1 < (a0.size : Int) := odt); (have hx7 := bt_at a0 x8_1); (replace p7 := eq_true p7); (replace q7 := eq_true q7); (have p8 : 0 ≤ (x8_1 : Int) := odt); (have q8 : x8_1 < (a0.size : Int) := odt); (have hx8 := bt_at a0 x8_1); (replace p8 := eq_true p8); (replace q8 := eq_true q8); (go_wp2); go_ret; (exact Q1)
         ·rw [if_neg c15] at H
          (have c15b0 : (x8_1 == 0) = false := beq_eq_false_iff_ne.mpr c15); (have c15b1 : (x8_1 != 0) = true := bne_iff_ne.mpr c15); (obtain rfl := Option.some.inj H); (have p5 : 0 ≤ (x8_1 : Int) := odt); (have q5 : x8_1 < (a0.size : Int) := odt); (have hx5 := bt_at a0 x8_1); (replace p5 := eq_true p5); (replace q5 := eq_true q5); (have p7 : 0 ≤ (x8_1 : Int) := odt); (have q7 : x8_1 < (a0.size : Int) := odt); (have hx7 := bt_at a0 x8_1); (replace p7 := eq_true p7); (replace q7 := eq_true q7); (have p8 : 0 ≤ (x8_1 : Int) := odt); (have q8 : x8_1 < (a0.size : Int) := odt); (have hx8 := bt_at a0 x8_1); (replace p8 := eq_true p8); (replace q8 := eq_true q8); (go_wp2); go_ret; (exact Q1)
      ·rw [if_neg c6] at H
       (have c6b0 : decide (97 ≤ (bt a0 x8_1)) = false := decide_eq_false c6); clear c6; (by_cases c17 : (bt a0 x8_1) ≥ 48)
       ·rw [if_pos c17] at H
        (have c17b0 : decide (48 ≤ (bt a0 x8_1)) = true := decide_eq_true c17); clear c17; (by_cases c19 : x8_1 = 0)
        ·rw [if_pos c19] at H
         (have c19b0 : (x8_1 == 0) = true := beq_iff_eq.mpr c19); (have c19b1 : (x8_1 != 0) = false := bne_eq_false_iff_eq.mpr c19); clear c19; (obtain rfl := Option.some.inj H); (have p5 : 0 ≤ (x8_1 : Int) := odt); (have q5 : x8_1 < (a0.size : Int) := odt); (have hx5 := bt_at a0 x8_1); (replace p5 := eq_true p5); (replace q5 := eq_true q5); (have p16 : 0 ≤ (x8_1 : Int) := odt); (have q16 : x8_1 < (a0.size : Int) := odt); (have hx16 := bt_at a0 x8_1); (replace p16 := eq_true p16); (replace q16 := eq_true q16); (have p18 : 0 ≤ (x8_1 : Int) := odt); (have q18 : x8_1 < (a0.size : Int) := odt); (have hx18 := bt_at a0 x8_1); (replace p18 := eq_true p18); (replace q18 := eq_true q18); (go_wp2); go_ret; (exact Q1)
        ·rw [if_neg c19] at H
         (have c19b0 : (x8_1 == 0) = false := beq_eq_false_iff_ne.mpr c19); (have c19b1 : (x8_1 != 0) = true := bne_iff_ne.mpr c19); (by_cases c20 : ((bt a0 x8_1) ≤ 57))
         ·rw [if_pos c20] at H
          (have c20b0 : decide ((bt a0 x8_1) ≤ 57) = true := decide_eq_true c20); clear c20; (have H' := Aside0.mk H); clear H; (have p5 : 0 ≤ (x8_1 : Int) := odt); (have q5 : x8_1 < (a0.size : Int) := odt); (have hx5 := bt_at a0 x8_1); (replace p5 := eq_true p5); (replace q5 := eq_true q5); (have p16 : 0 ≤ (x8_1 : Int) := odt); (have q16 : x8_1 < (a0.size : Int) := odt); (have hx16 := bt_at a0 x8_1); (replace p16 := eq_true p16); (replace q16 := eq_true q16); (have p18 : 0 ≤ (x8_1 : Int) := odt); (have q18 : x8_1 < (a0.size : Int) := odt); (have hx18 := bt_at a0 x8_1); (replace p18 := eq_true p18); (replace q18 := eq_true q18); (go_wp2); go_roundg k1
          case measure => have := HK1.out; omega
          case rel => exact Q2
         ·rw [if_neg c20] at H
          (have c20b0 : decide ((bt a0 x8_1) ≤ 57) = false := decide_eq_false c20); clear c20; (obtain rfl := Option.some.inj H); (have p5 : 0 ≤ (x8_1 : Int) := odt); (have q5 : x8_1 < (a0.size : Int) := odt); (have hx5 := bt_at a0 x8_1); (replace p5 := eq_true p5); (replace q5 := eq_true q5); (have p16 : 0 ≤ (x8_1 : Int) := odt); (have q16 : x8_1 < (a0.size : Int) := odt); (have hx16 := bt_at a0 x8_1); (replace p16 := eq_true p16); (replace q16 := eq_true q16); (have p18 : 0 ≤ (x8_1 : Int) := odt); (have q18 : x8_1 < (a0.size : Int) := odt); (have hx18 := bt_at a0 x8_1); (replace p18 := eq_true p18); (replace q18 := eq_true q18); (go_wp2); go_ret; (exact Q1)
       ·rw [if_neg c17] at H
        (have c17b0 : decide (48 ≤ (bt a0 x8_1)) = false := decide_eq_false c17); clear c17; (by_cases c21 : x8_1 = 0)
        ·rw [if_pos c21] at H
         (have c21b0 : (x8_1 == 0) = true := beq_iff_eq.mpr c21); (have c21b1 : (x8_1 != 0) = false := bne_eq_false_iff_eq.mpr c21); clear c21; (obtain rfl := Option.some.inj H); (have p5 : 0 ≤ (x8_1 : Int) := odt); (have q5 : x8_1 < (a0.size : Int) := odt); (have hx5 := bt_at a0 x8_1); (replace p5 := eq_true p5); (replace q5 := eq_true q5); (have p16 : 0 ≤ (x8_1 : Int) := odt); (have q16 : x8_1 < (a0.size : Int) := odt); (have hx16 := bt_at a0 x8_1); (replace p16 := eq_true p16); (replace q16 := eq_true q16); (go_wp2); go_ret; (exact Q1)
        ·rw [if_neg c21] at H
         (have c21b0 : (x8_1 == 0) = false := beq_eq_false_iff_ne.mpr c21); (have c21b1 : (x8_1 != 0) = true := bne_iff_ne.mpr c21); (obtain rfl := Option.some.inj H); (have p5 : 0 ≤ (x8_1 : Int) := odt); (have q5 : x8_1 < (a0.size : Int) := odt); (have hx5 := bt_at a0 x8_1); (replace p5 := eq_true p5); (replace q5 := eq_true q5); (have p16 : 0 ≤ (x8_1 : Int) := odt); (have q16 : x8_1 < (a0.size : Int) := odt); (have hx16 := bt_at a0 x8_1); (replace p16 := eq_true p16); (replace q16 := eq_true q16); (go_wp2); go_ret; (exact Q1)
     ·rw [if_neg c4] at H
      exact Q3
    ·rw [if_neg c3] at H
     exact Q3
   ·rw [if_neg c2] at H
    (have c2b0 := decide_eq_false c2); clear c2; (replace H := obS H); (obtain ⟨t101, A22, H⟩ := H); (obtain rfl := Option.some.inj H); (go_wp2_with (first | ((with_reducible refine gate_callee (f := 59) rfl ?_); refine gL (some 44) Tryd.func59 #[.int .i64 (a0.size : Int), .int .i64 1, .int .i64 8] ?_; (with_reducible refine (impl_within.calls (a0.size : Int) 1 8 t101 _ A22.out).mono ?_); rintro e w' ⟨rfl, ⟨nd, rfl⟩⟩; refine ⟨_, rfl, ?_⟩))); go_ret; (exact Q1)
/-! ### impl_isField: function 33 -/
mutual
def impl_isField.j0 : Nat → List (S54) → Bool → ByteArray → Int → Int → Int → List ByteArray → Bool → ByteArray → Option (Bool)
 | 0, _, _, _, _, _, _, _, _, _ => none
 | k + 1, x0, x18, x102000, x102001, x102002, x102003, x102004, x102005, x102006 => if x18 = true then (some false) else ((impl_fieldOf.f x0 x102006).bind fun t104 => (if x102006.toList = ([] : List UInt8) then (impl_isField.j1 k false x102000 x102001 x102002 x102003 x102004 x102005 x102006) else (if t104 < 0 then (impl_isField.j1 k true x102000 x102001 x102002 x102003 x102004 x102005 x102006) else (if 0 ≤ t104 then (if t104 < (x0.length : Int) then (impl_isField.j1 k (((rd_T54 x0 t104).f1) != 4) x102000 x102001 x102002 x102003 x102004 x102005 x102006) else (none)) else (none)))))
def impl_isField.j1 : Nat → Bool → ByteArray → Int → Int → Int → List ByteArray → Bool → ByteArray → Option (Bool)
 | 0, _, _, _, _, _, _, _, _ => none
 | k + 1, x37, x102000, x102001, x102002, x102003, x102004, x102005, x102006 => if x37 = true then (some false) else (if x102001 = 3 then (impl_isField.j2 k false x102000 x102001 x102002 x102003 x102004 x102005 x102006) else (impl_isField.j2 k (decide ((x102004.length : Int) > 0)) x102000 x102001 x102002 x102003 x102004 x102005 x102006))
def impl_isField.j2 : Nat → Bool → ByteArray → Int → Int → Int → List ByteArray → Bool → ByteArray → Option (Bool)
 | 0, _, _, _, _, _, _, _, _ => none
 | k + 1, x46, x102000, x102001, x102002, x102003, x102004, x102005, x102006 => if x46 = true then (some false) else (if x102001 = 1 then (if x102002 ≥ (-999999) then (if x102002 ≤ x102003 then (some (decide (x102003 ≤ 999999))) else (some false)) else (some false)) else (if x102001 = 2 then (if x102002 ≥ 0 then (if x102002 ≤ x102003 then (some (decide (x102003 ≤ 40))) else (some false)) else (some false)) else (if x102001 = 3 then (impl_isField.l0 k x102004 (x102004.length : Int) 0 x102000 x102001 x102002 x102003 x102004 x102005 x102006) else (if x102001 = 4 then (if x102002 = 0 then (some (x102003 == 0)) else (some false)) else (some false)))))
def impl_isField.l0 : Nat → List ByteArray → Int → Int → ByteArray → Int → Int → Int → List ByteArray → Bool → ByteArray → Option (Bool)
 | 0, _, _, _, _, _, _, _, _, _, _ => none
 | k + 1, x86, x87, x88, x102000, x102001, x102002, x102003, x102004, x102005, x102006 => if x88 < x87 then (if 0 ≤ x88 then (if x88 < (x86.length : Int) then ((impl_isName.f k (rdOf ByteArray.empty x86 x88)).bind fun t108 => (if t108 = true then (if x88 ≤ (x102004.length : Int) then ((slices_Contains_string_string.f k (x102004.take (x88 : Int).toNat) (rdOf ByteArray.empty x86 x88)).bind fun t110 => (if t110 = true then (some false) else (impl_isField.l0 k x86 x87 (wrap64 (x88 + 1)) x102000 x102001 x102002 x102003 x102004 x102005 x102006))) else (none)) else (some false))) else (none)) else (none)) else ((impl_within.f (x102004.length : Int) 1 6).bind fun t106 => (if t106 = true then (if x102002 = 0 then (some (x102003 == 0)) else (some false)) else (some false)))
end
def impl_isField.f (k : Nat) (l0 : List (S54)) (a1_0 : ByteArray) (a1_1 : Int) (a1_2 : Int) (a1_3 : Int) (l1_4 : List ByteArray) (a1_5 : Bool) (a1_6 : ByteArray) : Option (Bool) := (impl_isName.f k a1_0).bind fun t102 => (if t102 = true then ((impl_fieldOf.f l0 a1_0).bind fun t103 => (impl_isField.j0 k l0 (decide (t103 ≥ 0)) a1_0 a1_1 a1_2 a1_3 l1_4 a1_5 a1_6)) else (impl_isField.j0 k l0 true a1_0 a1_1 a1_2 a1_3 l1_4 a1_5 a1_6))
set_option maxHeartbeats 8000000 in
set_option maxRecDepth 100000 in
theorem impl_isField.calls (k : Nat) (A0 : Option Addr) (c0 : Nat) (l0 : List (S54)) (a1_0 : ByteArray) (a1_1 : Int) (a1_2 : Int) (a1_3 : Int) (A1_4 : Option Addr) (c1_4 : Nat) (l1_4 : List ByteArray) (a1_5 : Bool) (a1_6 : ByteArray) (r : Bool) (w : World) (hr0 : Kd.C k54 w A0 l0.length l0) (hc0 : l0.length ≤ c0) (hr1_4 : Kd.C Kd.string w A1_4 l1_4.length l1_4) (hc1_4 : l1_4.length ≤ c1_4) (h : impl_isField.f k l0 a1_0 a1_1 a1_2 a1_3 l1_4 a1_5 a1_6 = some r) :
  Calls Tryd.prog 33 #[.slice A0 l0.length c0, .agg #[.string a1_0, .int .i64 a1_1, .int .i64 a1_2, .int .i64 a1_3, .slice A1_4 l1_4.length c1_4, .bool a1_5, .string a1_6]] w fun e w' => e = .returned (.bool r) ∧ Below w.heap.size w w' := by
 (have hu54 := Tryd.underlying54); (have HR0 := Aside0.mk hr0); (have HC0 := Aside0.mk hc0); clear hr0 hc0; (have HR1_4 := Aside0.mk hr1_4); (have HC1_4 := Aside0.mk hc1_4); clear hr1_4 hc1_4; (have HB := Aside0.mk (Below.refl w.heap.size w)); (unfold impl_isField.f at h); (have H := h); clear h; (have HC3 := Aside0.mk H); clear H; (go_enter Tryd.func33, Tryd.ntmps33); (go_upto_region 1 with (first | ((with_reducible refine gate_dst (N := 3) rfl ?_); refine box_event ?hg (N := 3) ?hd (cs := #[.string a1_0, .int .i64 a1_1, .int .i64 a1_2, .int .i64 a1_3, .slice A1_4 l1_4.length c1_4, .bool a1_5, .string a1_6]) (t := 54) ?hr ?_; (case hd => rfl); (case hg => rfl); (case hr => first | (go_simp; done) | (go_simp; rfl)); intro gb101 hg w4 hbox hb; have hB_ := zI hb HB; have n0_ := Aside0.mk (below_step hB_ hb); have n1_ := Aside0.mk (hbox); have n2_ := Aside0.mk (bx0 hg hB_); have n3_ := n2_; clear HB; have HB := n0_; have BK101 := n1_; have GW101 := n2_; have GE101 := n3_; clear n0_ n1_ n2_ n3_ hB_ hb hbox hg))); ((try simp only [Act.put, aS1, aS2, aS3])); (go_cut [18] (fun v18 wc => ∃ (kq : Nat) (x18_2 : Bool), v18 = .bool x18_2 ∧ Aside0 (impl_isField.j0 kq l0 x18_2 a1_0 a1_1 a1_2 a1_3 l1_4 a1_5 a1_6 = some r) ∧ Aside0 (kq ≤ k) ∧ Aside0 (wc.heap[gb101]? = some (.cells #[.string a1_0, .int .i64 a1_1, .int .i64 a1_2, .int .i64 a1_3, (.slice A1_4 l1_4.length c1_4), .bool a1_5, .string a1_6] 54 (0, 0))) ∧ Aside0 (Below w.heap.size w wc)))
 case first =>
  (have H := HC3.out); clear HC3; (replace H := obS H); (obtain ⟨t102, A5, H⟩ := H); (by_cases c6 : t102 = true)
  ·subst c6
   (rw [if_pos rfl] at H); (replace H := obS H); (obtain ⟨t103, A7, H⟩ := H); (have H' := Aside0.mk H); clear H; (have hcz8_0 := cz BK101.out 0); (have hcz8_1 := cz BK101.out 1); (have hcz8_2 := cz BK101.out 2); (have hcz8_3 := cz BK101.out 3); (have hcz8_4 := cz BK101.out 4); (have hcz8_5 := cz BK101.out 5); (have hcz8_6 := cz BK101.out 6); (have hfz8_0 := blk_frozen BK101.out 0); (have hfz8_1 := blk_frozen BK101.out 1); (have hfz8_2 := blk_frozen BK101.out 2); (have hfz8_3 := blk_frozen BK101.out 3); (have hfz8_4 := blk_frozen BK101.out 4); (have hfz8_5 := blk_frozen BK101.out 5); (have hfz8_6 := blk_frozen BK101.out 6); (go_wp2_with (first | ((with_reducible refine gate_callee (f := 58) rfl ?_); refine gL (some 10) Tryd.func58 #[.string a1_0] ?_; (with_reducible refine (impl_isName.calls k a1_0 true _ A5.out).mono ?_); rintro e w' ⟨rfl, ⟨nd, rfl⟩⟩; refine ⟨_, rfl, ?_⟩) | (go_at_call 46; (with_reducible refine (impl_fieldOf.calls _ _ l0 a1_0 t103 _ ?side1 ?side2 A7.out).mono ?_); (case side1 => exact Q4); (case side2 => exact HC0.out); rintro e w9 ⟨rfl, hb⟩; have n0_ := Aside0.mk (kbI hb BK101); have n1_ := Aside0.mk (sI hb HB); clear BK101 HB; have BK101 := n0_; have HB := n1_; clear n0_ n1_; (try clear hb); (try clear hb2); (try clear hk); (try clear hi)))); (go_meet)
   case rel => exact ⟨_, (decide (t103 ≥ 0)), Q5, H', ⟨Q6⟩, ⟨kI BK101⟩, ⟨eI HB⟩⟩
  ·replace c6 := Bool.eq_false_iff.mpr c6
   subst c6; (rw [if_neg (show ¬ (false = true) by decide)] at H); (have H' := Aside0.mk H); clear H; (have hcz10_0 := cz BK101.out 0); (have hcz10_1 := cz BK101.out 1); (have hcz10_2 := cz BK101.out 2); (have hcz10_3 := cz BK101.out 3); (have hcz10_4 := cz BK101.out 4); (have hcz10_5 := cz BK101.out 5); (have hcz10_6 := cz BK101.out 6); (have hfz10_0 := blk_frozen BK101.out 0); (have hfz10_1 := blk_frozen BK101.out 1); (have hfz10_2 := blk_frozen BK101.out 2); (have hfz10_3 := blk_frozen BK101.out 3); (have hfz10_4 := blk_frozen BK101.out 4); (have hfz10_5 := blk_frozen BK101.out 5); (have hfz10_6 := blk_frozen BK101.out 6); (go_wp2_with (first | ((with_reducible refine gate_callee (f := 58) rfl ?_); refine gL (some 10) Tryd.func58 #[.string a1_0] ?_; (with_reducible refine (impl_isName.calls k a1_0 false _ A5.out).mono ?_); rintro e w' ⟨rfl, ⟨nd, rfl⟩⟩; refine ⟨_, rfl, ?_⟩))); (go_meet)
   case rel => exact ⟨_, (true), Q5, H', ⟨Q6⟩, ⟨kI BK101⟩, ⟨eI HB⟩⟩
 case rest =>
  clear HC3; (try clear c1); (try clear p2); (try clear c3); (try clear c5); (try clear c6); (try clear hcz10_0); (try clear hcz10_1); (try clear hcz10_2); (try clear hcz10_3); (try clear hcz10_4); (try clear hcz10_5); (try clear hcz10_6); (try clear hcz8_0); (try clear hcz8_1); (try clear hcz8_2); (try clear hcz8_3); (try clear hcz8_4); (try clear hcz8_5); (try clear hcz8_6); (try clear hfz10_0); (try clear hfz10_1); (try clear hfz10_2); (try clear hfz10_3); (try clear hfz10_4); (try clear hfz10_5); (try clear hfz10_6); (try clear hfz8_0); (try clear hfz8_1); (try clear hfz8_2); (try clear hfz8_3); (try clear hfz8_4); (try clear hfz8_5); (try clear hfz8_6); (obtain ⟨kq, x18_2, rfl, HA, HJ2, BK101, HB⟩ := hcut)
  cases kq with
  | zero => exact absurd HA.out (by simp [impl_isField.j0])
  | succ kj2 =>
   (have H := HA.out); clear HA; (simp only [impl_isField.j0] at H); (by_cases c11 : x18_2 = true); (· subst c11; (rw [if_pos rfl] at H); (obtain rfl := Option.some.inj H); (go_wp2); go_ret; (exact Q7))
   ·replace c11 := Bool.eq_false_iff.mpr c11
    subst c11; (rw [if_neg (show ¬ (false = true) by decide)] at H); (replace H := obS H); (obtain ⟨t104, A12, H⟩ := H); (have HC13 := Aside0.mk H); clear H; (have hcz14_0 := cz BK101.out 0); (have hcz14_1 := cz BK101.out 1); (have hcz14_2 := cz BK101.out 2); (have hcz14_3 := cz BK101.out 3); (have hcz14_4 := cz BK101.out 4); (have hcz14_5 := cz BK101.out 5); (have hcz14_6 := cz BK101.out 6); (have hfz14_0 := blk_frozen BK101.out 0); (have hfz14_1 := blk_frozen BK101.out 1); (have hfz14_2 := blk_frozen BK101.out 2); (have hfz14_3 := blk_frozen BK101.out 3); (have hfz14_4 := blk_frozen BK101.out 4); (have hfz14_5 := blk_frozen BK101.out 5); (have hfz14_6 := blk_frozen BK101.out 6); (go_upto_region 4 with (first | ((with_reducible refine gate_callee (f := 46) rfl ?_); refine gL (some 22) Tryd.func46 #[.slice A0 l0.length c0, .string a1_6] ?_; (with_reducible refine (impl_fieldOf.calls _ _ l0 a1_6 t104 _ ?side1 ?side2 A12.out).mono ?_); (case side1 => exact Q4); (case side2 => exact HC0.out); rintro e w15 ⟨rfl, hb⟩; refine ⟨_, rfl, ?_⟩; have n0_ := Aside0.mk (kbI hb BK101); have n1_ := Aside0.mk (sI hb HB); clear BK101 HB; have BK101 := n0_; have HB := n1_; clear n0_ n1_; (try clear hb); (try clear hb2); (try clear hk); (try clear hi)))); ((try simp only [Act.put, aS1, aS2, aS3])); (go_cut [37] (fun v37 wc => ∃ (kq : Nat) (x37_12 : Bool), v37 = .bool x37_12 ∧ Aside0 (impl_isField.j1 kq x37_12 a1_0 a1_1 a1_2 a1_3 l1_4 a1_5 a1_6 = some r) ∧ Aside0 (kq ≤ kj2) ∧ Aside0 (wc.heap[gb101]? = some (.cells #[.string a1_0, .int .i64 a1_1, .int .i64 a1_2, .int .i64 a1_3, (.slice A1_4 l1_4.length c1_4), .bool a1_5, .string a1_6] 54 (0, 0))) ∧ Aside0 (Below w.heap.size w wc)))
    case first =>
     (have H := HC13.out); clear HC13; (by_cases c16 : a1_6.toList = ([] : List UInt8))
     ·rw [if_pos c16] at H
      (have c16b0 : a1_6.toList.isEmpty = true := List.isEmpty_iff.mpr c16); (have c16b1 : (!a1_6.toList.isEmpty) = false := by rw [List.isEmpty_iff.mpr c16]; rfl); (have c16b2 : (a1_6.toList == ([] : List UInt8)) = true := beq_iff_eq.mpr c16); (have c16b3 : (a1_6.toList != ([] : List UInt8)) = false := bne_eq_false_iff_eq.mpr c16); clear c16; ((first | rw [c16b0] | (simp only [i64_w, i32_w]; rw [c16b0]) | skip)); (have H' := Aside0.mk H); clear H; (have hcz17_0 := cz BK101.out 0); (have hcz17_1 := cz BK101.out 1); (have hcz17_2 := cz BK101.out 2); (have hcz17_3 := cz BK101.out 3); (have hcz17_4 := cz BK101.out 4); (have hcz17_5 := cz BK101.out 5); (have hcz17_6 := cz BK101.out 6); (have hfz17_0 := blk_frozen BK101.out 0); (have hfz17_1 := blk_frozen BK101.out 1); (have hfz17_2 := blk_frozen BK101.out 2); (have hfz17_3 := blk_frozen BK101.out 3); (have hfz17_4 := blk_frozen BK101.out 4); (have hfz17_5 := blk_frozen BK101.out 5); (have hfz17_6 := blk_frozen BK101.out 6); (go_wp2); (go_meet)
      case rel => exact ⟨_, (false), Q5, H', ⟨Q8⟩, ⟨kI BK101⟩, ⟨eI HB⟩⟩
     ·rw [if_neg c16] at H
      (have c16b0 : a1_6.toList.isEmpty = false := Q9); (have c16b1 : (!a1_6.toList.isEmpty) = true := by rw [show a1_6.toList.isEmpty = false from Q9]; rfl); (have c16b2 : (a1_6.toList == ([] : List UInt8)) = false := beq_eq_false_iff_ne.mpr c16); (have c16b3 : (a1_6.toList != ([] : List UInt8)) = true := bne_iff_ne.mpr c16); ((first | rw [c16b0] | (simp only [i64_w, i32_w]; rw [c16b0]) | skip)); (by_cases c18 : t104 < 0)
      ·rw [if_pos c18] at H
       (have c18b0 := decide_eq_true c18); clear c18; (have H' := Aside0.mk H); clear H; (have hcz19_0 := cz BK101.out 0); (have hcz19_1 := cz BK101.out 1); (have hcz19_2 := cz BK101.out 2); (have hcz19_3 := cz BK101.out 3); (have hcz19_4 := cz BK101.out 4); (have hcz19_5 := cz BK101.out 5); (have hcz19_6 := cz BK101.out 6); (have hfz19_0 := blk_frozen BK101.out 0); (have hfz19_1 := blk_frozen BK101.out 1); (have hfz19_2 := blk_frozen BK101.out 2); (have hfz19_3 := blk_frozen BK101.out 3); (have hfz19_4 := blk_frozen BK101.out 4); (have hfz19_5 := blk_frozen BK101.out 5); (have hfz19_6 := blk_frozen BK101.out 6); (go_wp2); (go_meet)
       case rel => exact ⟨_, (true), Q5, H', ⟨Q8⟩, ⟨kI BK101⟩, ⟨eI HB⟩⟩
      ·rw [if_neg c18] at H
       (have c18b0 := decide_eq_false c18); clear c18; (by_cases c20 : 0 ≤ t104)
       ·rw [if_pos c20] at H
        (have c20b0 := decide_eq_true c20); clear c20; (by_cases c21 : t104 < (l0.length : Int))
        ·rw [if_pos c21] at H
         (have c21b0 := decide_eq_true c21); clear c21; (have H' := Aside0.mk H); clear H; (have hcz22_0 := cz BK101.out 0); (have hcz22_1 := cz BK101.out 1); (have hcz22_2 := cz BK101.out 2); (have hcz22_3 := cz BK101.out 3); (have hcz22_4 := cz BK101.out 4); (have hcz22_5 := cz BK101.out 5); (have hcz22_6 := cz BK101.out 6); (have hfz22_0 := blk_frozen BK101.out 0); (have hfz22_1 := blk_frozen BK101.out 1); (have hfz22_2 := blk_frozen BK101.out 2); (have hfz22_3 := blk_frozen BK101.out 3); (have hfz22_4 := blk_frozen BK101.out 4); (have hfz22_5 := blk_frozen BK101.out 5); (have hfz22_6 := blk_frozen BK101.out 6); (have p105 : 0 ≤ (t104 : Int) := odt); (have q105 : t104 < (l0.length : Int) := odt); (obtain ⟨ad105, A105_4, c105_4, e105, hx105_0, hx105_1, hx105_2, hx105_3, hx105_4, hx105_5, hx105_6, hl105_4, hi105_4⟩ := at_T54 HR0.out t104 p105 q105); (cases e105); (replace hx105_0 := hcI HB hx105_0); (replace hx105_1 := hcI HB hx105_1); (replace hx105_2 := hcI HB hx105_2); (replace hx105_3 := hcI HB hx105_3); (replace hx105_4 := hcI HB hx105_4); (replace hx105_5 := hcI HB hx105_5); (replace hx105_6 := hcI HB hx105_6); (have HR105_4 := Aside0.mk hi105_4); (have HC105_4 := Aside0.mk hl105_4); clear hi105_4 hl105_4; (replace p105 := eq_true p105); (replace q105 := eq_true q105); (go_wp2); (go_meet)
         case rel => exact ⟨_, ((((rd_T54 l0 t104).f1) != 4)), Q5, H', ⟨Q8⟩, ⟨kI BK101⟩, ⟨eI HB⟩⟩
        ·rw [if_neg c21] at H
         exact Q3
       ·rw [if_neg c20] at H
        exact Q3
    case rest =>
     clear HC13; (try clear c1); (try clear p1); (try clear q1); (try clear hx1); (try clear c2); (try clear p2); (try clear c3); (try clear c4); (try clear c5); (try clear c6); (try clear c10); (try clear p10); (try clear q10); (try clear hx10); (try clear c11); (try clear c16); (try clear c16b0); (try clear c16b1); (try clear c16b2); (try clear c18); (try clear c18b0); (try clear c20); (try clear c20b0); (try clear c21); (try clear c21b0); (try clear hcz10_0); (try clear hcz10_1); (try clear hcz10_2); (try clear hcz10_3); (try clear hcz10_4); (try clear hcz10_5); (try clear hcz10_6); (try clear hcz14_0); (try clear hcz14_1); (try clear hcz14_2); (try clear hcz14_3); (try clear hcz14_4); (try clear hcz14_5); (try clear hcz14_6); (try clear hcz17_0); (try clear hcz17_1); (try clear hcz17_2); (try clear hcz17_3); (try clear hcz17_4); (try clear hcz17_5); (try clear hcz17_6); (try clear hcz19_0); (try clear hcz19_1); (try clear hcz19_2); (try clear hcz19_3); (try clear hcz19_4); (try clear hcz19_5); (try clear hcz19_6); (try clear hcz22_0); (try clear hcz22_1); (try clear hcz22_2); (try clear hcz22_3); (try clear hcz22_4); (try clear hcz22_5); (try clear hcz22_6); (try clear hcz8_0); (try clear hcz8_1); (try clear hcz8_2); (try clear hcz8_3); (try clear hcz8_4); (try clear hcz8_5); (try clear hcz8_6); (try clear hfz10_0); (try clear hfz10_1); (try clear hfz10_2); (try clear hfz10_3); (try clear hfz10_4); (try clear hfz10_5); (try clear hfz10_6); (try clear hfz14_0); (try clear hfz14_1); (try clear hfz14_2); (try clear hfz14_3); (try clear hfz14_4); (try clear hfz14_5); (try clear hfz14_6); (try clear hfz17_0); (try clear hfz17_1); (try clear hfz17_2); (try clear hfz17_3); (try clear hfz17_4); (try clear hfz17_5); (try clear hfz17_6); (try clear hfz19_0); (try clear hfz19_1); (try clear hfz19_2); (try clear hfz19_3); (try clear hfz19_4); (try clear hfz19_5); (try clear hfz19_6); (try clear hfz22_0); (try clear hfz22_1); (try clear hfz22_2); (try clear hfz22_3); (try clear hfz22_4); (try clear hfz22_5); (try clear hfz22_6); (try clear hfz8_0); (try clear hfz8_1); (try clear hfz8_2); (try clear hfz8_3); (try clear hfz8_4); (try clear hfz8_5); (try clear hfz8_6); (try clear hx105_0); (try clear hx105_1); (try clear hx105_2); (try clear hx105_3); (try clear hx105_4); (try clear hx105_5); (try clear hx105_6); (try clear p105); (try clear p2); (try clear q105); (obtain ⟨kq, x37_12, rfl, HA, HJ12, BK101, HB⟩ := hcut)
     cases kq with
     | zero => exact absurd HA.out (by simp [impl_isField.j1])
     | succ kj12 =>
      (have H := HA.out); clear HA; (simp only [impl_isField.j1] at H); (by_cases c23 : x37_12 = true); (· subst c23; (rw [if_pos rfl] at H); (obtain rfl := Option.some.inj H); (go_wp2); go_ret; (exact Q7))
      ·replace c23 := Bool.eq_false_iff.mpr c23
       subst c23; (rw [if_neg (show ¬ (false = true) by decide)] at H); (have HC24 := Aside0.mk H); clear H; (go_upto_region 6 with (fail)); (go_cut [46] (fun v46 wc => ∃ (kq : Nat) (x46_23 : Bool), v46 = .bool x46_23 ∧ Aside0 (impl_isField.j2 kq x46_23 a1_0 a1_1 a1_2 a1_3 l1_4 a1_5 a1_6 = some r) ∧ Aside0 (kq ≤ kj12) ∧ Aside0 (wc.heap[gb101]? = some (.cells #[.string a1_0, .int .i64 a1_1, .int .i64 a1_2, .int .i64 a1_3, (.slice A1_4 l1_4.length c1_4), .bool a1_5, .string a1_6] 54 (0, 0))) ∧ Aside0 (Below w.heap.size w wc)))
       case first =>
        (have H := HC24.out); clear HC24; (by_cases c25 : a1_1 = 3)
        ·rw [if_pos c25] at H
         (have c25b0 : (a1_1 == 3) = true := beq_iff_eq.mpr c25); (have c25b1 : (a1_1 != 3) = false := bne_eq_false_iff_eq.mpr c25); clear c25; ((first | rw [c25b0] | (simp only [i64_w, i32_w]; rw [c25b0]) | skip)); (have H' := Aside0.mk H); clear H; (have hcz26_0 := cz BK101.out 0); (have hcz26_1 := cz BK101.out 1); (have hcz26_2 := cz BK101.out 2); (have hcz26_3 := cz BK101.out 3); (have hcz26_4 := cz BK101.out 4); (have hcz26_5 := cz BK101.out 5); (have hcz26_6 := cz BK101.out 6); (have hfz26_0 := blk_frozen BK101.out 0); (have hfz26_1 := blk_frozen BK101.out 1); (have hfz26_2 := blk_frozen BK101.out 2); (have hfz26_3 := blk_frozen BK101.out 3); (have hfz26_4 := blk_frozen BK101.out 4); (have hfz26_5 := blk_frozen BK101.out 5); (have hfz26_6 := blk_frozen BK101.out 6); (go_wp2); (go_meet)
         case rel => exact ⟨_, (false), Q5, H', ⟨Q10⟩, ⟨kI BK101⟩, ⟨eI HB⟩⟩
        ·rw [if_neg c25] at H
         (have c25b0 : (a1_1 == 3) = false := beq_eq_false_iff_ne.mpr c25); (have c25b1 : (a1_1 != 3) = true := bne_iff_ne.mpr c25); ((first | rw [c25b0] | (simp only [i64_w, i32_w]; rw [c25b0]) | skip)); (have H' := Aside0.mk H); clear H; (have hcz27_0 := cz BK101.out 0); (have hcz27_1 := cz BK101.out 1); (have hcz27_2 := cz BK101.out 2); (have hcz27_3 := cz BK101.out 3); (have hcz27_4 := cz BK101.out 4); (have hcz27_5 := cz BK101.out 5); (have hcz27_6 := cz BK101.out 6); (have hfz27_0 := blk_frozen BK101.out 0); (have hfz27_1 := blk_frozen BK101.out 1); (have hfz27_2 := blk_frozen BK101.out 2); (have hfz27_3 := blk_frozen BK101.out 3); (have hfz27_4 := blk_frozen BK101.out 4); (have hfz27_5 := blk_frozen BK101.out 5); (have hfz27_6 := blk_frozen BK101.out 6); (go_wp2); (go_meet)
         case rel => exact ⟨_, (decide ((l1_4.length : Int) > 0)), Q5, H', ⟨Q10⟩, ⟨kI BK101⟩, ⟨eI HB⟩⟩
       case rest =>
        clear HC24; (try clear c1); (try clear p1); (try clear q1); (try clear hx1); (try clear c2); (try clear p2); (try clear c3); (try clear c4); (try clear c5); (try clear c6); (try clear c10); (try clear p10); (try clear q10); (try clear hx10); (try clear c11); (try clear c16); (try clear c16b0); (try clear c16b1); (try clear c16b2); (try clear c18); (try clear c18b0); (try clear c20); (try clear c20b0); (try clear c21); (try clear c21b0); (try clear c23); (try clear c25); (try clear c25b0); (try clear c25b1); (try clear hcz10_0); (try clear hcz10_1); (try clear hcz10_2); (try clear hcz10_3); (try clear hcz10_4); (try clear hcz10_5); (try clear hcz10_6); (try clear hcz14_0); (try clear hcz14_1); (try clear hcz14_2); (try clear hcz14_3); (try clear hcz14_4); (try clear hcz14_5); (try clear hcz14_6); (try clear hcz17_0); (try clear hcz17_1); (try clear hcz17_2); (try clear hcz17_3); (try clear hcz17_4); (try clear hcz17_5); (try clear hcz17_6); (try clear hcz19_0); (try clear hcz19_1); (try clear hcz19_2); (try clear hcz19_3); (try clear hcz19_4); (try clear hcz19_5); (try clear hcz19_6); (try clear hcz22_0); (try clear hcz22_1); (try clear hcz22_2); (try clear hcz22_3); (try clear hcz22_4); (try clear hcz22_5); (try clear hcz22_6); (try clear hcz26_0); (try clear hcz26_1); (try clear hcz26_2); (try clear hcz26_3); (try clear hcz26_4); (try clear hcz26_5); (try clear hcz26_6); (try clear hcz27_0); (try clear hcz27_1); (try clear hcz27_2); (try clear hcz27_3); (try clear hcz27_4); (try clear hcz27_5); (try clear hcz27_6); (try clear hcz8_0); (try clear hcz8_1); (try clear hcz8_2); (try clear hcz8_3); (try clear hcz8_4); (try clear hcz8_5); (try clear hcz8_6); (try clear hfz10_0); (try clear hfz10_1); (try clear hfz10_2); (try clear hfz10_3); (try clear hfz10_4); (try clear hfz10_5); (try clear hfz10_6); (try clear hfz14_0); (try clear hfz14_1); (try clear hfz14_2); (try clear hfz14_3); (try clear hfz14_4); (try clear hfz14_5); (try clear hfz14_6); (try clear hfz17_0); (try clear hfz17_1); (try clear hfz17_2); (try clear hfz17_3); (try clear hfz17_4); (try clear hfz17_5); (try clear hfz17_6); (try clear hfz19_0); (try clear hfz19_1); (try clear hfz19_2); (try clear hfz19_3); (try clear hfz19_4); (try clear hfz19_5); (try clear hfz19_6); (try clear hfz22_0); (try clear hfz22_1); (try clear hfz22_2); (try clear hfz22_3); (try clear hfz22_4); (try clear hfz22_5); (try clear hfz22_6); (try clear hfz26_0); (try clear hfz26_1); (try clear hfz26_2); (try clear hfz26_3); (try clear hfz26_4); (try clear hfz26_5); (try clear hfz26_6); (try clear hfz27_0); (try clear hfz27_1); (try clear hfz27_2); (try clear hfz27_3); (try clear hfz27_4); (try clear hfz27_5); (try clear hfz27_6); (try clear hfz8_0); (try clear hfz8_1); (try clear hfz8_2); (try clear hfz8_3); (try clear hfz8_4); (try clear hfz8_5); (try clear hfz8_6); (try clear hx105_0); (try clear hx105_1); (try clear hx105_2); (try clear hx105_3); (try clear hx105_4); (try clear hx105_5); (try clear hx105_6); (try clear p1); (try clear p10); (try clear p105); (try clear p2); (try clear q1); (try clear q10); (try clear q105); (obtain ⟨kq, x46_23, rfl, HA, HJ23, BK101, HB⟩ := hcut)
        cases kq with
        | zero => exact absurd HA.out (by simp [impl_isField.j2])
        | succ kj23 =>
         (have H := HA.out); clear HA; (simp only [impl_isField.j2] at H); (by_cases c28 : x46_23 = true); (· subst c28; (rw [if_pos rfl] at H); (obtain rfl := Option.some.inj H); (go_wp2); go_ret; (exact Q7))
         ·replace c28 := Bool.eq_false_iff.mpr c28
          subst c28; (rw [if_neg (show ¬ (false = true) by decide)] at H); (by_cases c29 : a1_1 = 1)
          ·rw [if_pos c29] at H
           (have c29b0 : (a1_1 == 1) = true := beq_iff_eq.mpr c29); (have c29b1 : (a1_1 != 1) = false := bne_eq_false_iff_eq.mpr c29); clear c29; (by_cases c30 : a1_2 ≥ (-999999))
           ·rw [if_pos c30] at H
            (have c30b0 : decide ((-999999) ≤ a1_2) = true := decide_eq_true c30); clear c30; (by_cases c31 : a1_2 ≤ a1_3)
            ·rw [if_pos c31] at H
             (have c31b0 := decide_eq_true c31); clear c31; (obtain rfl := Option.some.inj H); (have hcz32_0 := cz BK101.out 0); (have hcz32_1 := cz BK101.out 1); (have hcz32_2 := cz BK101.out 2); (have hcz32_3 := cz BK101.out 3); (have hcz32_4 := cz BK101.out 4); (have hcz32_5 := cz BK101.out 5); (have hcz32_6 := cz BK101.out 6); (have hfz32_0 := blk_frozen BK101.out 0); (have hfz32_1 := blk_frozen BK101.out 1); (have hfz32_2 := blk_frozen BK101.out 2); (have hfz32_3 := blk_frozen BK101.out 3); (have hfz32_4 := blk_frozen BK101.out 4); (have hfz32_5 := blk_frozen BK101.out 5); (have hfz32_6 := blk_frozen BK101.out 6); (go_wp2); go_ret; (exact Q7)
            ·rw [if_neg c31] at H
             (have c31b0 := decide_eq_false c31); clear c31; (obtain rfl := Option.some.inj H); (have hcz33_0 := cz BK101.out 0); (have hcz33_1 := cz BK101.out 1); (have hcz33_2 := cz BK101.out 2); (have hcz33_3 := cz BK101.out 3); (have hcz33_4 := cz BK101.out 4); (have hcz33_5 := cz BK101.out 5); (have hcz33_6 := cz BK101.out 6); (have hfz33_0 := blk_frozen BK101.out 0); (have hfz33_1 := blk_frozen BK101.out 1); (have hfz33_2 := blk_frozen BK101.out 2); (have hfz33_3 := blk_frozen BK101.out 3); (have hfz33_4 := blk_frozen BK101.out 4); (have hfz33_5 := blk_frozen BK101.out 5); (have hfz33_6 := blk_frozen BK101.out 6); (go_wp2); go_ret; (exact Q7)
           ·rw [if_neg c30] at H
            (have c30b0 : decide ((-999999) ≤ a1_2) = false := decide_eq_false c30); clear c30; (obtain rfl := Option.some.inj H); (have hcz34_0 := cz BK101.out 0); (have hcz34_1 := cz BK101.out 1); (have hcz34_2 := cz BK101.out 2); (have hcz34_3 := cz BK101.out 3); (have hcz34_4 := cz BK101.out 4); (have hcz34_5 := cz BK101.out 5); (have hcz34_6 := cz BK101.out 6); (have hfz34_0 := blk_frozen BK101.out 0); (have hfz34_1 := blk_frozen BK101.out 1); (have hfz34_2 := blk_frozen BK101.out 2); (have hfz34_3 := blk_frozen BK101.out 3); (have hfz34_4 := blk_frozen BK101.out 4); (have hfz34_5 := blk_frozen BK101.out 5); (have hfz34_6 := blk_frozen BK101.out 6); (go_wp2); go_ret; (exact Q7)
          ·rw [if_neg c29] at H
           (have c29b0 : (a1_1 == 1) = false := beq_eq_false_iff_ne.mpr c29); (have c29b1 : (a1_1 != 1) = true := bne_iff_ne.mpr c29); (by_cases c35 : a1_1 = 2)
           ·rw [if_pos c35] at H
            (have c35b0 : (a1_1 == 2) = true := beq_iff_eq.mpr c35); (have c35b1 : (a1_1 != 2) = false := bne_eq_false_iff_eq.mpr c35); clear c35; (by_cases c36 : a1_2 ≥ 0)
            ·rw [if_pos c36] at H
             (have c36b0 : decide (0 ≤ a1_2) = true := decide_eq_true c36); clear c36; (by_cases c37 : a1_2 ≤ a1_3)
             ·rw [if_pos c37] at H
              (have c37b0 := decide_eq_true c37); clear c37; (obtain rfl := Option.some.inj H); (have hcz38_0 := cz BK101.out 0); (have hcz38_1 := cz BK101.out 1); (have hcz38_2 := cz BK101.out 2); (have hcz38_3 := cz BK101.out 3); (have hcz38_4 := cz BK101.out 4); (have hcz38_5 := cz BK101.out 5); (have hcz38_6 := cz BK101.out 6); (have hfz38_0 := blk_frozen BK101.out 0); (have hfz38_1 := blk_frozen BK101.out 1); (have hfz38_2 := blk_frozen BK101.out 2); (have hfz38_3 := blk_frozen BK101.out 3); (have hfz38_4 := blk_frozen BK101.out 4); (have hfz38_5 := blk_frozen BK101.out 5); (have hfz38_6 := blk_frozen BK101.out 6); (go_wp2); go_ret; (exact Q7)
             ·rw [if_neg c37] at H
              (have c37b0 := decide_eq_false c37); clear c37; (obtain rfl := Option.some.inj H); (have hcz39_0 := cz BK101.out 0); (have hcz39_1 := cz BK101.out 1); (have hcz39_2 := cz BK101.out 2); (have hcz39_3 := cz BK101.out 3); (have hcz39_4 := cz BK101.out 4); (have hcz39_5 := cz BK101.out 5); (have hcz39_6 := cz BK101.out 6); (have hfz39_0 := blk_frozen BK101.out 0); (have hfz39_1 := blk_frozen BK101.out 1); (have hfz39_2 := blk_frozen BK101.out 2); (have hfz39_3 := blk_frozen BK101.out 3); (have hfz39_4 := blk_frozen BK101.out 4); (have hfz39_5 := blk_frozen BK101.out 5); (have hfz39_6 := blk_frozen BK101.out 6); (go_wp2); go_ret; (exact Q7)
            ·rw [if_neg c36] at H
             (have c36b0 : decide (0 ≤ a1_2) = false := decide_eq_false c36); clear c36; (obtain rfl := Option.some.inj H); (have hcz40_0 := cz BK101.out 0); (have hcz40_1 := cz BK101.out 1); (have hcz40_2 := cz BK101.out 2); (have hcz40_3 := cz BK101.out 3); (have hcz40_4 := cz BK101.out 4); (have hcz40_5 := cz BK101.out 5); (have hcz40_6 := cz BK101.out 6); (have hfz40_0 := blk_frozen BK101.out 0); (have hfz40_1 := blk_frozen BK101.out 1); (have hfz40_2 := blk_frozen BK101.out 2); (have hfz40_3 := blk_frozen BK101.out 3); (have hfz40_4 := blk_frozen BK101.out 4); (have hfz40_5 := blk_frozen BK101.out 5); (have hfz40_6 := blk_frozen BK101.out 6); (go_wp2); go_ret; (exact Q7)
           ·rw [if_neg c35] at H
            (have c35b0 : (a1_1 == 2) = false := beq_eq_false_iff_ne.mpr c35); (have c35b1 : (a1_1 != 2) = true := bne_iff_ne.mpr c35); (by_cases c41 : a1_1 = 3)
            ·rw [if_pos c41] at H
             (have c41b0 : (a1_1 == 3) = true := beq_iff_eq.mpr c41); (have c41b1 : (a1_1 != 3) = false := bne_eq_false_iff_eq.mpr c41); clear c41; (have H' := Aside0.mk H); clear H; (have hcz42_0 := cz BK101.out 0); (have hcz42_1 := cz BK101.out 1); (have hcz42_2 := cz BK101.out 2); (have hcz42_3 := cz BK101.out 3); (have hcz42_4 := cz BK101.out 4); (have hcz42_5 := cz BK101.out 5); (have hcz42_6 := cz BK101.out 6); (have hfz42_0 := blk_frozen BK101.out 0); (have hfz42_1 := blk_frozen BK101.out 1); (have hfz42_2 := blk_frozen BK101.out 2); (have hfz42_3 := blk_frozen BK101.out 3); (have hfz42_4 := blk_frozen BK101.out 4); (have hfz42_5 := blk_frozen BK101.out 5); (have hfz42_6 := blk_frozen BK101.out 6); (go_wp2); (go_loopg [88] kj23 (fun kq v88 w' => ∃ (x88_4 : Int), v88 = .int .i64 x88_4 ∧ Aside0 (impl_isField.l0 kq l1_4 (l1_4.length : Int) x88_4 a1_0 a1_1 a1_2 a1_3 l1_4 a1_5 a1_6 = some r) ∧ Aside0 (kq ≤ kj23) ∧ Aside0 (w'.heap[gb101]? = some (.cells #[.string a1_0, .int .i64 a1_1, .int .i64 a1_2, .int .i64 a1_3, (.slice A1_4 l1_4.length c1_4), .bool a1_5, .string a1_6] 54 (0, 0))) ∧ Aside0 (Below w.heap.size w w')))
             case atStart => exact ⟨(0), Q5, H', ⟨Nat.le_refl _⟩, ⟨kI BK101⟩, ⟨eI HB⟩⟩
             case round =>
              (clear H'); (try clear c1); (try clear p1); (try clear q1); (try clear hx1); (try clear c2); (try clear p2); (try clear c3); (try clear c4); (try clear c5); (try clear c6); (try clear c10); (try clear p10); (try clear q10); (try clear hx10); (try clear c11); (try clear c16); (try clear c16b0); (try clear c16b1); (try clear c16b2); (try clear c18); (try clear c18b0); (try clear c20); (try clear c20b0); (try clear c21); (try clear c21b0); (try clear c23); (try clear c25); (try clear c25b0); (try clear c25b1); (try clear c28); (try clear c29); (try clear c29b0); (try clear c29b1); (try clear c30); (try clear c30b0); (try clear c31); (try clear c31b0); (try clear c35); (try clear c35b0); (try clear c35b1); (try clear c36); (try clear c36b0); (try clear c37); (try clear c37b0); (try clear c41); (try clear c41b0); (try clear c41b1); (try clear hcz10_0); (try clear hcz10_1); (try clear hcz10_2); (try clear hcz10_3); (try clear hcz10_4); (try clear hcz10_5); (try clear hcz10_6); (try clear hcz14_0); (try clear hcz14_1); (try clear hcz14_2); (try clear hcz14_3); (try clear hcz14_4); (try clear hcz14_5); (try clear hcz14_6); (try clear hcz17_0); (try clear hcz17_1); (try clear hcz17_2); (try clear hcz17_3); (try clear hcz17_4); (try clear hcz17_5); (try clear hcz17_6); (try clear hcz19_0); (try clear hcz19_1); (try clear hcz19_2); (try clear hcz19_3); (try clear hcz19_4); (try clear hcz19_5); (try clear hcz19_6); (try clear hcz22_0); (try clear hcz22_1); (try clear hcz22_2); (try clear hcz22_3); (try clear hcz22_4); (try clear hcz22_5); (try clear hcz22_6); (try clear hcz26_0); (try clear hcz26_1); (try clear hcz26_2); (try clear hcz26_3); (try clear hcz26_4); (try clear hcz26_5); (try clear hcz26_6); (try clear hcz27_0); (try clear hcz27_1); (try clear hcz27_2); (try clear hcz27_3); (try clear hcz27_4); (try clear hcz27_5); (try clear hcz27_6); (try clear hcz32_0); (try clear hcz32_1); (try clear hcz32_2); (try clear hcz32_3); (try clear hcz32_4); (try clear hcz32_5); (try clear hcz32_6); (try clear hcz33_0); (try clear hcz33_1); (try clear hcz33_2); (try clear hcz33_3); (try clear hcz33_4); (try clear hcz33_5); (try clear hcz33_6); (try clear hcz34_0); (try clear hcz34_1); (try clear hcz34_2); (try clear hcz34_3); (try clear hcz34_4); (try clear hcz34_5); (try clear hcz34_6); (try clear hcz38_0); (try clear hcz38_1); (try clear hcz38_2); (try clear hcz38_3); (try clear hcz38_4); (try clear hcz38_5); (try clear hcz38_6); (try clear hcz39_0); (try clear hcz39_1); (try clear hcz39_2); (try clear hcz39_3); (try clear hcz39_4); (try clear hcz39_5); (try clear hcz39_6); (try clear hcz40_0); (try clear hcz40_1); (try clear hcz40_2); (try clear hcz40_3); (try clear hcz40_4); (try clear hcz40_5); (try clear hcz40_6); (try clear hcz42_0); (try clear hcz42_1); (try clear hcz42_2); (try clear hcz42_3); (try clear hcz42_4); (try clear hcz42_5); (try clear hcz42_6); (try clear hcz8_0); (try clear hcz8_1); (try clear hcz8_2); (try clear hcz8_3); (try clear hcz8_4); (try clear hcz8_5); (try clear hcz8_6); (try clear hfz10_0); (try clear hfz10_1); (try clear hfz10_2); (try clear hfz10_3); (try clear hfz10_4); (try clear hfz10_5); (try clear hfz10_6); (try clear hfz14_0); (try clear hfz14_1); (try clear hfz14_2); (try clear hfz14_3); (try clear hfz14_4); (try clear hfz14_5); (try clear hfz14_6); (try clear hfz17_0); (try clear hfz17_1); (try clear hfz17_2); (try clear hfz17_3); (try clear hfz17_4); (try clear hfz17_5); (try clear hfz17_6); (try clear hfz19_0); (try clear hfz19_1); (try clear hfz19_2); (try clear hfz19_3); (try clear hfz19_4); (try clear hfz19_5); (try clear hfz19_6); (try clear hfz22_0); (try clear hfz22_1); (try clear hfz22_2); (try clear hfz22_3); (try clear hfz22_4); (try clear hfz22_5); (try clear hfz22_6); (try clear hfz26_0); (try clear hfz26_1); (try clear hfz26_2); (try clear hfz26_3); (try clear hfz26_4); (try clear hfz26_5); (try clear hfz26_6); (try clear hfz27_0); (try clear hfz27_1); (try clear hfz27_2); (try clear hfz27_3); (try clear hfz27_4); (try clear hfz27_5); (try clear hfz27_6); (try clear hfz32_0); (try clear hfz32_1); (try clear hfz32_2); (try clear hfz32_3); (try clear hfz32_4); (try clear hfz32_5); (try clear hfz32_6); (try clear hfz33_0); (try clear hfz33_1); (try clear hfz33_2); (try clear hfz33_3); (try clear hfz33_4); (try clear hfz33_5); (try clear hfz33_6); (try clear hfz34_0); (try clear hfz34_1); (try clear hfz34_2); (try clear hfz34_3); (try clear hfz34_4); (try clear hfz34_5); (try clear hfz34_6); (try clear hfz38_0); (try clear hfz38_1); (try clear hfz38_2); (try clear hfz38_3); (try clear hfz38_4); (try clear hfz38_5); (try clear hfz38_6); (try clear hfz39_0); (try clear hfz39_1); (try clear hfz39_2); (try clear hfz39_3); (try clear hfz39_4); (try clear hfz39_5); (try clear hfz39_6); (try clear hfz40_0); (try clear hfz40_1); (try clear hfz40_2); (try clear hfz40_3); (try clear hfz40_4); (try clear hfz40_5); (try clear hfz40_6); (try clear hfz42_0); (try clear hfz42_1); (try clear hfz42_2); (try clear hfz42_3); (try clear hfz42_4); (try clear hfz42_5); (try clear hfz42_6); (try clear hfz8_0); (try clear hfz8_1); (try clear hfz8_2); (try clear hfz8_3); (try clear hfz8_4); (try clear hfz8_5); (try clear hfz8_6); (try clear hx105_0); (try clear hx105_1); (try clear hx105_2); (try clear hx105_3); (try clear hx105_4); (try clear hx105_5); (try clear hx105_6); (try clear p1); (try clear p10); (try clear p105); (try clear p2); (try clear q1); (try clear q10); (try clear q105); (obtain ⟨x88_4, rfl, HA, HK4, BK101, HB⟩ := hrel)
              cases gk with
              | zero => exact absurd HA.out (by simp [impl_isField.l0])
              | succ k4 =>
               (have H := HA.out); clear HA; (simp only [impl_isField.l0] at H); (by_cases c43 : x88_4 < (l1_4.length : Int))
               ·rw [if_pos c43] at H
                (have c43b0 := decide_eq_true c43); clear c43; (by_cases c44 : 0 ≤ x88_4)
                ·rw [if_pos c44] at H
                 (have c44b0 := decide_eq_true c44); clear c44; (by_cases c45 : x88_4 < (l1_4.length : Int))
                 ·rw [if_pos c45] at H
                  (have c45b0 := decide_eq_true c45); clear c45; (replace H := obS H); (obtain ⟨t108, A46, H⟩ := H); (by_cases c47 : t108 = true)
                  ·subst c47
                   (rw [if_pos rfl] at H); (have c48b0 := eq_true (odt : 0 ≤ x88_4)); (by_cases c49 : x88_4 ≤ (l1_4.length : Int))
                   ·rw [if_pos c49] at H
                    (have c49b0 := eq_true c49); (have c49b1 := decide_eq_true c49); clear c49; (replace H := obS H); (obtain ⟨t110, A50, H⟩ := H); (by_cases c51 : t110 = true)
                    ·subst c51
                     (rw [if_pos rfl] at H); (obtain rfl := Option.some.inj H); (have p107 : 0 ≤ (x88_4 : Int) := odt); (have q107 : x88_4 < (l1_4.length : Int) := odt); (obtain ⟨ad107, e107, hx107_0⟩ := Kd.at_string HR1_4.out x88_4 p107 q107); (cases e107); (replace hx107_0 := hcI HB hx107_0); (replace p107 := eq_true p107); (replace q107 := eq_true q107); (go_wp2_with (first | ((with_reducible refine gate_callee (f := 58) rfl ?_); refine gL (some 94) Tryd.func58 #[.string (rdOf ByteArray.empty l1_4 x88_4)] ?_; (with_reducible refine (impl_isName.calls k4 (rdOf ByteArray.empty l1_4 x88_4) true _ A46.out).mono ?_); rintro e w' ⟨rfl, ⟨nd, rfl⟩⟩; refine ⟨_, rfl, ?_⟩; have hcz52_0 := cz BK101.out 0; have hcz52_1 := cz BK101.out 1; have hcz52_2 := cz BK101.out 2; have hcz52_3 := cz BK101.out 3; have hcz52_4 := cz BK101.out 4; have hcz52_5 := cz BK101.out 5; have hcz52_6 := cz BK101.out 6; have hfz52_0 := blk_frozen BK101.out 0; have hfz52_1 := blk_frozen BK101.out 1; have hfz52_2 := blk_frozen BK101.out 2; have hfz52_3 := blk_frozen BK101.out 3; have hfz52_4 := blk_frozen BK101.out 4; have hfz52_5 := blk_frozen BK101.out 5; have hfz52_6 := blk_frozen BK101.out 6; obtain ⟨i053, hi053, _, hsz53, _⟩ := info_parts info9; obtain ⟨hcut53, hA53, hC53⟩ := print_take_of (P := Tryd.prog) Value.string (⟨#[]⟩ : ByteArray) 42 9 .i64 Tryd.underlying42 hi053 hsz53 (some ad107) c1_4 l1_4 x88_4 odt odt HC1_4.out; have HR109 := Aside0.mk (Kd.C_of_reads (h1 := fun _ => rfl) (hA53 _ (Kd.reads_of_C HR1_4.out))); have HC109 := Aside0.mk hC53; clear hA53 hC53 hi053 hsz53) | (go_at_call 26; refine calls_of_args (args' := #[.slice (some ad107) (l1_4.take (x88_4 : Int).toNat).length c1_4, .string (rdOf ByteArray.empty l1_4 x88_4)]) Q11 ?_; (with_reducible refine (slices_Contains_string_string.calls k4 _ _ (l1_4.take (x88_4 : Int).toNat) (rdOf ByteArray.empty l1_4 x88_4) true _ ?side1 ?side2 A50.out).mono ?_); (case side1 => exact Kd.C_below HR109.out (eI HB)); (case side2 => exact HC109.out); rintro e w' ⟨rfl, ⟨nd, rfl⟩⟩))); go_ret; (exact Q7)
                    ·replace c51 := Bool.eq_false_iff.mpr c51
                     subst c51; (rw [if_neg (show ¬ (false = true) by decide)] at H); (have H' := Aside0.mk H); clear H; (have p107 : 0 ≤ (x88_4 : Int) := odt); (have q107 : x88_4 < (l1_4.length : Int) := odt); (obtain ⟨ad107, e107, hx107_0⟩ := Kd.at_string HR1_4.out x88_4 p107 q107); (cases e107); (replace hx107_0 := hcI HB hx107_0); (replace p107 := eq_true p107); (replace q107 := eq_true q107); (go_wp2_with (first | ((with_reducible refine gate_callee (f := 58) rfl ?_); refine gL (some 94) Tryd.func58 #[.string (rdOf ByteArray.empty l1_4 x88_4)] ?_; (with_reducible refine (impl_isName.calls k4 (rdOf ByteArray.empty l1_4 x88_4) true _ A46.out).mono ?_); rintro e w' ⟨rfl, ⟨nd, rfl⟩⟩; refine ⟨_, rfl, ?_⟩; have hcz54_0 := cz BK101.out 0; have hcz54_1 := cz BK101.out 1; have hcz54_2 := cz BK101.out 2; have hcz54_3 := cz BK101.out 3; have hcz54_4 := cz BK101.out 4; have hcz54_5 := cz BK101.out 5; have hcz54_6 := cz BK101.out 6; have hfz54_0 := blk_frozen BK101.out 0; have hfz54_1 := blk_frozen BK101.out 1; have hfz54_2 := blk_frozen BK101.out 2; have hfz54_3 := blk_frozen BK101.out 3; have hfz54_4 := blk_frozen BK101.out 4; have hfz54_5 := blk_frozen BK101.out 5; have hfz54_6 := blk_frozen BK101.out 6; obtain ⟨i055, hi055, _, hsz55, _⟩ := info_parts info9; obtain ⟨hcut55, hA55, hC55⟩ := print_take_of (P := Tryd.prog) Value.string (⟨#[]⟩ : ByteArray) 42 9 .i64 Tryd.underlying42 hi055 hsz55 (some ad107) c1_4 l1_4 x88_4 odt odt HC1_4.out; have HR109 := Aside0.mk (Kd.C_of_reads (h1 := fun _ => rfl) (hA55 _ (Kd.reads_of_C HR1_4.out))); have HC109 := Aside0.mk hC55; clear hA55 hC55 hi055 hsz55) | (go_at_call 26; refine calls_of_args (args' := #[.slice (some ad107) (l1_4.take (x88_4 : Int).toNat).length c1_4, .string (rdOf ByteArray.empty l1_4 x88_4)]) Q11 ?_; (with_reducible refine (slices_Contains_string_string.calls k4 _ _ (l1_4.take (x88_4 : Int).toNat) (rdOf ByteArray.empty l1_4 x88_4) false _ ?side1 ?side2 A50.out).mono ?_); (case side1 => exact Kd.C_below HR109.out (eI HB)); (case side2 => exact HC109.out); rintro e w' ⟨rfl, ⟨nd, rfl⟩⟩))); go_roundg k4
                     case measure => have := HJ2.out; have := HJ12.out; have := HJ23.out; have := HK4.out; omega
                     case rel => exact ⟨(wrap64 (x88_4 + 1)), Q5, H', ⟨by have := HJ2.out; have := HJ12.out; have := HJ23.out; have := HK4.out; omega⟩, ⟨kI BK101⟩, ⟨eI HB⟩⟩
                   ·rw [if_neg c49] at H
                    exact Q3
                  ·replace c47 := Bool.eq_false_iff.mpr c47
                   subst c47; (rw [if_neg (show ¬ (false = true) by decide)] at H); (obtain rfl := Option.some.inj H); (have p107 : 0 ≤ (x88_4 : Int) := odt); (have q107 : x88_4 < (l1_4.length : Int) := odt); (obtain ⟨ad107, e107, hx107_0⟩ := Kd.at_string HR1_4.out x88_4 p107 q107); (cases e107); (replace hx107_0 := hcI HB hx107_0); (replace p107 := eq_true p107); (replace q107 := eq_true q107); (go_wp2_with (first | ((with_reducible refine gate_callee (f := 58) rfl ?_); refine gL (some 94) Tryd.func58 #[.string (rdOf ByteArray.empty l1_4 x88_4)] ?_; (with_reducible refine (impl_isName.calls k4 (rdOf ByteArray.empty l1_4 x88_4) false _ A46.out).mono ?_); rintro e w' ⟨rfl, ⟨nd, rfl⟩⟩; refine ⟨_, rfl, ?_⟩))); go_ret; (exact Q7)
                 ·rw [if_neg c45] at H
                  exact Q3
                ·rw [if_neg c44] at H
                 exact Q3
               ·rw [if_neg c43] at H
                (have c43b0 := decide_eq_false c43); clear c43; (replace H := obS H); (obtain ⟨t106, A56, H⟩ := H); (by_cases c57 : t106 = true)
                ·subst c57
                 (rw [if_pos rfl] at H); (by_cases c58 : a1_2 = 0)
                 ·rw [if_pos c58] at H
                  (have c58b0 : (a1_2 == 0) = true := beq_iff_eq.mpr c58); (have c58b1 : (a1_2 != 0) = false := bne_eq_false_iff_eq.mpr c58); clear c58; (obtain rfl := Option.some.inj H); (have hcz59_0 := cz BK101.out 0); (have hcz59_1 := cz BK101.out 1); (have hcz59_2 := cz BK101.out 2); (have hcz59_3 := cz BK101.out 3); (have hcz59_4 := cz BK101.out 4); (have hcz59_5 := cz BK101.out 5); (have hcz59_6 := cz BK101.out 6); (have hfz59_0 := blk_frozen BK101.out 0); (have hfz59_1 := blk_frozen BK101.out 1); (have hfz59_2 := blk_frozen BK101.out 2); (have hfz59_3 := blk_frozen BK101.out 3); (have hfz59_4 := blk_frozen BK101.out 4); (have hfz59_5 := blk_frozen BK101.out 5); (have hfz59_6 := blk_frozen BK101.out 6); (go_wp2_with (first | ((with_reducible refine gate_callee (f := 59) rfl ?_); refine gL (some 108) Tryd.func59 #[.int .i64 (l1_4.length : Int), .int .i64 1, .int .i64 6] ?_; (with_reducible refine (impl_within.calls (l1_4.length : Int) 1 6 true _ A56.out).mono ?_); rintro e w' ⟨rfl, ⟨nd, rfl⟩⟩; refine ⟨_, rfl, ?_⟩))); go_ret; (exact Q7)
                 ·rw [if_neg c58] at H
                  (have c58b0 : (a1_2 == 0) = false := beq_eq_false_iff_ne.mpr c58); (have c58b1 : (a1_2 != 0) = true := bne_iff_ne.mpr c58); (obtain rfl := Option.some.inj H); (have hcz60_0 := cz BK101.out 0); (have hcz60_1 := cz BK101.out 1); (have hcz60_2 := cz BK101.out 2); (have hcz60_3 := cz BK101.out 3); (have hcz60_4 := cz BK101.out 4); (have hcz60_5 := cz BK101.out 5); (have hcz60_6 := cz BK101.out 6); (have hfz60_0 := blk_frozen BK101.out 0); (have hfz60_1 := blk_frozen BK101.out 1); (have hfz60_2 := blk_frozen BK101.out 2); (have hfz60_3 := blk_frozen BK101.out 3); (have hfz60_4 := blk_frozen BK101.out 4); (have hfz60_5 := blk_frozen BK101.out 5); (have hfz60_6 := blk_frozen BK101.out 6); (go_wp2_with (first | ((with_reducible refine gate_callee (f := 59) rfl ?_); refine gL (some 108) Tryd.func59 #[.int .i64 (l1_4.length : Int), .int .i64 1, .int .i64 6] ?_; (with_reducible refine (impl_within.calls (l1_4.length : Int) 1 6 true _ A56.out).mono ?_); rintro e w' ⟨rfl, ⟨nd, rfl⟩⟩; refine ⟨_, rfl, ?_⟩))); go_ret; (exact Q7)
                ·replace c57 := Bool.eq_false_iff.mpr c57
                 subst c57; (rw [if_neg (show ¬ (false = true) by decide)] at H); (obtain rfl := Option.some.inj H); (have hcz61_0 := cz BK101.out 0); (have hcz61_1 := cz BK101.out 1); (have hcz61_2 := cz BK101.out 2); (have hcz61_3 := cz BK101.out 3); (have hcz61_4 := cz BK101.out 4); (have hcz61_5 := cz BK101.out 5); (have hcz61_6 := cz BK101.out 6); (have hfz61_0 := blk_frozen BK101.out 0); (have hfz61_1 := blk_frozen BK101.out 1); (have hfz61_2 := blk_frozen BK101.out 2); (have hfz61_3 := blk_frozen BK101.out 3); (have hfz61_4 := blk_frozen BK101.out 4); (have hfz61_5 := blk_frozen BK101.out 5); (have hfz61_6 := blk_frozen BK101.out 6); (go_wp2_with (first | ((with_reducible refine gate_callee (f := 59) rfl ?_); refine gL (some 108) Tryd.func59 #[.int .i64 (l1_4.length : Int), .int .i64 1, .int .i64 6] ?_; (with_reducible refine (impl_within.calls (l1_4.length : Int) 1 6 false _ A56.out).mono ?_); rintro e w' ⟨rfl, ⟨nd, rfl⟩⟩; refine ⟨_, rfl, ?_⟩))); go_ret; (exact Q7)
            ·rw [if_neg c41] at H
             (have c41b0 : (a1_1 == 3) = false := beq_eq_false_iff_ne.mpr c41); (have c41b1 : (a1_1 != 3) = true := bne_iff_ne.mpr c41); (by_cases c62 : a1_1 = 4)
             ·rw [if_pos c62] at H
              (have c62b0 : (a1_1 == 4) = true := beq_iff_eq.mpr c62); (have c62b1 : (a1_1 != 4) = false := bne_eq_false_iff_eq.mpr c62); clear c62; (by_cases c63 : a1_2 = 0)
              ·rw [if_pos c63] at H
               (have c63b0 : (a1_2 == 0) = true := beq_iff_eq.mpr c63); (have c63b1 : (a1_2 != 0) = false := bne_eq_false_iff_eq.mpr c63); clear c63; (obtain rfl := Option.some.inj H); (have hcz64_0 := cz BK101.out 0); (have hcz64_1 := cz BK101.out 1); (have hcz64_2 := cz BK101.out 2); (have hcz64_3 := cz BK101.out 3); (have hcz64_4 := cz BK101.out 4); (have hcz64_5 := cz BK101.out 5); (have hcz64_6 := cz BK101.out 6); (have hfz64_0 := blk_frozen BK101.out 0); (have hfz64_1 := blk_frozen BK101.out 1); (have hfz64_2 := blk_frozen BK101.out 2); (have hfz64_3 := blk_frozen BK101.out 3); (have hfz64_4 := blk_frozen BK101.out 4); (have hfz64_5 := blk_frozen BK101.out 5); (have hfz64_6 := blk_frozen BK101.out 6); (go_wp2); go_ret; (exact Q7)
              ·rw [if_neg c63] at H
               (have c63b0 : (a1_2 == 0) = false := beq_eq_false_iff_ne.mpr c63); (have c63b1 : (a1_2 != 0) = true := bne_iff_ne.mpr c63); (obtain rfl := Option.some.inj H); (have hcz65_0 := cz BK101.out 0); (have hcz65_1 := cz BK101.out 1); (have hcz65_2 := cz BK101.out 2); (have hcz65_3 := cz BK101.out 3); (have hcz65_4 := cz BK101.out 4); (have hcz65_5 := cz BK101.out 5); (have hcz65_6 := cz BK101.out 6); (have hfz65_0 := blk_frozen BK101.out 0); (have hfz65_1 := blk_frozen BK101.out 1); (have hfz65_2 := blk_frozen BK101.out 2); (have hfz65_3 := blk_frozen BK101.out 3); (have hfz65_4 := blk_frozen BK101.out 4); (have hfz65_5 := blk_frozen BK101.out 5); (have hfz65_6 := blk_frozen BK101.out 6); (go_wp2); go_ret; (exact Q7)
             ·rw [if_neg c62] at H
              (have c62b0 : (a1_1 == 4) = false := beq_eq_false_iff_ne.mpr c62); (have c62b1 : (a1_1 != 4) = true := bne_iff_ne.mpr c62); (obtain rfl := Option.some.inj H); (have hcz66_0 := cz BK101.out 0); (have hcz66_1 := cz BK101.out 1); (have hcz66_2 := cz BK101.out 2); (have hcz66_3 := cz BK101.out 3); (have hcz66_4 := cz BK101.out 4); (have hcz66_5 := cz BK101.out 5); (have hcz66_6 := cz BK101.out 6); (have hfz66_0 := blk_frozen BK101.out 0); (have hfz66_1 := blk_frozen BK101.out 1); (have hfz66_2 := blk_frozen BK101.out 2); (have hfz66_3 := blk_frozen BK101.out 3); (have hfz66_4 := blk_frozen BK101.out 4); (have hfz66_5 := blk_frozen BK101.out 5); (have hfz66_6 := blk_frozen BK101.out 6); (go_wp2); go_ret; (exact Q7)
/-! ### impl_IsValidForm: function 10 -/
def impl_IsValidForm.l0 : Nat → List (S54) → List (S54) → Int → Int → Option (Bool)
 | 0, _, _, _, _ => none
 | k + 1, x0, x5, x6, x7 => if x7 < x6 then (if 0 ≤ x7 then (if x7 < (x5.length : Int) then (if x7 ≤ (x0.length : Int) then ((impl_isField.f k (x0.take (x7 : Int).toNat) ((rd_T54 x5 x7).f0) ((rd_T54 x5 x7).f1) ((rd_T54 x5 x7).f2) ((rd_T54 x5 x7).f3) ((rd_T54 x5 x7).f4) ((rd_T54 x5 x7).f5) ((rd_T54 x5 x7).f6)).bind fun t107 => (if t107 = true then (impl_IsValidForm.l0 k x0 x5 x6 (wrap64 (x7 + 1))) else (some false))) else (none)) else (none)) else (none)) else (some (decide ((x0.length : Int) ≤ 10)))
def impl_IsValidForm.f (k : Nat) (l0 : List (S54)) : Option (Bool) := impl_IsValidForm.l0 k l0 l0 (l0.length : Int) 0
set_option maxHeartbeats 8000000 in
set_option maxRecDepth 100000 in
theorem impl_IsValidForm.calls (k : Nat) (A0 : Option Addr) (c0 : Nat) (l0 : List (S54)) (r : Bool) (w : World) (hr0 : Kd.C k54 w A0 l0.length l0) (hc0 : l0.length ≤ c0) (h : impl_IsValidForm.f k l0 = some r) :
  Calls Tryd.prog 10 #[.slice A0 l0.length c0] w fun e w' => e = .returned (.bool r) ∧ Below w.heap.size w w' := by
 (have hu54 := Tryd.underlying54); (have HR0 := Aside0.mk hr0); (have HC0 := Aside0.mk hc0); clear hr0 hc0; (have HB := Aside0.mk (Below.refl w.heap.size w)); (unfold impl_IsValidForm.f at h); (have H := h); clear h; (have H' := Aside0.mk H); clear H; (go_enter Tryd.func10, Tryd.ntmps10); (go_wp2); (go_loopg [7] k (fun kq v7 w' => ∃ (x7_1 : Int), v7 = .int .i64 x7_1 ∧ Aside0 (impl_IsValidForm.l0 kq l0 l0 (l0.length : Int) x7_1 = some r) ∧ Aside0 (kq ≤ k) ∧ Aside0 (Below w.heap.size w w')))
 case atStart => exact Q12
 case round =>
  (clear H'); (try clear c1); (obtain ⟨x7_1, rfl, HA, HK1, HB⟩ := hrel)
  cases gk with
  | zero => exact absurd HA.out (by simp [impl_IsValidForm.l0])
  | succ k1 =>
   (have H := HA.out); clear HA; (simp only [impl_IsValidForm.l0] at H); (by_cases c2 : x7_1 < (l0.length : Int))
   ·rw [if_pos c2] at H
    (have c2b0 := decide_eq_true c2); clear c2; (by_cases c3 : 0 ≤ x7_1)
    ·rw [if_pos c3] at H
     (have c3b0 := decide_eq_true c3); clear c3; (by_cases c4 : x7_1 < (l0.length : Int))
     ·rw [if_pos c4] at H
      (have c4b0 := decide_eq_true c4); clear c4; (have c5b0 := eq_true (odt : 0 ≤ x7_1)); (by_cases c6 : x7_1 ≤ (l0.length : Int))
      ·rw [if_pos c6] at H
       (have c6b0 := eq_true c6); (have c6b1 := decide_eq_true c6); clear c6; (obtain ⟨y103, hy103⟩ : ∃ y_ : List (S54), y_ = (l0.take (x7_1 : Int).toNat) := ⟨_, rfl⟩); (replace H : ((impl_isField.f k1 y103 ((rd_T54 l0 x7_1).f0) ((rd_T54 l0 x7_1).f1) ((rd_T54 l0 x7_1).f2) ((rd_T54 l0 x7_1).f3) ((rd_T54 l0 x7_1).f4) ((rd_T54 l0 x7_1).f5) ((rd_T54 l0 x7_1).f6)).bind fun t107 => (if t107 = true then (impl_IsValidForm.l0 k1 l0 l0 (l0.length : Int) (wrap64 (x7_1 + 1))) else (some false))) = some r := by first | (rw [hy103]; with_reducible exact H) | (have H2_ := (Option.bind_some _ _).symm.trans H; rw [hy103]; with_reducible exact H2_) | (have H2_ := (Option.bind_some _ _).symm.trans H; with_reducible exact H2_) | with_reducible exact H | (rw [hy103]; exact H) | exact H); (have Ny103 := Aside0.mk hy103); clear hy103; (replace H := obS H); (obtain ⟨t107, A7, H⟩ := H); (by_cases c8 : t107 = true)
       ·subst c8
        (rw [if_pos rfl] at H); (have H' := Aside0.mk H); clear H; (have p101 : 0 ≤ (x7_1 : Int) := odt); (have q101 : x7_1 < (l0.length : Int) := odt); (obtain ⟨ad101, A101_4, c101_4, e101, hx101_0, hx101_1, hx101_2, hx101_3, hx101_4, hx101_5, hx101_6, hl101_4, hi101_4⟩ := at_T54 HR0.out x7_1 p101 q101); (cases e101); (replace hx101_0 := hcI HB hx101_0); (replace hx101_1 := hcI HB hx101_1); (replace hx101_2 := hcI HB hx101_2); (replace hx101_3 := hcI HB hx101_3); (replace hx101_4 := hcI HB hx101_4); (replace hx101_5 := hcI HB hx101_5); (replace hx101_6 := hcI HB hx101_6); (have HR101_4 := Aside0.mk hi101_4); (have HC101_4 := Aside0.mk hl101_4); clear hi101_4 hl101_4; (replace p101 := eq_true p101); (replace q101 := eq_true q101); (try go_wp2_with (first | ((with_reducible refine gate_dst (N := 4) rfl ?_); refine box_event ?hg (N := 4) ?hd (cs := #[.string (⟨#[]⟩ : ByteArray), .int .i64 0, .int .i64 0, .int .i64 0, .slice none 0 0, .bool false, .string (⟨#[]⟩ : ByteArray)]) (t := 54) ?hr ?_; (case hd => rfl); (case hg => rfl); (case hr => first | (go_simp; done) | (go_simp; rfl)); intro gb102 hg w9 hbox hb; have hB_ := zI hb HB; have n0_ := Aside0.mk (below_step hB_ hb); have n1_ := Aside0.mk (hbox); have n2_ := Aside0.mk (bx0 hg hB_); have n3_ := n2_; clear HB; have HB := n0_; have BK102 := n1_; have GW102 := n2_; have GE102 := n3_; clear n0_ n1_ n2_ n3_ hB_ hb hbox hg; have hcz10_0 := cz BK102.out 0; have hcz10_1 := cz BK102.out 1; have hcz10_2 := cz BK102.out 2; have hcz10_3 := cz BK102.out 3; have hcz10_4 := cz BK102.out 4; have hcz10_5 := cz BK102.out 5; have hcz10_6 := cz BK102.out 6; have hfz10_0 := blk_frozen BK102.out 0; have hfz10_1 := blk_frozen BK102.out 1; have hfz10_2 := blk_frozen BK102.out 2; have hfz10_3 := blk_frozen BK102.out 3; have hfz10_4 := blk_frozen BK102.out 4; have hfz10_5 := blk_frozen BK102.out 5; have hfz10_6 := blk_frozen BK102.out 6))); (have n0_ : Aside0 ((((((((w9.setCell ⟨gb102, 0, none⟩ (.string ((rd_T54 l0 x7_1).f0))).setCell ⟨gb102, 1, none⟩ (.int .i64 ((rd_T54 l0 x7_1).f1))).setCell ⟨gb102, 2, none⟩ (.int .i64 ((rd_T54 l0 x7_1).f2))).setCell ⟨gb102, 3, none⟩ (.int .i64 ((rd_T54 l0 x7_1).f3))).setCell ⟨gb102, 4, none⟩ (.slice A101_4 ((rd_T54 l0 x7_1).f4).length c101_4)).setCell ⟨gb102, 5, none⟩ (.bool ((rd_T54 l0 x7_1).f5))).setCell ⟨gb102, 6, none⟩ (.string ((rd_T54 l0 x7_1).f6))).heap[gb102]? = some (.cells #[.string ((rd_T54 l0 x7_1).f0), .int .i64 ((rd_T54 l0 x7_1).f1), .int .i64 ((rd_T54 l0 x7_1).f2), .int .i64 ((rd_T54 l0 x7_1).f3), .slice A101_4 ((rd_T54 l0 x7_1).f4).length c101_4, .bool ((rd_T54 l0 x7_1).f5), .string ((rd_T54 l0 x7_1).f6)] 54 (0, 0))) := ⟨Q13⟩)
        (have n1_ : Aside0 (Below w.heap.size w (((((((w9.setCell ⟨gb102, 0, none⟩ (.string ((rd_T54 l0 x7_1).f0))).setCell ⟨gb102, 1, none⟩ (.int .i64 ((rd_T54 l0 x7_1).f1))).setCell ⟨gb102, 2, none⟩ (.int .i64 ((rd_T54 l0 x7_1).f2))).setCell ⟨gb102, 3, none⟩ (.int .i64 ((rd_T54 l0 x7_1).f3))).setCell ⟨gb102, 4, none⟩ (.slice A101_4 ((rd_T54 l0 x7_1).f4).length c101_4)).setCell ⟨gb102, 5, none⟩ (.bool ((rd_T54 l0 x7_1).f5))).setCell ⟨gb102, 6, none⟩ (.string ((rd_T54 l0 x7_1).f6)))) := ⟨Q14⟩); ((try clear BK102)); ((try clear HB)); (generalize (((((((w9.setCell ⟨gb102, 0, none⟩ (.string ((rd_T54 l0 x7_1).f0))).setCell ⟨gb102, 1, none⟩ (.int .i64 ((rd_T54 l0 x7_1).f1))).setCell ⟨gb102, 2, none⟩ (.int .i64 ((rd_T54 l0 x7_1).f2))).setCell ⟨gb102, 3, none⟩ (.int .i64 ((rd_T54 l0 x7_1).f3))).setCell ⟨gb102, 4, none⟩ (.slice A101_4 ((rd_T54 l0 x7_1).f4).length c101_4)).setCell ⟨gb102, 5, none⟩ (.bool ((rd_T54 l0 x7_1).f5))).setCell ⟨gb102, 6, none⟩ (.string ((rd_T54 l0 x7_1).f6))) = w11 at n0_ n1_ ⊢); (have BK102 := n0_); (have HB := n1_); clear n0_ n1_; (have n0_ := Aside0.mk (blk_drew BK102.out)); (have n1_ := Aside0.mk (below_drew1 HB.out)); clear BK102 HB; (have BK102 := n0_); (have HB := n1_); clear n0_ n1_; (have q13 : (x7_1 : Int) ≤ ((l0.length : Int) : Int) := odt); (obtain ⟨i013, hi013, _, hsz13, _⟩ := info_parts info54); (have hroom13 : l0.length ≤ c0 := HC0.out); (have hC13 : Kd.C k54 _ (some ad101) l0.length l0 := HR0.out); (have hcut13 := cut_to (P := Tryd.prog) 24 54 .i64 Tryd.underlying24 hi013 (some ad101) l0.length c0 x7_1 odt q13 hroom13); (have hr13 := Kd.C_take (m := (x7_1 : Int).toNat) hC13 (by omega)); (have hy13 : y103.length = (x7_1 : Int).toNat := (by rw [Ny103.out, List.length_take]; omega)); (rw [← Ny103.out] at hr13); (rw [← hy13] at hcut13); (have HR106 := Aside0.mk hr13); (have HC106 := Aside0.mk (show y103.length ≤ c0 from by omega)); clear hr13 hC13 hroom13 hi013 hsz13; (have KY13 := Aside0.mk hy13); clear hy13; (replace q13 := eq_true q13); (refine start_ (n := 6) (S := fun w' => w'.cell? ⟨gb102, 0, none⟩ = some (.string ((rd_T54 l0 x7_1).f0)) ∧ w'.cell? ⟨gb102, 1, none⟩ = some (.int .i64 ((rd_T54 l0 x7_1).f1)) ∧ w'.cell? ⟨gb102, 2, none⟩ = some (.int .i64 ((rd_T54 l0 x7_1).f2)) ∧ w'.cell? ⟨gb102, 3, none⟩ = some (.int .i64 ((rd_T54 l0 x7_1).f3)) ∧ w'.cell? ⟨gb102, 4, none⟩ = some (.slice A101_4 ((rd_T54 l0 x7_1).f4).length c101_4) ∧ w'.cell? ⟨gb102, 5, none⟩ = some (.bool ((rd_T54 l0 x7_1).f5)) ∧ w'.cell? ⟨gb102, 6, none⟩ = some (.string ((rd_T54 l0 x7_1).f6))) (ds := []) (cn 6 0) (by kernel_rfl) rfl (by kernel_rfl) ⟨cz BK102.out 0, cz BK102.out 1, cz BK102.out 2, cz BK102.out 3, cz BK102.out 4, cz BK102.out 5, cz BK102.out 6⟩ (fun hHeld => ?_)); (generalize w11.drew = w12 at BK102 HB HR106 hHeld ⊢); (refine pure_ (i := 0) (N := some 12) (v := ?_) (a' := ?_) (cn 6 1) rfl rfl (by kernel_rfl) (fun _ _ _ h => h) (Or.inl ⟨by rfl, ?_⟩) ?_ ?_); rotate_left; (· intro w'; go_simp; with_reducible rfl); rotate_left; (· (simp only [Act.put, aS1, aS2, aS3, i64_w, i32_w]); rfl); (refine pure_ (i := 1) (N := some 13) (v := ?_) (a' := ?_) (cn 6 2) rfl rfl (by kernel_rfl) (fun _ _ _ h => h) (Or.inl ⟨by rfl, ?_⟩) ?_ ?_); rotate_left; (· intro w'; go_simp; with_reducible rfl); rotate_left; (· (simp only [Act.put, aS1, aS2, aS3, i64_w, i32_w]); rfl); (refine pure_ (i := 2) (N := some 14) (v := ?_) (a' := ?_) (cn 6 3) rfl rfl (by kernel_rfl) (fun _ _ _ h => h) (Or.inl ⟨by rfl, ?_⟩) ?_ ?_); rotate_left; (· intro w'; go_simp; with_reducible rfl); rotate_left; (· (simp only [Act.put, aS1, aS2, aS3, i64_w, i32_w]); rfl); (refine take_ (i := 3) (N := some 15) (v := ?_) (a' := ?_) (cn 6 4) rfl rfl (by kernel_rfl) (fun _ _ _ h => h) (Or.inl ⟨by rfl, ?_⟩) hHeld ?_ ?_); rotate_left; (· (rintro w' ⟨s0, s1, s2, s3, s4, s5, s6⟩); go_simp; with_reducible rfl); rotate_left; (· (simp only [Act.put, aS1, aS2, aS3, i64_w, i32_w]); rfl); (refine one_ (i := 4) (N := some 16) (cn 6 5) rfl rfl (by kernel_rfl) (by decide) (fun K hK => ?_)); (refine gG Tryd.func33 #[.slice (some ad101) y103.length c0, .agg #[.string ((rd_T54 l0 x7_1).f0), .int .i64 ((rd_T54 l0 x7_1).f1), .int .i64 ((rd_T54 l0 x7_1).f2), .int .i64 ((rd_T54 l0 x7_1).f3), .slice A101_4 ((rd_T54 l0 x7_1).f4).length c101_4, .bool ((rd_T54 l0 x7_1).f5), .string ((rd_T54 l0 x7_1).f6)]] ?_); (with_reducible refine (impl_isField.calls k1 _ _ y103 ((rd_T54 l0 x7_1).f0) ((rd_T54 l0 x7_1).f1) ((rd_T54 l0 x7_1).f2) ((rd_T54 l0 x7_1).f3) _ _ ((rd_T54 l0 x7_1).f4) ((rd_T54 l0 x7_1).f5) ((rd_T54 l0 x7_1).f6) true _ ?side1 ?side2 ?side3 ?side4 A7.out).mono ?_); ((case side1 => exact Kd.C_below HR106.out (eI HB))); ((case side2 => exact HC106.out)); ((case side3 => exact Q15)); ((case side4 => exact HC101_4.out)); (rintro e w14 ⟨rfl, hb⟩); (refine ⟨_, rfl, ?_⟩)
        (have n0_ := Aside0.mk (kbI hb BK102)); (have n1_ := Aside0.mk (sI hb HB)); clear BK102 HB; (have BK102 := n0_); (have HB := n1_); clear n0_ n1_; ((try clear hb)); ((try clear hb2)); ((try clear hk)); ((try clear hi)); (refine hK.out _ _ ⟨cz BK102.out 0, cz BK102.out 1, cz BK102.out 2, cz BK102.out 3, cz BK102.out 4, cz BK102.out 5, cz BK102.out 6⟩ (fun hHeld => ?_)); clear hK K; (refine nP (some 16) (h := ?_)); (refine pure_ (i := 5) (N := some 17) (v := ?_) (a' := ?_) (cn 6 6) rfl rfl (by kernel_rfl) (fun _ _ _ h => h) (Or.inl ⟨by rfl, ?_⟩) ?_ ?_); rotate_left; (· intro w'; go_simp; with_reducible rfl); rotate_left; (· (simp only [Act.put, aS1, aS2, aS3, i64_w, i32_w]); rfl); (refine done_ (by kernel_rfl) ?_); (try go_wp2); go_roundg k1
        case measure => have := HK1.out; omega
        case rel => exact ⟨(wrap64 (x7_1 + 1)), Q5, H', ⟨Q16⟩, ⟨eI HB⟩⟩
       ·replace c8 := Bool.eq_false_iff.mpr c8
        subst c8; (rw [if_neg (show ¬ (false = true) by decide)] at H); (obtain rfl := Option.some.inj H); (have p101 : 0 ≤ (x7_1 : Int) := odt); (have q101 : x7_1 < (l0.length : Int) := odt); (obtain ⟨ad101, A101_4, c101_4, e101, hx101_0, hx101_1, hx101_2, hx101_3, hx101_4, hx101_5, hx101_6, hl101_4, hi101_4⟩ := at_T54 HR0.out x7_1 p101 q101); (cases e101); (replace hx101_0 := hcI HB hx101_0); (replace hx101_1 := hcI HB hx101_1); (replace hx101_2 := hcI HB hx101_2); (replace hx101_3 := hcI HB hx101_3); (replace hx101_4 := hcI HB hx101_4); (replace hx101_5 := hcI HB hx101_5); (replace hx101_6 := hcI HB hx101_6); (have HR101_4 := Aside0.mk hi101_4); (have HC101_4 := Aside0.mk hl101_4); clear hi101_4 hl101_4; (replace p101 := eq_true p101); (replace q101 := eq_true q101); (try go_wp2_with (first | ((with_reducible refine gate_dst (N := 4) rfl ?_); refine box_event ?hg (N := 4) ?hd (cs := #[.string (⟨#[]⟩ : ByteArray), .int .i64 0, .int .i64 0, .int .i64 0, .slice none 0 0, .bool false, .string (⟨#[]⟩ : ByteArray)]) (t := 54) ?hr ?_; (case hd => rfl); (case hg => rfl); (case hr => first | (go_simp; done) | (go_simp; rfl)); intro gb102 hg w15 hbox hb; have hB_ := zI hb HB; have n0_ := Aside0.mk (below_step hB_ hb); have n1_ := Aside0.mk (hbox); have n2_ := Aside0.mk (bx0 hg hB_); have n3_ := n2_; clear HB; have HB := n0_; have BK102 := n1_; have GW102 := n2_; have GE102 := n3_; clear n0_ n1_ n2_ n3_ hB_ hb hbox hg; have hcz16_0 := cz BK102.out 0; have hcz16_1 := cz BK102.out 1; have hcz16_2 := cz BK102.out 2; have hcz16_3 := cz BK102.out 3; have hcz16_4 := cz BK102.out 4; have hcz16_5 := cz BK102.out 5; have hcz16_6 := cz BK102.out 6; have hfz16_0 := blk_frozen BK102.out 0; have hfz16_1 := blk_frozen BK102.out 1; have hfz16_2 := blk_frozen BK102.out 2; have hfz16_3 := blk_frozen BK102.out 3; have hfz16_4 := blk_frozen BK102.out 4; have hfz16_5 := blk_frozen BK102.out 5; have hfz16_6 := blk_frozen BK102.out 6))); (have n0_ : Aside0 ((((((((w15.setCell ⟨gb102, 0, none⟩ (.string ((rd_T54 l0 x7_1).f0))).setCell ⟨gb102, 1, none⟩ (.int .i64 ((rd_T54 l0 x7_1).f1))).setCell ⟨gb102, 2, none⟩ (.int .i64 ((rd_T54 l0 x7_1).f2))).setCell ⟨gb102, 3, none⟩ (.int .i64 ((rd_T54 l0 x7_1).f3))).setCell ⟨gb102, 4, none⟩ (.slice A101_4 ((rd_T54 l0 x7_1).f4).length c101_4)).setCell ⟨gb102, 5, none⟩ (.bool ((rd_T54 l0 x7_1).f5))).setCell ⟨gb102, 6, none⟩ (.string ((rd_T54 l0 x7_1).f6))).heap[gb102]? = some (.cells #[.string ((rd_T54 l0 x7_1).f0), .int .i64 ((rd_T54 l0 x7_1).f1), .int .i64 ((rd_T54 l0 x7_1).f2), .int .i64 ((rd_T54 l0 x7_1).f3), .slice A101_4 ((rd_T54 l0 x7_1).f4).length c101_4, .bool ((rd_T54 l0 x7_1).f5), .string ((rd_T54 l0 x7_1).f6)] 54 (0, 0))) := ⟨Q13⟩)
        (have n1_ : Aside0 (Below w.heap.size w (((((((w15.setCell ⟨gb102, 0, none⟩ (.string ((rd_T54 l0 x7_1).f0))).setCell ⟨gb102, 1, none⟩ (.int .i64 ((rd_T54 l0 x7_1).f1))).setCell ⟨gb102, 2, none⟩ (.int .i64 ((rd_T54 l0 x7_1).f2))).setCell ⟨gb102, 3, none⟩ (.int .i64 ((rd_T54 l0 x7_1).f3))).setCell ⟨gb102, 4, none⟩ (.slice A101_4 ((rd_T54 l0 x7_1).f4).length c101_4)).setCell ⟨gb102, 5, none⟩ (.bool ((rd_T54 l0 x7_1).f5))).setCell ⟨gb102, 6, none⟩ (.string ((rd_T54 l0 x7_1).f6)))) := ⟨Q14⟩); ((try clear BK102)); ((try clear HB)); (generalize (((((((w15.setCell ⟨gb102, 0, none⟩ (.string ((rd_T54 l0 x7_1).f0))).setCell ⟨gb102, 1, none⟩ (.int .i64 ((rd_T54 l0 x7_1).f1))).setCell ⟨gb102, 2, none⟩ (.int .i64 ((rd_T54 l0 x7_1).f2))).setCell ⟨gb102, 3, none⟩ (.int .i64 ((rd_T54 l0 x7_1).f3))).setCell ⟨gb102, 4, none⟩ (.slice A101_4 ((rd_T54 l0 x7_1).f4).length c101_4)).setCell ⟨gb102, 5, none⟩ (.bool ((rd_T54 l0 x7_1).f5))).setCell ⟨gb102, 6, none⟩ (.string ((rd_T54 l0 x7_1).f6))) = w17 at n0_ n1_ ⊢); (have BK102 := n0_); (have HB := n1_); clear n0_ n1_; (have n0_ := Aside0.mk (blk_drew BK102.out)); (have n1_ := Aside0.mk (below_drew1 HB.out)); clear BK102 HB; (have BK102 := n0_); (have HB := n1_); clear n0_ n1_; (have q19 : (x7_1 : Int) ≤ ((l0.length : Int) : Int) := odt); (obtain ⟨i019, hi019, _, hsz19, _⟩ := info_parts info54); (have hroom19 : l0.length ≤ c0 := HC0.out); (have hC19 : Kd.C k54 _ (some ad101) l0.length l0 := HR0.out); (have hcut19 := cut_to (P := Tryd.prog) 24 54 .i64 Tryd.underlying24 hi019 (some ad101) l0.length c0 x7_1 odt q19 hroom19); (have hr19 := Kd.C_take (m := (x7_1 : Int).toNat) hC19 (by omega)); (have hy19 : y103.length = (x7_1 : Int).toNat := (by rw [Ny103.out, List.length_take]; omega)); (rw [← Ny103.out] at hr19); (rw [← hy19] at hcut19); (have HR106 := Aside0.mk hr19); (have HC106 := Aside0.mk (show y103.length ≤ c0 from by omega)); clear hr19 hC19 hroom19 hi019 hsz19; (have KY19 := Aside0.mk hy19); clear hy19; (replace q19 := eq_true q19); (refine start_ (n := 6) (S := fun w' => w'.cell? ⟨gb102, 0, none⟩ = some (.string ((rd_T54 l0 x7_1).f0)) ∧ w'.cell? ⟨gb102, 1, none⟩ = some (.int .i64 ((rd_T54 l0 x7_1).f1)) ∧ w'.cell? ⟨gb102, 2, none⟩ = some (.int .i64 ((rd_T54 l0 x7_1).f2)) ∧ w'.cell? ⟨gb102, 3, none⟩ = some (.int .i64 ((rd_T54 l0 x7_1).f3)) ∧ w'.cell? ⟨gb102, 4, none⟩ = some (.slice A101_4 ((rd_T54 l0 x7_1).f4).length c101_4) ∧ w'.cell? ⟨gb102, 5, none⟩ = some (.bool ((rd_T54 l0 x7_1).f5)) ∧ w'.cell? ⟨gb102, 6, none⟩ = some (.string ((rd_T54 l0 x7_1).f6))) (ds := []) (cn 6 0) (by kernel_rfl) rfl (by kernel_rfl) ⟨cz BK102.out 0, cz BK102.out 1, cz BK102.out 2, cz BK102.out 3, cz BK102.out 4, cz BK102.out 5, cz BK102.out 6⟩ (fun hHeld => ?_)); (generalize w17.drew = w18 at BK102 HB HR106 hHeld ⊢); (refine pure_ (i := 0) (N := some 12) (v := ?_) (a' := ?_) (cn 6 1) rfl rfl (by kernel_rfl) (fun _ _ _ h => h) (Or.inl ⟨by rfl, ?_⟩) ?_ ?_); rotate_left; (· intro w'; go_simp; with_reducible rfl); rotate_left; (· (simp only [Act.put, aS1, aS2, aS3, i64_w, i32_w]); rfl); (refine pure_ (i := 1) (N := some 13) (v := ?_) (a' := ?_) (cn 6 2) rfl rfl (by kernel_rfl) (fun _ _ _ h => h) (Or.inl ⟨by rfl, ?_⟩) ?_ ?_); rotate_left; (· intro w'; go_simp; with_reducible rfl); rotate_left; (· (simp only [Act.put, aS1, aS2, aS3, i64_w, i32_w]); rfl); (refine pure_ (i := 2) (N := some 14) (v := ?_) (a' := ?_) (cn 6 3) rfl rfl (by kernel_rfl) (fun _ _ _ h => h) (Or.inl ⟨by rfl, ?_⟩) ?_ ?_); rotate_left; (· intro w'; go_simp; with_reducible rfl); rotate_left; (· (simp only [Act.put, aS1, aS2, aS3, i64_w, i32_w]); rfl); (refine take_ (i := 3) (N := some 15) (v := ?_) (a' := ?_) (cn 6 4) rfl rfl (by kernel_rfl) (fun _ _ _ h => h) (Or.inl ⟨by rfl, ?_⟩) hHeld ?_ ?_); rotate_left; (· (rintro w' ⟨s0, s1, s2, s3, s4, s5, s6⟩); go_simp; with_reducible rfl); rotate_left; (· (simp only [Act.put, aS1, aS2, aS3, i64_w, i32_w]); rfl); (refine one_ (i := 4) (N := some 16) (cn 6 5) rfl rfl (by kernel_rfl) (by decide) (fun K hK => ?_)); (refine gG Tryd.func33 #[.slice (some ad101) y103.length c0, .agg #[.string ((rd_T54 l0 x7_1).f0), .int .i64 ((rd_T54 l0 x7_1).f1), .int .i64 ((rd_T54 l0 x7_1).f2), .int .i64 ((rd_T54 l0 x7_1).f3), .slice A101_4 ((rd_T54 l0 x7_1).f4).length c101_4, .bool ((rd_T54 l0 x7_1).f5), .string ((rd_T54 l0 x7_1).f6)]] ?_); (with_reducible refine (impl_isField.calls k1 _ _ y103 ((rd_T54 l0 x7_1).f0) ((rd_T54 l0 x7_1).f1) ((rd_T54 l0 x7_1).f2) ((rd_T54 l0 x7_1).f3) _ _ ((rd_T54 l0 x7_1).f4) ((rd_T54 l0 x7_1).f5) ((rd_T54 l0 x7_1).f6) false _ ?side1 ?side2 ?side3 ?side4 A7.out).mono ?_); ((case side1 => exact Kd.C_below HR106.out (eI HB))); ((case side2 => exact HC106.out)); ((case side3 => exact Q15)); ((case side4 => exact HC101_4.out)); (rintro e w20 ⟨rfl, hb⟩); (refine ⟨_, rfl, ?_⟩)
        (have n0_ := Aside0.mk (kbI hb BK102)); (have n1_ := Aside0.mk (sI hb HB)); clear BK102 HB; (have BK102 := n0_); (have HB := n1_); clear n0_ n1_; ((try clear hb)); ((try clear hb2)); ((try clear hk)); ((try clear hi)); (refine hK.out _ _ ⟨cz BK102.out 0, cz BK102.out 1, cz BK102.out 2, cz BK102.out 3, cz BK102.out 4, cz BK102.out 5, cz BK102.out 6⟩ (fun hHeld => ?_)); clear hK K; (refine nP (some 16) (h := ?_)); (refine pure_ (i := 5) (N := some 17) (v := ?_) (a' := ?_) (cn 6 6) rfl rfl (by kernel_rfl) (fun _ _ _ h => h) (Or.inl ⟨by rfl, ?_⟩) ?_ ?_); rotate_left; (· intro w'; go_simp; with_reducible rfl); rotate_left; (· (simp only [Act.put, aS1, aS2, aS3, i64_w, i32_w]); rfl); (refine done_ (by kernel_rfl) ?_); (try go_wp2); go_ret; (exact Q7)
      ·rw [if_neg c6] at H
       exact Q3
     ·rw [if_neg c4] at H
      exact Q3
    ·rw [if_neg c3] at H
     exact Q3
   ·rw [if_neg c2] at H
    (have c2b0 := decide_eq_false c2); clear c2; (obtain rfl := Option.some.inj H); (go_wp2); go_ret; (exact Q7)
/-! ### spec_l23Find: function 63 -/
def spec_l23Find.l0 : Nat → List (S54) → ByteArray → Int → Option (Int)
 | 0, _, _, _ => none
 | k + 1, x0, x1, x5 => if x5 < (x0.length : Int) then (if 0 ≤ x5 then (if ((rd_T54 x0 x5).f0).toList = x1.toList then (some x5) else (spec_l23Find.l0 k x0 x1 (wrap64 (x5 + 1)))) else (none)) else (some (-1))
def spec_l23Find.f (k : Nat) (l0 : List (S54)) (a1 : ByteArray) : Option (Int) := spec_l23Find.l0 k l0 a1 0
set_option maxHeartbeats 8000000 in
set_option maxRecDepth 100000 in
theorem spec_l23Find.calls (k : Nat) (A0 : Option Addr) (c0 : Nat) (l0 : List (S54)) (a1 : ByteArray) (r : Int) (w : World) (hr0 : Kd.C k54 w A0 l0.length l0) (hc0 : l0.length ≤ c0) (h : spec_l23Find.f k l0 a1 = some r) :
  Calls Tryd.prog 63 #[.slice A0 l0.length c0, .string a1] w fun e w' => e = .returned (.int .i64 r) ∧ Drawn0 w w' := by
 (have HR0 := Aside0.mk hr0); (have HC0 := Aside0.mk hc0); clear hr0 hc0; (unfold spec_l23Find.f at h); (have H := h); clear h; (have H' := Aside0.mk H); clear H; (go_enter Tryd.func63, Tryd.ntmps63); (go_wp2); (go_loopg [5] k (fun kq v5 w' => ∃ (x5_1 : Int), v5 = .int .i64 x5_1 ∧ Aside0 (spec_l23Find.l0 kq l0 a1 x5_1 = some r) ∧ Aside0 (kq ≤ k) ∧ Drawn0 w w'))
 case atStart => exact Q0
 case round =>
  (clear H'); (try clear p2); (obtain ⟨x5_1, rfl, HA, HK1, ⟨m1, rfl⟩⟩ := hrel)
  cases gk with
  | zero => exact absurd HA.out (by simp [spec_l23Find.l0])
  | succ k1 =>
   (have H := HA.out); clear HA; (simp only [spec_l23Find.l0] at H); (by_cases c3 : x5_1 < (l0.length : Int))
   ·rw [if_pos c3] at H
    (have c3b0 := decide_eq_true c3); clear c3; (by_cases c4 : 0 ≤ x5_1)
    ·rw [if_pos c4] at H
     (have c4b0 := decide_eq_true c4); clear c4; (by_cases c5 : ((rd_T54 l0 x5_1).f0).toList = a1.toList)
     ·rw [if_pos c5] at H
      (have c5b0 : (((rd_T54 l0 x5_1).f0).toList == a1.toList) = true := beq_iff_eq.mpr c5); (have c5b1 : (((rd_T54 l0 x5_1).f0).toList != a1.toList) = false := bne_eq_false_iff_eq.mpr c5); clear c5; (obtain rfl := Option.some.inj H); (have p101 : 0 ≤ (x5_1 : Int) := odt); (have q101 : x5_1 < (l0.length : Int) := odt); (obtain ⟨ad101, A101_4, c101_4, e101, hx101_0, hx101_1, hx101_2, hx101_3, hx101_4, hx101_5, hx101_6, hl101_4, hi101_4⟩ := at_T54 HR0.out x5_1 p101 q101); (cases e101); (have HR101_4 := Aside0.mk hi101_4); (have HC101_4 := Aside0.mk hl101_4); clear hi101_4 hl101_4; (replace p101 := eq_true p101); (replace q101 := eq_true q101); (go_wp2); go_ret; (exact Q1)
     ·rw [if_neg c5] at H
      (have c5b0 : (((rd_T54 l0 x5_1).f0).toList == a1.toList) = false := beq_eq_false_iff_ne.mpr c5); (have c5b1 : (((rd_T54 l0 x5_1).f0).toList != a1.toList) = true := bne_iff_ne.mpr c5); (have H' := Aside0.mk H); clear H; (have p101 : 0 ≤ (x5_1 : Int) := odt); (have q101 : x5_1 < (l0.length : Int) := odt); (obtain ⟨ad101, A101_4, c101_4, e101, hx101_0, hx101_1, hx101_2, hx101_3, hx101_4, hx101_5, hx101_6, hl101_4, hi101_4⟩ := at_T54 HR0.out x5_1 p101 q101); (cases e101); (have HR101_4 := Aside0.mk hi101_4); (have HC101_4 := Aside0.mk hl101_4); clear hi101_4 hl101_4; (replace p101 := eq_true p101); (replace q101 := eq_true q101); (go_wp2); go_roundg k1
      case measure => have := HK1.out; omega
      case rel => exact Q17
    ·rw [if_neg c4] at H
     exact Q3
   ·rw [if_neg c3] at H
    (have c3b0 := decide_eq_false c3); clear c3; (obtain rfl := Option.some.inj H); (go_wp2); go_ret; (exact Q1)
/-! ### spec_l1In: function 82 -/
def spec_l1In.f (a0 : Int) (a1 : Int) (a2 : Int) : Option (Bool) := if a0 ≥ a1 then (some (decide (a0 ≤ a2))) else (some false)
set_option maxHeartbeats 8000000 in
set_option maxRecDepth 100000 in
theorem spec_l1In.calls (a0 : Int) (a1 : Int) (a2 : Int) (r : Bool) (w : World) (h : spec_l1In.f a0 a1 a2 = some r) :
  Calls Tryd.prog 82 #[.int .i64 a0, .int .i64 a1, .int .i64 a2] w fun e w' => e = .returned (.bool r) ∧ Drawn0 w w' := by
 (unfold spec_l1In.f at h); (have H := h); clear h; (by_cases c4 : a0 ≥ a1); (· (rw [if_pos c4] at H); (have c4b0 : decide (a1 ≤ a0) = true := decide_eq_true c4); clear c4; (obtain rfl := Option.some.inj H); (go_enter Tryd.func82, Tryd.ntmps82); (go_wp2); go_ret; (exact Q1)); (· (rw [if_neg c4] at H); (have c4b0 : decide (a1 ≤ a0) = false := decide_eq_false c4); clear c4; (obtain rfl := Option.some.inj H); (go_enter Tryd.func82, Tryd.ntmps82); (go_wp2); go_ret; (exact Q1))
/-! ### spec_l7Name: function 81 -/
mutual
def spec_l7Name.j0 : Nat → ByteArray → Bool → Option (Bool)
 | 0, _, _ => none
 | k + 1, x0, x17 => if x17 = true then (some false) else (spec_l7Name.l0 k x0 0)
def spec_l7Name.l0 : Nat → ByteArray → Int → Option (Bool)
 | 0, _, _ => none
 | k + 1, x0, x3 => if x3 < (x0.size : Int) then (if 0 ≤ x3 then (if (bt x0 x3) < 97 then (if (bt x0 x3) < 48 then (some false) else (if (bt x0 x3) > 57 then (some false) else (spec_l7Name.l0 k x0 (wrap64 (x3 + 1))))) else (if (bt x0 x3) > 122 then (if (bt x0 x3) < 48 then (some false) else (if (bt x0 x3) > 57 then (some false) else (spec_l7Name.l0 k x0 (wrap64 (x3 + 1))))) else (spec_l7Name.l0 k x0 (wrap64 (x3 + 1))))) else (none)) else (some true)
end
def spec_l7Name.f (k : Nat) (a0 : ByteArray) : Option (Bool) := (spec_l1In.f (a0.size : Int) 1 8).bind fun t101 => (if t101 = true then (if 0 < (a0.size : Int) then (if (bt a0 0) < 97 then (spec_l7Name.j0 k a0 true) else (spec_l7Name.j0 k a0 (decide ((bt a0 0) > 122)))) else (none)) else (spec_l7Name.j0 k a0 true))
set_option maxHeartbeats 8000000 in
set_option maxRecDepth 100000 in
theorem spec_l7Name.calls (k : Nat) (a0 : ByteArray) (r : Bool) (w : World) (h : spec_l7Name.f k a0 = some r) :
  Calls Tryd.prog 81 #[.string a0] w fun e w' => e = .returned (.bool r) ∧ Drawn0 w w' := by
 (unfold spec_l7Name.f at h); (have H := h); clear h; (have HC2 := Aside0.mk H); clear H; (go_enter Tryd.func81, Tryd.ntmps81); (go_upto_region 1 with (fail)); (go_cut [17] (fun v17 wc => ∃ (kq : Nat) (x17_1 : Bool), v17 = .bool x17_1 ∧ Aside0 (spec_l7Name.j0 kq a0 x17_1 = some r) ∧ Aside0 (kq ≤ k) ∧ Drawn0 w wc))
 case first =>
  (have H := HC2.out); clear HC2; (replace H := obS H); (obtain ⟨t101, A3, H⟩ := H); (by_cases c4 : t101 = true)
  ·subst c4
   (rw [if_pos rfl] at H); (by_cases c5 : 0 < (a0.size : Int))
   ·rw [if_pos c5] at H
    (have c5b0 := decide_eq_true c5); (have c5b1 : decide (0 < a0.size) = true := decide_eq_true (by omega)); clear c5; ((first | rw [c5b0] | (simp only [i64_w, i32_w]; rw [c5b0]) | skip)); (by_cases c7 : (bt a0 0) < 97)
    ·rw [if_pos c7] at H
     (have c7b0 := decide_eq_true c7); clear c7; (have H' := Aside0.mk H); clear H; (go_wp2_with (first | ((with_reducible refine gate_callee (f := 82) rfl ?_); refine gL (some 6) Tryd.func82 #[.int .i64 (a0.size : Int), .int .i64 1, .int .i64 8] ?_; (with_reducible refine (spec_l1In.calls (a0.size : Int) 1 8 true _ A3.out).mono ?_); rintro e w' ⟨rfl, ⟨nd, rfl⟩⟩; refine ⟨_, rfl, ?_⟩; have p6 : 0 ≤ (0 : Int) := (by omega); have q6 : 0 < a0.size := Q18; have hx6 : ∀ h : 0 < a0.size, ((a0[0]'h).toNat : Int) = bt a0 0 := bt_at a0 0; clear p6; have qi6 : (0 < (a0.size : Int)) = True := eq_true odt; replace q6 := eq_true q6))); (go_meet)
     case rel => exact Q19
    ·rw [if_neg c7] at H
     (have c7b0 := decide_eq_false c7); clear c7; (have H' := Aside0.mk H); clear H; (go_wp2_with (first | ((with_reducible refine gate_callee (f := 82) rfl ?_); refine gL (some 6) Tryd.func82 #[.int .i64 (a0.size : Int), .int .i64 1, .int .i64 8] ?_; (with_reducible refine (spec_l1In.calls (a0.size : Int) 1 8 true _ A3.out).mono ?_); rintro e w' ⟨rfl, ⟨nd, rfl⟩⟩; refine ⟨_, rfl, ?_⟩; have p6 : 0 ≤ (0 : Int) := (by omega); have q6 : 0 < a0.size := Q18; have hx6 : ∀ h : 0 < a0.size, ((a0[0]'h).toNat : Int) = bt a0 0 := bt_at a0 0; clear p6; have qi6 : (0 < (a0.size : Int)) = True := eq_true odt; replace q6 := eq_true q6; have p8 : 0 ≤ (0 : Int) := (by omega); have q8 : 0 < a0.size := Q18; have hx8 : ∀ h : 0 < a0.size, ((a0[0]'h).toNat : Int) = bt a0 0 := bt_at a0 0; clear p8; have qi8 : (0 < (a0.size : Int)) = True := eq_true odt; replace q8 := eq_true q8))); (go_meet)
     case rel => exact ⟨_, (decide ((bt a0 0) > 122)), Q5, H', ⟨Q6⟩, Q20⟩
   ·rw [if_neg c5] at H
    exact Q3
  ·replace c4 := Bool.eq_false_iff.mpr c4
   subst c4; (rw [if_neg (show ¬ (false = true) by decide)] at H); (have H' := Aside0.mk H); clear H; (go_wp2_with (first | ((with_reducible refine gate_callee (f := 82) rfl ?_); refine gL (some 6) Tryd.func82 #[.int .i64 (a0.size : Int), .int .i64 1, .int .i64 8] ?_; (with_reducible refine (spec_l1In.calls (a0.size : Int) 1 8 false _ A3.out).mono ?_); rintro e w' ⟨rfl, ⟨nd, rfl⟩⟩; refine ⟨_, rfl, ?_⟩))); (go_meet)
   case rel => exact Q19
 case rest =>
  clear HC2; (try clear p2); (try clear c4); (try clear c5); (try clear c5b0); (try clear c5b1); (try clear p6); (try clear q6); (try clear hx6); (try clear qi6); (try clear c7); (try clear c7b0); (try clear c8); (try clear p8); (try clear q8); (try clear hx8); (try clear qi8); (try clear p6); (try clear p8); (try clear q6); (try clear q8); (obtain ⟨kq, x17_1, rfl, HA, HJ1, ⟨mc1, rfl⟩⟩ := hcut)
  cases kq with
  | zero => exact absurd HA.out (by simp [spec_l7Name.j0])
  | succ kj1 =>
   (have H := HA.out); clear HA; (simp only [spec_l7Name.j0] at H); (by_cases c9 : x17_1 = true); (· subst c9; (rw [if_pos rfl] at H); (obtain rfl := Option.some.inj H); (go_wp2); go_ret; (exact Q1))
   ·replace c9 := Bool.eq_false_iff.mpr c9
    subst c9; (rw [if_neg (show ¬ (false = true) by decide)] at H); (have H' := Aside0.mk H); clear H; (go_wp2); (go_loopg [3] kj1 (fun kq v3 w' => ∃ (x3_2 : Int), v3 = .int .i64 x3_2 ∧ Aside0 (spec_l7Name.l0 kq a0 x3_2 = some r) ∧ Aside0 (kq ≤ kj1) ∧ Drawn0 w w'))
    case atStart => exact Q0
    case round =>
     (clear H'); (try clear c1); (try clear p2); (try clear c4); (try clear c5); (try clear c5b0); (try clear c5b1); (try clear p6); (try clear q6); (try clear hx6); (try clear qi6); (try clear c7); (try clear c7b0); (try clear c8); (try clear p8); (try clear q8); (try clear hx8); (try clear qi8); (try clear c9); (try clear p2); (try clear p6); (try clear p8); (try clear q6); (try clear q8); (obtain ⟨x3_2, rfl, HA, HK2, ⟨m2, rfl⟩⟩ := hrel)
     cases gk with
     | zero => exact absurd HA.out (by simp [spec_l7Name.l0])
     | succ k2 =>
      (have H := HA.out); clear HA; (simp only [spec_l7Name.l0] at H); (by_cases c10 : x3_2 < (a0.size : Int))
      ·rw [if_pos c10] at H
       (have c10b0 := decide_eq_true c10); clear c10; (by_cases c11 : 0 ≤ x3_2)
       ·rw [if_pos c11] at H
        (have c11b0 := decide_eq_true c11); clear c11; (by_cases c13 : (bt a0 x3_2) < 97)
        ·rw [if_pos c13] at H
         (have c13b0 := decide_eq_true c13); clear c13; (by_cases c15 : (bt a0 x3_2) < 48)
         ·rw [if_pos c15] at H
          (have c15b0 := decide_eq_true c15); clear c15; (obtain rfl := Option.some.inj H); (have p12 : 0 ≤ (x3_2 : Int) := odt); (have q12 : x3_2 < (a0.size : Int) := odt); (have hx12 := bt_at a0 x3_2); (replace p12 := eq_true p12); (replace q12 := eq_true q12); (have p14 : 0 ≤ (x3_2 : Int) := odt); (have q14 : x3_2 < (a0.size : Int) := odt); (have hx14 := bt_at a0 x3_2); (replace p14 := eq_true p14); (replace q14 := eq_true q14); (go_wp2); go_ret; (exact Q1)
         ·rw [if_neg c15] at H
          (have c15b0 := decide_eq_false c15); clear c15; (by_cases c17 : (bt a0 x3_2) > 57)
          ·rw [if_pos c17] at H
           (have c17b0 : decide (57 < (bt a0 x3_2)) = true := decide_eq_true c17); clear c17; (obtain rfl := Option.some.inj H); (have p12 : 0 ≤ (x3_2 : Int) := odt); (have q12 : x3_2 < (a0.size : Int) := odt); (have hx12 := bt_at a0 x3_2); (replace p12 := eq_true p12); (replace q12 := eq_true q12); (have p14 : 0 ≤ (x3_2 : Int) := odt); (have q14 : x3_2 < (a0.size : Int) := odt); (have hx14 := bt_at a0 x3_2); (replace p14 := eq_true p14); (replace q14 := eq_true q14); (have p16 : 0 ≤ (x3_2 : Int) := odt); (have q16 : x3_2 < (a0.size : Int) := odt); (have hx16 := bt_at a0 x3_2); (replace p16 := eq_true p16); (replace q16 := eq_true q16); (go_wp2); go_ret; (exact Q1)
          ·rw [if_neg c17] at H
           (have c17b0 : decide (57 < (bt a0 x3_2)) = false := decide_eq_false c17); clear c17; (have H' := Aside0.mk H); clear H; (have p12 : 0 ≤ (x3_2 : Int) := odt); (have q12 : x3_2 < (a0.size : Int) := odt); (have hx12 := bt_at a0 x3_2); (replace p12 := eq_true p12); (replace q12 := eq_true q12); (have p14 : 0 ≤ (x3_2 : Int) := odt); (have q14 : x3_2 < (a0.size : Int) := odt); (have hx14 := bt_at a0 x3_2); (replace p14 := eq_true p14); (replace q14 := eq_true q14); (have p16 : 0 ≤ (x3_2 : Int) := odt); (have q16 : x3_2 < (a0.size : Int) := odt); (have hx16 := bt_at a0 x3_2); (replace p16 := eq_true p16); (replace q16 := eq_true q16); (go_wp2); go_roundg k2
           case measure => have := HJ1.out; have := HK2.out; omega
           case rel => exact Q21
        ·rw [if_neg c13] at H
         (have c13b0 := decide_eq_false c13); clear c13; (by_cases c19 : (bt a0 x3_2) > 122)
         ·rw [if_pos c19] at H
          (have c19b0 : decide (122 < (bt a0 x3_2)) = true := decide_eq_true c19); clear c19; (by_cases c21 : (bt a0 x3_2) < 48)
          ·rw [if_pos c21] at H
           (have c21b0 := decide_eq_true c21); clear c21; (obtain rfl := Option.some.inj H); (have p12 : 0 ≤ (x3_2 : Int) := odt); (have q12 : x3_2 < (a0.size : Int) := odt); (have hx12 := bt_at a0 x3_2); (replace p12 := eq_true p12); (replace q12 := eq_true q12); (have p18 : 0 ≤ (x3_2 : Int) := odt); (have q18 : x3_2 < (a0.size : Int) := odt); (have hx18 := bt_at a0 x3_2); (replace p18 := eq_true p18); (replace q18 := eq_true q18); (have p20 : 0 ≤ (x3_2 : Int) := odt); (have q20 : x3_2 < (a0.size : Int) := odt); (have hx20 := bt_at a0 x3_2); (replace p20 := eq_true p20); (replace q20 := eq_true q20); (go_wp2); go_ret; (exact Q1)
          ·rw [if_neg c21] at H
           (have c21b0 := decide_eq_false c21); clear c21; (by_cases c23 : (bt a0 x3_2) > 57)
           ·rw [if_pos c23] at H
            (have c23b0 : decide (57 < (bt a0 x3_2)) = true := decide_eq_true c23); clear c23; (obtain rfl := Option.some.inj H); (have p12 : 0 ≤ (x3_2 : Int) := odt); (have q12 : x3_2 < (a0.size : Int) := odt); (have hx12 := bt_at a0 x3_2); (replace p12 := eq_true p12); (replace q12 := eq_true q12); (have p18 : 0 ≤ (x3_2 : Int) := odt); (have q18 : x3_2 < (a0.size : Int) := odt); (have hx18 := bt_at a0 x3_2); (replace p18 := eq_true p18); (replace q18 := eq_true q18); (have p20 : 0 ≤ (x3_2 : Int) := odt); (have q20 : x3_2 < (a0.size : Int) := odt); (have hx20 := bt_at a0 x3_2); (replace p20 := eq_true p20); (replace q20 := eq_true q20); (have p22 : 0 ≤ (x3_2 : Int) := odt); (have q22 : x3_2 < (a0.size : Int) := odt); (have hx22 := bt_at a0 x3_2); (replace p22 := eq_true p22); (replace q22 := eq_true q22); (go_wp2); go_ret; (exact Q1)
           ·rw [if_neg c23] at H
            (have c23b0 : decide (57 < (bt a0 x3_2)) = false := decide_eq_false c23); clear c23; (have H' := Aside0.mk H); clear H; (have p12 : 0 ≤ (x3_2 : Int) := odt); (have q12 : x3_2 < (a0.size : Int) := odt); (have hx12 := bt_at a0 x3_2); (replace p12 := eq_true p12); (replace q12 := eq_true q12); (have p18 : 0 ≤ (x3_2 : Int) := odt); (have q18 : x3_2 < (a0.size : Int) := odt); (have hx18 := bt_at a0 x3_2); (replace p18 := eq_true p18); (replace q18 := eq_true q18); (have p20 : 0 ≤ (x3_2 : Int) := odt); (have q20 : x3_2 < (a0.size : Int) := odt); (have hx20 := bt_at a0 x3_2); (replace p20 := eq_true p20); (replace q20 := eq_true q20); (have p22 : 0 ≤ (x3_2 : Int) := odt); (have q22 : x3_2 < (a0.size : Int) := odt); (have hx22 := bt_at a0 x3_2); (replace p22 := eq_true p22); (replace q22 := eq_true q22); (go_wp2); go_roundg k2
            case measure => have := HJ1.out; have := HK2.out; omega
            case rel => exact Q21
         ·rw [if_neg c19] at H
          (have c19b0 : decide (122 < (bt a0 x3_2)) = false := decide_eq_false c19); clear c19; (have H' := Aside0.mk H); clear H; (have p12 : 0 ≤ (x3_2 : Int) := odt); (have q12 : x3_2 < (a0.size : Int) := odt); (have hx12 := bt_at a0 x3_2); (replace p12 := eq_true p12); (replace q12 := eq_true q12); (have p18 : 0 ≤ (x3_2 : Int) := odt); (have q18 : x3_2 < (a0.size : Int) := odt); (have hx18 := bt_at a0 x3_2); (replace p18 := eq_true p18); (replace q18 := eq_true q18); (go_wp2); go_roundg k2
          case measure => have := HJ1.out; have := HK2.out; omega
          case rel => exact Q21
       ·rw [if_neg c11] at H
        exact Q3
      ·rw [if_neg c10] at H
       (have c10b0 := decide_eq_false c10); clear c10; (obtain rfl := Option.some.inj H); (go_wp2); go_ret; (exact Q1)
/-! ### spec_l23Names: function 83 -/
mutual
def spec_l23Names.l0 : Nat → List ByteArray → Int → Option (Bool)
 | 0, _, _ => none
 | k + 1, x0, x3 => if x3 < (x0.length : Int) then (if 0 ≤ x3 then ((spec_l7Name.f k (rdOf ByteArray.empty x0 x3)).bind fun t102 => (if t102 = true then (spec_l23Names.l1 k x0 x3 0) else (some false))) else (none)) else (some true)
def spec_l23Names.l1 : Nat → List ByteArray → Int → Int → Option (Bool)
 | 0, _, _, _ => none
 | k + 1, x0, x3, x4 => if x4 < x3 then (if 0 ≤ x4 then (if x4 < (x0.length : Int) then (if 0 ≤ x3 then (if x3 < (x0.length : Int) then (if (rdOf ByteArray.empty x0 x4).toList = (rdOf ByteArray.empty x0 x3).toList then (some false) else (spec_l23Names.l1 k x0 x3 (wrap64 (x4 + 1)))) else (none)) else (none)) else (none)) else (none)) else (spec_l23Names.l0 k x0 (wrap64 (x3 + 1)))
end
def spec_l23Names.f (k : Nat) (l0 : List ByteArray) : Option (Bool) := spec_l23Names.l0 k l0 0
set_option maxHeartbeats 8000000 in
set_option maxRecDepth 100000 in
theorem spec_l23Names.calls (k : Nat) (A0 : Option Addr) (c0 : Nat) (l0 : List ByteArray) (r : Bool) (w : World) (hr0 : Kd.C Kd.string w A0 l0.length l0) (hc0 : l0.length ≤ c0) (h : spec_l23Names.f k l0 = some r) :
  Calls Tryd.prog 83 #[.slice A0 l0.length c0] w fun e w' => e = .returned (.bool r) ∧ Drawn0 w w' := by
 (have HR0 := Aside0.mk hr0); (have HC0 := Aside0.mk hc0); clear hr0 hc0; (unfold spec_l23Names.f at h); (have H := h); clear h; (have H' := Aside0.mk H); clear H; (go_enter Tryd.func83, Tryd.ntmps83); (go_wp2); (repeat (go_quiet (fail); try go_wp2)); (go_loopg [3] k (fun kq v3 w' => ∃ (x3_1 : Int), v3 = .int .i64 x3_1 ∧ Aside0 (spec_l23Names.l0 kq l0 x3_1 = some r) ∧ Aside0 (kq ≤ k) ∧ Drawn0 w w'))
 case atStart => exact Q0
 case round =>
  (clear H'); (obtain ⟨x3_1, rfl, HA, HK1, ⟨m1, rfl⟩⟩ := hrel)
  cases gk with
  | zero => exact absurd HA.out (by simp [spec_l23Names.l0])
  | succ k1 =>
   (have H := HA.out); clear HA; (simp only [spec_l23Names.l0] at H); (by_cases c2 : x3_1 < (l0.length : Int))
   ·rw [if_pos c2] at H
    (have c2b0 := decide_eq_true c2); clear c2; (by_cases c3 : 0 ≤ x3_1)
    ·rw [if_pos c3] at H
     (have c3b0 := decide_eq_true c3); clear c3; (replace H := obS H); (obtain ⟨t102, A4, H⟩ := H); (by_cases c5 : t102 = true)
     ·subst c5
      (rw [if_pos rfl] at H); (have H' := Aside0.mk H); clear H; (have p101 : 0 ≤ (x3_1 : Int) := odt); (have q101 : x3_1 < (l0.length : Int) := odt); (obtain ⟨ad101, e101, hx101_0⟩ := Kd.at_string HR0.out x3_1 p101 q101); (cases e101); (replace p101 := eq_true p101); (replace q101 := eq_true q101); (go_wp2_with (first | (go_at_call 81; (with_reducible refine (spec_l7Name.calls k1 (rdOf ByteArray.empty l0 x3_1) true _ A4.out).mono ?_); rintro e w' ⟨rfl, ⟨nd, rfl⟩⟩; (try first | exact Q22 | exact Q23)))); (repeat (go_quiet (first | (go_at_call 81; (with_reducible refine (spec_l7Name.calls k1 (rdOf ByteArray.empty l0 x3_1) true _ A4.out).mono ?_); rintro e w' ⟨rfl, ⟨nd, rfl⟩⟩; (try first | exact Q22 | exact Q23))); try go_wp2_with (first | (go_at_call 81; (with_reducible refine (spec_l7Name.calls k1 (rdOf ByteArray.empty l0 x3_1) true _ A4.out).mono ?_); rintro e w' ⟨rfl, ⟨nd, rfl⟩⟩; (try first | exact Q22 | exact Q23))))); (go_loopg [4] k1 (fun kq v4 w' => ∃ (x4_2 : Int), v4 = .int .i64 x4_2 ∧ Aside0 (spec_l23Names.l1 kq l0 x3_1 x4_2 = some r) ∧ Aside0 (kq ≤ k1) ∧ Drawn0 w w'))
      case atStart => exact Q0
      case round =>
       (clear H'); (try clear p1); (try clear q1); (try clear hx1); (try clear c2); (try clear c2b0); (try clear p2); (try clear c3); (try clear c3b0); (try clear c5); (try clear hx101_0); (try clear p101); (try clear q101); (obtain ⟨x4_2, rfl, HA, HK2, ⟨m2, rfl⟩⟩ := hrel)
       cases gk with
       | zero => exact absurd HA.out (by simp [spec_l23Names.l1])
       | succ k2 =>
        (have H := HA.out); clear HA; (simp only [spec_l23Names.l1] at H); (by_cases c6 : x4_2 < x3_1)
        ·rw [if_pos c6] at H
         (have c6b0 := decide_eq_true c6); clear c6; (by_cases c7 : 0 ≤ x4_2)
         ·rw [if_pos c7] at H
          (have c7b0 := decide_eq_true c7); clear c7; (by_cases c8 : x4_2 < (l0.length : Int))
          ·rw [if_pos c8] at H
           (have c8b0 := decide_eq_true c8); clear c8; (by_cases c9 : 0 ≤ x3_1)
           ·rw [if_pos c9] at H
            (have c9b0 := decide_eq_true c9); clear c9; (by_cases c10 : x3_1 < (l0.length : Int))
            ·rw [if_pos c10] at H
             (have c10b0 := decide_eq_true c10); clear c10; (by_cases c11 : (rdOf ByteArray.empty l0 x4_2).toList = (rdOf ByteArray.empty l0 x3_1).toList)
             ·rw [if_pos c11] at H
              (have c11b0 : ((rdOf ByteArray.empty l0 x4_2).toList == (rdOf ByteArray.empty l0 x3_1).toList) = true := beq_iff_eq.mpr c11); (have c11b1 : ((rdOf ByteArray.empty l0 x4_2).toList != (rdOf ByteArray.empty l0 x3_1).toList) = false := bne_eq_false_iff_eq.mpr c11); clear c11; (obtain rfl := Option.some.inj H); (have p103 : 0 ≤ (x4_2 : Int) := odt); (have q103 : x4_2 < (l0.length : Int) := odt); (obtain ⟨ad103, e103, hx103_0⟩ := Kd.at_string HR0.out x4_2 p103 q103); (obtain rfl : ad101 = ad103 := (by injection e103)); (replace p103 := eq_true p103); (replace q103 := eq_true q103); (have p104 : 0 ≤ (x3_1 : Int) := odt); (have q104 : x3_1 < (l0.length : Int) := odt); (obtain ⟨ad104, e104, hx104_0⟩ := Kd.at_string HR0.out x3_1 p104 q104); (obtain rfl : ad101 = ad104 := (by injection e104)); (replace p104 := eq_true p104); (replace q104 := eq_true q104); (go_wp2); (repeat (go_quiet (fail); try go_wp2)); go_ret; (exact Q1)
             ·rw [if_neg c11] at H
              (have c11b0 : ((rdOf ByteArray.empty l0 x4_2).toList == (rdOf ByteArray.empty l0 x3_1).toList) = false := beq_eq_false_iff_ne.mpr c11); (have c11b1 : ((rdOf ByteArray.empty l0 x4_2).toList != (rdOf ByteArray.empty l0 x3_1).toList) = true := bne_iff_ne.mpr c11); (have H' := Aside0.mk H); clear H; (have p103 : 0 ≤ (x4_2 : Int) := odt); (have q103 : x4_2 < (l0.length : Int) := odt); (obtain ⟨ad103, e103, hx103_0⟩ := Kd.at_string HR0.out x4_2 p103 q103); (obtain rfl : ad101 = ad103 := (by injection e103)); (replace p103 := eq_true p103); (replace q103 := eq_true q103); (have p104 : 0 ≤ (x3_1 : Int) := odt); (have q104 : x3_1 < (l0.length : Int) := odt); (obtain ⟨ad104, e104, hx104_0⟩ := Kd.at_string HR0.out x3_1 p104 q104); (obtain rfl : ad101 = ad104 := (by injection e104)); (replace p104 := eq_true p104); (replace q104 := eq_true q104); (go_wp2); (repeat (go_quiet (fail); try go_wp2)); go_roundg k2
              case measure => have := HK1.out; have := HK2.out; omega
              case rel => exact ⟨(wrap64 (x4_2 + 1)), Q5, H', ⟨Q24⟩, Q20⟩
            ·rw [if_neg c10] at H
             exact Q3
           ·rw [if_neg c9] at H
            exact Q3
          ·rw [if_neg c8] at H
           exact Q3
         ·rw [if_neg c7] at H
          exact Q3
        ·rw [if_neg c6] at H
         (have c6b0 := decide_eq_false c6); clear c6; (have H' := Aside0.mk H); clear H; (go_wp2); (repeat (go_quiet (fail); try go_wp2)); go_roundg k2
         case measure => have := HK1.out; have := HK2.out; omega
         case rel => exact ⟨(wrap64 (x3_1 + 1)), Q5, H', ⟨Q24⟩, Q20⟩
     ·replace c5 := Bool.eq_false_iff.mpr c5
      subst c5; (rw [if_neg (show ¬ (false = true) by decide)] at H); (obtain rfl := Option.some.inj H); (have p101 : 0 ≤ (x3_1 : Int) := odt); (have q101 : x3_1 < (l0.length : Int) := odt); (obtain ⟨ad101, e101, hx101_0⟩ := Kd.at_string HR0.out x3_1 p101 q101); (cases e101); (replace p101 := eq_true p101); (replace q101 := eq_true q101); (go_wp2_with (first | (go_at_call 81; (with_reducible refine (spec_l7Name.calls k1 (rdOf ByteArray.empty l0 x3_1) false _ A4.out).mono ?_); rintro e w' ⟨rfl, ⟨nd, rfl⟩⟩; (try first | exact Q22 | exact Q23)))); (repeat (go_quiet (first | (go_at_call 81; (with_reducible refine (spec_l7Name.calls k1 (rdOf ByteArray.empty l0 x3_1) false _ A4.out).mono ?_); rintro e w' ⟨rfl, ⟨nd, rfl⟩⟩; (try first | exact Q22 | exact Q23))); try go_wp2_with (first | (go_at_call 81; (with_reducible refine (spec_l7Name.calls k1 (rdOf ByteArray.empty l0 x3_1) false _ A4.out).mono ?_); rintro e w' ⟨rfl, ⟨nd, rfl⟩⟩; (try first | exact Q22 | exact Q23))))); go_ret; (exact Q1)
    ·rw [if_neg c3] at H
     exact Q3
   ·rw [if_neg c2] at H
    (have c2b0 := decide_eq_false c2); clear c2; (obtain rfl := Option.some.inj H); (go_wp2); (repeat (go_quiet (fail); try go_wp2)); go_ret; (exact Q1)
/-! ### spec_l23Field: function 56 -/
mutual
def spec_l23Field.j0 : Nat → List (S54) → Int → Bool → ByteArray → Int → Int → Int → List ByteArray → Bool → ByteArray → Option (Bool)
 | 0, _, _, _, _, _, _, _, _, _, _ => none
 | k + 1, x0, x1, x28, x103000, x103001, x103002, x103003, x103004, x103005, x103006 => if x28 = true then (some false) else (if x103006.toList = ([] : List UInt8) then (spec_l23Field.j1 k x103000 x103001 x103002 x103003 x103004 x103005 x103006) else ((spec_l23Find.f k x0 x103006).bind fun t106 => (if t106 < 0 then (some false) else (if t106 ≥ x1 then (some false) else (if 0 ≤ t106 then (if t106 < (x0.length : Int) then (if ((rd_T54 x0 t106).f1) = 4 then (spec_l23Field.j1 k x103000 x103001 x103002 x103003 x103004 x103005 x103006) else (some false)) else (none)) else (none))))))
def spec_l23Field.j1 : Nat → ByteArray → Int → Int → Int → List ByteArray → Bool → ByteArray → Option (Bool)
 | 0, _, _, _, _, _, _, _ => none
 | k + 1, x103000, x103001, x103002, x103003, x103004, x103005, x103006 => if x103001 = 1 then ((spec_l1In.f x103002 (-999999) x103003).bind fun t108 => (if t108 = true then (if x103003 ≤ 999999 then (some ((x103004.length : Int) == 0)) else (some false)) else (some false))) else (if x103001 = 2 then ((spec_l1In.f x103002 0 x103003).bind fun t109 => (if t109 = true then (if x103003 ≤ 40 then (some ((x103004.length : Int) == 0)) else (some false)) else (some false))) else (if x103001 = 3 then (if x103002 = 0 then (if x103003 = 0 then ((spec_l1In.f (x103004.length : Int) 1 6).bind fun t110 => (if t110 = true then ((spec_l23Names.f k x103004).bind fun t111 => (some t111)) else (some false))) else (some false)) else (some false)) else (if x103002 = 0 then (if x103003 = 0 then (some ((x103004.length : Int) == 0)) else (some false)) else (some false))))
end
def spec_l23Field.f (k : Nat) (l0 : List (S54)) (a1 : Int) : Option (Bool) := if 0 ≤ a1 then (if a1 < (l0.length : Int) then ((spec_l7Name.f k ((rd_T54 l0 a1).f0)).bind fun t103 => (if t103 = true then ((spec_l23Find.f k l0 ((rd_T54 l0 a1).f0)).bind fun t104 => (if t104 = a1 then ((spec_l1In.f ((rd_T54 l0 a1).f1) 1 4).bind fun t105 => (spec_l23Field.j0 k l0 a1 (!t105) ((rd_T54 l0 a1).f0) ((rd_T54 l0 a1).f1) ((rd_T54 l0 a1).f2) ((rd_T54 l0 a1).f3) ((rd_T54 l0 a1).f4) ((rd_T54 l0 a1).f5) ((rd_T54 l0 a1).f6))) else (spec_l23Field.j0 k l0 a1 true ((rd_T54 l0 a1).f0) ((rd_T54 l0 a1).f1) ((rd_T54 l0 a1).f2) ((rd_T54 l0 a1).f3) ((rd_T54 l0 a1).f4) ((rd_T54 l0 a1).f5) ((rd_T54 l0 a1).f6)))) else (spec_l23Field.j0 k l0 a1 true ((rd_T54 l0 a1).f0) ((rd_T54 l0 a1).f1) ((rd_T54 l0 a1).f2) ((rd_T54 l0 a1).f3) ((rd_T54 l0 a1).f4) ((rd_T54 l0 a1).f5) ((rd_T54 l0 a1).f6)))) else (none)) else (none)
set_option maxHeartbeats 8000000 in
set_option maxRecDepth 100000 in
theorem spec_l23Field.calls (k : Nat) (A0 : Option Addr) (c0 : Nat) (l0 : List (S54)) (a1 : Int) (r : Bool) (w : World) (hr0 : Kd.C k54 w A0 l0.length l0) (hc0 : l0.length ≤ c0) (h : spec_l23Field.f k l0 a1 = some r) :
  Calls Tryd.prog 56 #[.slice A0 l0.length c0, .int .i64 a1] w fun e w' => e = .returned (.bool r) ∧ Below w.heap.size w w' := by
 (have hu54 := Tryd.underlying54); (have HR0 := Aside0.mk hr0); (have HC0 := Aside0.mk hc0); clear hr0 hc0; (have HB := Aside0.mk (Below.refl w.heap.size w)); (unfold spec_l23Field.f at h); (have H := h); clear h; (by_cases c3 : 0 ≤ a1)
 ·rw [if_pos c3] at H
  (have c3b0 := decide_eq_true c3); clear c3; (by_cases c4 : a1 < (l0.length : Int))
  ·rw [if_pos c4] at H
   (have c4b0 := decide_eq_true c4); clear c4; (have HC5 := Aside0.mk H); clear H; (have p101 : 0 ≤ (a1 : Int) := odt); (have q101 : a1 < (l0.length : Int) := odt); (obtain ⟨ad101, A101_4, c101_4, e101, hx101_0, hx101_1, hx101_2, hx101_3, hx101_4, hx101_5, hx101_6, hl101_4, hi101_4⟩ := at_T54 HR0.out a1 p101 q101); (cases e101); (have HR101_4 := Aside0.mk hi101_4); (have HC101_4 := Aside0.mk hl101_4); clear hi101_4 hl101_4; (replace p101 := eq_true p101); (replace q101 := eq_true q101); (go_enter Tryd.func56, Tryd.ntmps56); (go_upto_region 2 with (first | ((with_reducible refine gate_dst (N := 5) rfl ?_); refine box_event ?hg (N := 5) ?hd (cs := #[.string (⟨#[]⟩ : ByteArray), .int .i64 0, .int .i64 0, .int .i64 0, .slice none 0 0, .bool false, .string (⟨#[]⟩ : ByteArray)]) (t := 54) ?hr ?_; (case hd => rfl); (case hg => rfl); (case hr => first | (go_simp; done) | (go_simp; rfl)); intro gb102 hg w6 hbox hb; have hB_ := zI hb HB; have n0_ := Aside0.mk (below_step hB_ hb); have n1_ := Aside0.mk (hbox); have n2_ := Aside0.mk (bx0 hg hB_); have n3_ := n2_; clear HB; have HB := n0_; have BK102 := n1_; have GW102 := n2_; have GE102 := n3_; clear n0_ n1_ n2_ n3_ hB_ hb hbox hg; have hcz7_0 := cz BK102.out 0; have hcz7_1 := cz BK102.out 1; have hcz7_2 := cz BK102.out 2; have hcz7_3 := cz BK102.out 3; have hcz7_4 := cz BK102.out 4; have hcz7_5 := cz BK102.out 5; have hcz7_6 := cz BK102.out 6; have hfz7_0 := blk_frozen BK102.out 0; have hfz7_1 := blk_frozen BK102.out 1; have hfz7_2 := blk_frozen BK102.out 2; have hfz7_3 := blk_frozen BK102.out 3; have hfz7_4 := blk_frozen BK102.out 4; have hfz7_5 := blk_frozen BK102.out 5; have hfz7_6 := blk_frozen BK102.out 6))); ((try simp only [Act.put, aS1, aS2, aS3])); (go_cut [28] (fun v28 wc => ∃ (kq : Nat) (x28_4 : Bool), v28 = .bool x28_4 ∧ Aside0 (spec_l23Field.j0 kq l0 a1 x28_4 ((rd_T54 l0 a1).f0) ((rd_T54 l0 a1).f1) ((rd_T54 l0 a1).f2) ((rd_T54 l0 a1).f3) ((rd_T54 l0 a1).f4) ((rd_T54 l0 a1).f5) ((rd_T54 l0 a1).f6) = some r) ∧ Aside0 (kq ≤ k) ∧ Aside0 (wc.heap[gb102]? = some (.cells #[.string ((rd_T54 l0 a1).f0), .int .i64 ((rd_T54 l0 a1).f1), .int .i64 ((rd_T54 l0 a1).f2), .int .i64 ((rd_T54 l0 a1).f3), (.slice A101_4 ((rd_T54 l0 a1).f4).length c101_4), .bool ((rd_T54 l0 a1).f5), .string ((rd_T54 l0 a1).f6)] 54 (0, 0))) ∧ Aside0 (Below w.heap.size w wc)))
   case first =>
    (have H := HC5.out); clear HC5; (replace H := obS H); (obtain ⟨t103, A8, H⟩ := H); (by_cases c9 : t103 = true)
    ·subst c9
     (rw [if_pos rfl] at H); (replace H := obS H); (obtain ⟨t104, A10, H⟩ := H); (by_cases c11 : t104 = a1)
     ·rw [if_pos c11] at H
      (have c11b0 : (t104 == a1) = true := beq_iff_eq.mpr c11); (have c11b1 : (t104 != a1) = false := bne_eq_false_iff_eq.mpr c11); clear c11; ((first | rw [c11b0] | (simp only [i64_w, i32_w]; rw [c11b0]) | skip)); (replace H := Option.bind_eq_some_iff.mp H); (obtain ⟨t105, A120, H⟩ := H); (have A12 := Aside0.mk A120); clear A120; (have H' := Aside0.mk H); clear H; (have hcz13_0 := cz BK102.out 0); (have hcz13_1 := cz BK102.out 1); (have hcz13_2 := cz BK102.out 2); (have hcz13_3 := cz BK102.out 3); (have hcz13_4 := cz BK102.out 4); (have hcz13_5 := cz BK102.out 5); (have hcz13_6 := cz BK102.out 6); (have hfz13_0 := blk_frozen BK102.out 0); (have hfz13_1 := blk_frozen BK102.out 1); (have hfz13_2 := blk_frozen BK102.out 2); (have hfz13_3 := blk_frozen BK102.out 3); (have hfz13_4 := blk_frozen BK102.out 4); (have hfz13_5 := blk_frozen BK102.out 5); (have hfz13_6 := blk_frozen BK102.out 6); (go_wp2_with (first | ((with_reducible refine gate_callee (f := 81) rfl ?_); refine gL (some 13) Tryd.func81 #[.string ((rd_T54 l0 a1).f0)] ?_; (with_reducible refine (spec_l7Name.calls k ((rd_T54 l0 a1).f0) true _ A8.out).mono ?_); rintro e w' ⟨rfl, ⟨nd, rfl⟩⟩; refine ⟨_, rfl, ?_⟩) | (go_at_call 63; (with_reducible refine (spec_l23Find.calls k _ _ l0 ((rd_T54 l0 a1).f0) t104 _ ?side1 ?side2 A10.out).mono ?_); (case side1 => exact Q25); (case side2 => exact HC0.out); rintro e w' ⟨rfl, ⟨nd, rfl⟩⟩) | (go_at_call 82; (with_reducible refine (spec_l1In.calls ((rd_T54 l0 a1).f1) 1 4 t105 _ A12.out).mono ?_); rintro e w' ⟨rfl, ⟨nd, rfl⟩⟩))); (go_meet)
      case rel => exact ⟨_, (!t105), Q5, H', ⟨Q6⟩, ⟨Q26⟩, ⟨Q14⟩⟩
     ·rw [if_neg c11] at H
      (have c11b0 : (t104 == a1) = false := beq_eq_false_iff_ne.mpr c11); (have c11b1 : (t104 != a1) = true := bne_iff_ne.mpr c11); ((first | rw [c11b0] | (simp only [i64_w, i32_w]; rw [c11b0]) | skip)); (have H' := Aside0.mk H); clear H; (have hcz14_0 := cz BK102.out 0); (have hcz14_1 := cz BK102.out 1); (have hcz14_2 := cz BK102.out 2); (have hcz14_3 := cz BK102.out 3); (have hcz14_4 := cz BK102.out 4); (have hcz14_5 := cz BK102.out 5); (have hcz14_6 := cz BK102.out 6); (have hfz14_0 := blk_frozen BK102.out 0); (have hfz14_1 := blk_frozen BK102.out 1); (have hfz14_2 := blk_frozen BK102.out 2); (have hfz14_3 := blk_frozen BK102.out 3); (have hfz14_4 := blk_frozen BK102.out 4); (have hfz14_5 := blk_frozen BK102.out 5); (have hfz14_6 := blk_frozen BK102.out 6); (go_wp2_with (first | ((with_reducible refine gate_callee (f := 81) rfl ?_); refine gL (some 13) Tryd.func81 #[.string ((rd_T54 l0 a1).f0)] ?_; (with_reducible refine (spec_l7Name.calls k ((rd_T54 l0 a1).f0) true _ A8.out).mono ?_); rintro e w' ⟨rfl, ⟨nd, rfl⟩⟩; refine ⟨_, rfl, ?_⟩) | (go_at_call 63; (with_reducible refine (spec_l23Find.calls k _ _ l0 ((rd_T54 l0 a1).f0) t104 _ ?side1 ?side2 A10.out).mono ?_); (case side1 => exact Q25); (case side2 => exact HC0.out); rintro e w' ⟨rfl, ⟨nd, rfl⟩⟩))); (go_meet)
      case rel => exact Q27
    ·replace c9 := Bool.eq_false_iff.mpr c9
     subst c9; (rw [if_neg (show ¬ (false = true) by decide)] at H); (have H' := Aside0.mk H); clear H; (have hcz15_0 := cz BK102.out 0); (have hcz15_1 := cz BK102.out 1); (have hcz15_2 := cz BK102.out 2); (have hcz15_3 := cz BK102.out 3); (have hcz15_4 := cz BK102.out 4); (have hcz15_5 := cz BK102.out 5); (have hcz15_6 := cz BK102.out 6); (have hfz15_0 := blk_frozen BK102.out 0); (have hfz15_1 := blk_frozen BK102.out 1); (have hfz15_2 := blk_frozen BK102.out 2); (have hfz15_3 := blk_frozen BK102.out 3); (have hfz15_4 := blk_frozen BK102.out 4); (have hfz15_5 := blk_frozen BK102.out 5); (have hfz15_6 := blk_frozen BK102.out 6); (go_wp2_with (first | ((with_reducible refine gate_callee (f := 81) rfl ?_); refine gL (some 13) Tryd.func81 #[.string ((rd_T54 l0 a1).f0)] ?_; (with_reducible refine (spec_l7Name.calls k ((rd_T54 l0 a1).f0) false _ A8.out).mono ?_); rintro e w' ⟨rfl, ⟨nd, rfl⟩⟩; refine ⟨_, rfl, ?_⟩))); (go_meet)
     case rel => exact Q27
   case rest =>
    clear HC5; (try clear c1); (try clear p1); (try clear q1); (try clear hx1); (try clear p2); (try clear c3); (try clear c3b0); (try clear c4); (try clear c4b0); (try clear c5); (try clear c8); (try clear c9); (try clear c10); (try clear p10); (try clear q10); (try clear hx10); (try clear c11); (try clear c11b0); (try clear c11b1); (try clear hcz13_0); (try clear hcz13_1); (try clear hcz13_2); (try clear hcz13_3); (try clear hcz13_4); (try clear hcz13_5); (try clear hcz13_6); (try clear hcz14_0); (try clear hcz14_1); (try clear hcz14_2); (try clear hcz14_3); (try clear hcz14_4); (try clear hcz14_5); (try clear hcz14_6); (try clear hcz15_0); (try clear hcz15_1); (try clear hcz15_2); (try clear hcz15_3); (try clear hcz15_4); (try clear hcz15_5); (try clear hcz15_6); (try clear hcz7_0); (try clear hcz7_1); (try clear hcz7_2); (try clear hcz7_3); (try clear hcz7_4); (try clear hcz7_5); (try clear hcz7_6); (try clear hfz13_0); (try clear hfz13_1); (try clear hfz13_2); (try clear hfz13_3); (try clear hfz13_4); (try clear hfz13_5); (try clear hfz13_6); (try clear hfz14_0); (try clear hfz14_1); (try clear hfz14_2); (try clear hfz14_3); (try clear hfz14_4); (try clear hfz14_5); (try clear hfz14_6); (try clear hfz15_0); (try clear hfz15_1); (try clear hfz15_2); (try clear hfz15_3); (try clear hfz15_4); (try clear hfz15_5); (try clear hfz15_6); (try clear hfz7_0); (try clear hfz7_1); (try clear hfz7_2); (try clear hfz7_3); (try clear hfz7_4); (try clear hfz7_5); (try clear hfz7_6); (try clear hx101_0); (try clear hx101_1); (try clear hx101_2); (try clear hx101_3); (try clear hx101_4); (try clear hx101_5); (try clear hx101_6); (try clear p101); (try clear q101); (obtain ⟨kq, x28_4, rfl, HA, HJ4, BK102, HB⟩ := hcut)
    cases kq with
    | zero => exact absurd HA.out (by simp [spec_l23Field.j0])
    | succ kj4 =>
     (have H := HA.out); clear HA; (simp only [spec_l23Field.j0] at H); (by_cases c16 : x28_4 = true); (· subst c16; (rw [if_pos rfl] at H); (obtain rfl := Option.some.inj H); (go_wp2); go_ret; (exact Q7))
     ·replace c16 := Bool.eq_false_iff.mpr c16
      subst c16; (rw [if_neg (show ¬ (false = true) by decide)] at H); (have HC17 := Aside0.mk H); clear H; (have hcz18_0 := cz BK102.out 0); (have hcz18_1 := cz BK102.out 1); (have hcz18_2 := cz BK102.out 2); (have hcz18_3 := cz BK102.out 3); (have hcz18_4 := cz BK102.out 4); (have hcz18_5 := cz BK102.out 5); (have hcz18_6 := cz BK102.out 6); (have hfz18_0 := blk_frozen BK102.out 0); (have hfz18_1 := blk_frozen BK102.out 1); (have hfz18_2 := blk_frozen BK102.out 2); (have hfz18_3 := blk_frozen BK102.out 3); (have hfz18_4 := blk_frozen BK102.out 4); (have hfz18_5 := blk_frozen BK102.out 5); (have hfz18_6 := blk_frozen BK102.out 6); (go_upto_if 31 with (fail)); (go_cut [] (fun wc => ∃ (kq : Nat), Aside0 (spec_l23Field.j1 kq ((rd_T54 l0 a1).f0) ((rd_T54 l0 a1).f1) ((rd_T54 l0 a1).f2) ((rd_T54 l0 a1).f3) ((rd_T54 l0 a1).f4) ((rd_T54 l0 a1).f5) ((rd_T54 l0 a1).f6) = some r) ∧ Aside0 (kq ≤ kj4) ∧ Aside0 (wc.heap[gb102]? = some (.cells #[.string ((rd_T54 l0 a1).f0), .int .i64 ((rd_T54 l0 a1).f1), .int .i64 ((rd_T54 l0 a1).f2), .int .i64 ((rd_T54 l0 a1).f3), (.slice A101_4 ((rd_T54 l0 a1).f4).length c101_4), .bool ((rd_T54 l0 a1).f5), .string ((rd_T54 l0 a1).f6)] 54 (0, 0))) ∧ Aside0 (Below w.heap.size w wc)))
      case first =>
       (have H := HC17.out); clear HC17; (by_cases c19 : ((rd_T54 l0 a1).f6).toList = ([] : List UInt8))
       ·rw [if_pos c19] at H
        (have c19b0 : ((rd_T54 l0 a1).f6).toList.isEmpty = true := List.isEmpty_iff.mpr c19); (have c19b1 : (!((rd_T54 l0 a1).f6).toList.isEmpty) = false := by rw [List.isEmpty_iff.mpr c19]; rfl); (have c19b2 : (((rd_T54 l0 a1).f6).toList == ([] : List UInt8)) = true := beq_iff_eq.mpr c19); (have c19b3 : (((rd_T54 l0 a1).f6).toList != ([] : List UInt8)) = false := bne_eq_false_iff_eq.mpr c19); clear c19; ((first | rw [c19b0] | (simp only [i64_w, i32_w]; rw [c19b0]) | skip)); (have H' := Aside0.mk H); clear H; (go_wp2); (go_meet)
        case rel => exact Q28
       ·rw [if_neg c19] at H
        (have c19b0 : ((rd_T54 l0 a1).f6).toList.isEmpty = false := Q29); (have c19b1 : (!((rd_T54 l0 a1).f6).toList.isEmpty) = true := by rw [show ((rd_T54 l0 a1).f6).toList.isEmpty = false from Q29]; rfl); (have c19b2 : (((rd_T54 l0 a1).f6).toList == ([] : List UInt8)) = false := beq_eq_false_iff_ne.mpr c19); (have c19b3 : (((rd_T54 l0 a1).f6).toList != ([] : List UInt8)) = true := bne_iff_ne.mpr c19); ((first | rw [c19b0] | (simp only [i64_w, i32_w]; rw [c19b0]) | skip)); (replace H := obS H); (obtain ⟨t106, A20, H⟩ := H); (by_cases c21 : t106 < 0)
        ·rw [if_pos c21] at H
         (have c21b0 := decide_eq_true c21); clear c21; (obtain rfl := Option.some.inj H); (have hcz22_0 := cz BK102.out 0); (have hcz22_1 := cz BK102.out 1); (have hcz22_2 := cz BK102.out 2); (have hcz22_3 := cz BK102.out 3); (have hcz22_4 := cz BK102.out 4); (have hcz22_5 := cz BK102.out 5); (have hcz22_6 := cz BK102.out 6); (have hfz22_0 := blk_frozen BK102.out 0); (have hfz22_1 := blk_frozen BK102.out 1); (have hfz22_2 := blk_frozen BK102.out 2); (have hfz22_3 := blk_frozen BK102.out 3); (have hfz22_4 := blk_frozen BK102.out 4); (have hfz22_5 := blk_frozen BK102.out 5); (have hfz22_6 := blk_frozen BK102.out 6); (go_wp2_with (first | ((with_reducible refine gate_callee (f := 63) rfl ?_); refine gL (some 35) Tryd.func63 #[.slice (some ad101) l0.length c0, .string ((rd_T54 l0 a1).f6)] ?_; (with_reducible refine (spec_l23Find.calls kj4 _ _ l0 ((rd_T54 l0 a1).f6) t106 _ ?side1 ?side2 A20.out).mono ?_); (case side1 => exact Q4); (case side2 => exact HC0.out); rintro e w' ⟨rfl, ⟨nd, rfl⟩⟩; refine ⟨_, rfl, ?_⟩))); go_ret; (exact Q7)
        ·rw [if_neg c21] at H
         (have c21b0 := decide_eq_false c21); clear c21; (by_cases c23 : t106 ≥ a1)
         ·rw [if_pos c23] at H
          (have c23b0 : decide (a1 ≤ t106) = true := decide_eq_true c23); clear c23; (obtain rfl := Option.some.inj H); (have hcz24_0 := cz BK102.out 0); (have hcz24_1 := cz BK102.out 1); (have hcz24_2 := cz BK102.out 2); (have hcz24_3 := cz BK102.out 3); (have hcz24_4 := cz BK102.out 4); (have hcz24_5 := cz BK102.out 5); (have hcz24_6 := cz BK102.out 6); (have hfz24_0 := blk_frozen BK102.out 0); (have hfz24_1 := blk_frozen BK102.out 1); (have hfz24_2 := blk_frozen BK102.out 2); (have hfz24_3 := blk_frozen BK102.out 3); (have hfz24_4 := blk_frozen BK102.out 4); (have hfz24_5 := blk_frozen BK102.out 5); (have hfz24_6 := blk_frozen BK102.out 6); (go_wp2_with (first | ((with_reducible refine gate_callee (f := 63) rfl ?_); refine gL (some 35) Tryd.func63 #[.slice (some ad101) l0.length c0, .string ((rd_T54 l0 a1).f6)] ?_; (with_reducible refine (spec_l23Find.calls kj4 _ _ l0 ((rd_T54 l0 a1).f6) t106 _ ?side1 ?side2 A20.out).mono ?_); (case side1 => exact Q4); (case side2 => exact HC0.out); rintro e w' ⟨rfl, ⟨nd, rfl⟩⟩; refine ⟨_, rfl, ?_⟩))); go_ret; (exact Q7)
         ·rw [if_neg c23] at H
          (have c23b0 : decide (a1 ≤ t106) = false := decide_eq_false c23); clear c23; (by_cases c25 : 0 ≤ t106)
          ·rw [if_pos c25] at H
           (have c25b0 := decide_eq_true c25); clear c25; (by_cases c26 : t106 < (l0.length : Int))
           ·rw [if_pos c26] at H
            (have c26b0 := decide_eq_true c26); clear c26; (by_cases c27 : ((rd_T54 l0 t106).f1) = 4)
            ·rw [if_pos c27] at H
             (have c27b0 : (((rd_T54 l0 t106).f1) == 4) = true := beq_iff_eq.mpr c27); (have c27b1 : (((rd_T54 l0 t106).f1) != 4) = false := bne_eq_false_iff_eq.mpr c27); clear c27; (have H' := Aside0.mk H); clear H; (have hcz28_0 := cz BK102.out 0); (have hcz28_1 := cz BK102.out 1); (have hcz28_2 := cz BK102.out 2); (have hcz28_3 := cz BK102.out 3); (have hcz28_4 := cz BK102.out 4); (have hcz28_5 := cz BK102.out 5); (have hcz28_6 := cz BK102.out 6); (have hfz28_0 := blk_frozen BK102.out 0); (have hfz28_1 := blk_frozen BK102.out 1); (have hfz28_2 := blk_frozen BK102.out 2); (have hfz28_3 := blk_frozen BK102.out 3); (have hfz28_4 := blk_frozen BK102.out 4); (have hfz28_5 := blk_frozen BK102.out 5); (have hfz28_6 := blk_frozen BK102.out 6); (go_wp2_with (first | ((with_reducible refine gate_callee (f := 63) rfl ?_); refine gL (some 35) Tryd.func63 #[.slice (some ad101) l0.length c0, .string ((rd_T54 l0 a1).f6)] ?_; (with_reducible refine (spec_l23Find.calls kj4 _ _ l0 ((rd_T54 l0 a1).f6) t106 _ ?side1 ?side2 A20.out).mono ?_); (case side1 => exact Q4); (case side2 => exact HC0.out); rintro e w' ⟨rfl, ⟨nd, rfl⟩⟩; refine ⟨_, rfl, ?_⟩; have p107 : 0 ≤ (t106 : Int) := odt; have q107 : t106 < (l0.length : Int) := odt; obtain ⟨ad107, A107_4, c107_4, e107, hx107_0, hx107_1, hx107_2, hx107_3, hx107_4, hx107_5, hx107_6, hl107_4, hi107_4⟩ := at_T54 HR0.out t106 p107 q107; obtain rfl : ad101 = ad107 := (by injection e107); replace hx107_0 := hcI HB hx107_0; replace hx107_1 := hcI HB hx107_1; replace hx107_2 := hcI HB hx107_2; replace hx107_3 := hcI HB hx107_3; replace hx107_4 := hcI HB hx107_4; replace hx107_5 := hcI HB hx107_5; replace hx107_6 := hcI HB hx107_6; have HR107_4 := Aside0.mk hi107_4; have HC107_4 := Aside0.mk hl107_4; clear hi107_4 hl107_4; replace p107 := eq_true p107; replace q107 := eq_true q107))); (go_meet)
             case rel => exact Q28
            ·rw [if_neg c27] at H
             (have c27b0 : (((rd_T54 l0 t106).f1) == 4) = false := beq_eq_false_iff_ne.mpr c27); (have c27b1 : (((rd_T54 l0 t106).f1) != 4) = true := bne_iff_ne.mpr c27); (obtain rfl := Option.some.inj H); (have hcz29_0 := cz BK102.out 0); (have hcz29_1 := cz BK102.out 1); (have hcz29_2 := cz BK102.out 2); (have hcz29_3 := cz BK102.out 3); (have hcz29_4 := cz BK102.out 4); (have hcz29_5 := cz BK102.out 5); (have hcz29_6 := cz BK102.out 6); (have hfz29_0 := blk_frozen BK102.out 0); (have hfz29_1 := blk_frozen BK102.out 1); (have hfz29_2 := blk_frozen BK102.out 2); (have hfz29_3 := blk_frozen BK102.out 3); (have hfz29_4 := blk_frozen BK102.out 4); (have hfz29_5 := blk_frozen BK102.out 5); (have hfz29_6 := blk_frozen BK102.out 6); (go_wp2_with (first | ((with_reducible refine gate_callee (f := 63) rfl ?_); refine gL (some 35) Tryd.func63 #[.slice (some ad101) l0.length c0, .string ((rd_T54 l0 a1).f6)] ?_; (with_reducible refine (spec_l23Find.calls kj4 _ _ l0 ((rd_T54 l0 a1).f6) t106 _ ?side1 ?side2 A20.out).mono ?_); (case side1 => exact Q4); (case side2 => exact HC0.out); rintro e w' ⟨rfl, ⟨nd, rfl⟩⟩; refine ⟨_, rfl, ?_⟩; have p107 : 0 ≤ (t106 : Int) := odt; have q107 : t106 < (l0.length : Int) := odt; obtain ⟨ad107, A107_4, c107_4, e107, hx107_0, hx107_1, hx107_2, hx107_3, hx107_4, hx107_5, hx107_6, hl107_4, hi107_4⟩ := at_T54 HR0.out t106 p107 q107; obtain rfl : ad101 = ad107 := (by injection e107); replace hx107_0 := hcI HB hx107_0; replace hx107_1 := hcI HB hx107_1; replace hx107_2 := hcI HB hx107_2; replace hx107_3 := hcI HB hx107_3; replace hx107_4 := hcI HB hx107_4; replace hx107_5 := hcI HB hx107_5; replace hx107_6 := hcI HB hx107_6; have HR107_4 := Aside0.mk hi107_4; have HC107_4 := Aside0.mk hl107_4; clear hi107_4 hl107_4; replace p107 := eq_true p107; replace q107 := eq_true q107))); go_ret; (exact Q7)
           ·rw [if_neg c26] at H
            exact Q3
          ·rw [if_neg c25] at H
           exact Q3
      case rest =>
       clear HC17; (try clear c1); (try clear p1); (try clear q1); (try clear hx1); (try clear c2); (try clear p2); (try clear c3); (try clear c3b0); (try clear c4); (try clear c4b0); (try clear c5); (try clear c6); (try clear c8); (try clear c9); (try clear c10); (try clear p10); (try clear q10); (try clear hx10); (try clear c11); (try clear c11b0); (try clear c11b1); (try clear c16); (try clear c19); (try clear c19b0); (try clear c19b1); (try clear c19b2); (try clear c21); (try clear c21b0); (try clear c23); (try clear c23b0); (try clear c25); (try clear c25b0); (try clear c26); (try clear c26b0); (try clear c27); (try clear c27b0); (try clear c27b1); (try clear hcz13_0); (try clear hcz13_1); (try clear hcz13_2); (try clear hcz13_3); (try clear hcz13_4); (try clear hcz13_5); (try clear hcz13_6); (try clear hcz14_0); (try clear hcz14_1); (try clear hcz14_2); (try clear hcz14_3); (try clear hcz14_4); (try clear hcz14_5); (try clear hcz14_6); (try clear hcz15_0); (try clear hcz15_1); (try clear hcz15_2); (try clear hcz15_3); (try clear hcz15_4); (try clear hcz15_5); (try clear hcz15_6); (try clear hcz18_0); (try clear hcz18_1); (try clear hcz18_2); (try clear hcz18_3); (try clear hcz18_4); (try clear hcz18_5); (try clear hcz18_6); (try clear hcz22_0); (try clear hcz22_1); (try clear hcz22_2); (try clear hcz22_3); (try clear hcz22_4); (try clear hcz22_5); (try clear hcz22_6); (try clear hcz24_0); (try clear hcz24_1); (try clear hcz24_2); (try clear hcz24_3); (try clear hcz24_4); (try clear hcz24_5); (try clear hcz24_6); (try clear hcz28_0); (try clear hcz28_1); (try clear hcz28_2); (try clear hcz28_3); (try clear hcz28_4); (try clear hcz28_5); (try clear hcz28_6); (try clear hcz29_0); (try clear hcz29_1); (try clear hcz29_2); (try clear hcz29_3); (try clear hcz29_4); (try clear hcz29_5); (try clear hcz29_6); (try clear hcz7_0); (try clear hcz7_1); (try clear hcz7_2); (try clear hcz7_3); (try clear hcz7_4); (try clear hcz7_5); (try clear hcz7_6); (try clear hfz13_0); (try clear hfz13_1); (try clear hfz13_2); (try clear hfz13_3); (try clear hfz13_4); (try clear hfz13_5); (try clear hfz13_6); (try clear hfz14_0); (try clear hfz14_1); (try clear hfz14_2); (try clear hfz14_3); (try clear hfz14_4); (try clear hfz14_5); (try clear hfz14_6); (try clear hfz15_0); (try clear hfz15_1); (try clear hfz15_2); (try clear hfz15_3); (try clear hfz15_4); (try clear hfz15_5); (try clear hfz15_6); (try clear hfz18_0); (try clear hfz18_1); (try clear hfz18_2); (try clear hfz18_3); (try clear hfz18_4); (try clear hfz18_5); (try clear hfz18_6); (try clear hfz22_0); (try clear hfz22_1); (try clear hfz22_2); (try clear hfz22_3); (try clear hfz22_4); (try clear hfz22_5); (try clear hfz22_6); (try clear hfz24_0); (try clear hfz24_1); (try clear hfz24_2); (try clear hfz24_3); (try clear hfz24_4); (try clear hfz24_5); (try clear hfz24_6); (try clear hfz28_0); (try clear hfz28_1); (try clear hfz28_2); (try clear hfz28_3); (try clear hfz28_4); (try clear hfz28_5); (try clear hfz28_6); (try clear hfz29_0); (try clear hfz29_1); (try clear hfz29_2); (try clear hfz29_3); (try clear hfz29_4); (try clear hfz29_5); (try clear hfz29_6); (try clear hfz7_0); (try clear hfz7_1); (try clear hfz7_2); (try clear hfz7_3); (try clear hfz7_4); (try clear hfz7_5); (try clear hfz7_6); (try clear hx101_0); (try clear hx101_1); (try clear hx101_2); (try clear hx101_3); (try clear hx101_4); (try clear hx101_5); (try clear hx101_6); (try clear hx107_0); (try clear hx107_1); (try clear hx107_2); (try clear hx107_3); (try clear hx107_4); (try clear hx107_5); (try clear hx107_6); (try clear p1); (try clear p10); (try clear p101); (try clear p107); (try clear p2); (try clear q1); (try clear q10); (try clear q101); (try clear q107); (obtain ⟨kq, HA, HJ16, BK102, HB⟩ := hcut)
       cases kq with
       | zero => exact absurd HA.out (by simp [spec_l23Field.j1])
       | succ kj16 =>
        (have H := HA.out); clear HA; (simp only [spec_l23Field.j1] at H); (by_cases c30 : ((rd_T54 l0 a1).f1) = 1)
        ·rw [if_pos c30] at H
         (have c30b0 : (((rd_T54 l0 a1).f1) == 1) = true := beq_iff_eq.mpr c30); (have c30b1 : (((rd_T54 l0 a1).f1) != 1) = false := bne_eq_false_iff_eq.mpr c30); clear c30; (replace H := obS H); (obtain ⟨t108, A31, H⟩ := H); (by_cases c32 : t108 = true)
         ·subst c32
          (rw [if_pos rfl] at H); (by_cases c33 : ((rd_T54 l0 a1).f3) ≤ 999999)
          ·rw [if_pos c33] at H
           (have c33b0 := decide_eq_true c33); clear c33; (obtain rfl := Option.some.inj H); (have hcz34_0 := cz BK102.out 0); (have hcz34_1 := cz BK102.out 1); (have hcz34_2 := cz BK102.out 2); (have hcz34_3 := cz BK102.out 3); (have hcz34_4 := cz BK102.out 4); (have hcz34_5 := cz BK102.out 5); (have hcz34_6 := cz BK102.out 6); (have hfz34_0 := blk_frozen BK102.out 0); (have hfz34_1 := blk_frozen BK102.out 1); (have hfz34_2 := blk_frozen BK102.out 2); (have hfz34_3 := blk_frozen BK102.out 3); (have hfz34_4 := blk_frozen BK102.out 4); (have hfz34_5 := blk_frozen BK102.out 5); (have hfz34_6 := blk_frozen BK102.out 6); (go_wp2_with (first | ((with_reducible refine gate_callee (f := 82) rfl ?_); refine gL (some 59) Tryd.func82 #[.int .i64 ((rd_T54 l0 a1).f2), .int .i64 (-999999), .int .i64 ((rd_T54 l0 a1).f3)] ?_; (with_reducible refine (spec_l1In.calls ((rd_T54 l0 a1).f2) (-999999) ((rd_T54 l0 a1).f3) true _ A31.out).mono ?_); rintro e w' ⟨rfl, ⟨nd, rfl⟩⟩; refine ⟨_, rfl, ?_⟩))); go_ret; (exact Q7)
          ·rw [if_neg c33] at H
           (have c33b0 := decide_eq_false c33); clear c33; (obtain rfl := Option.some.inj H); (have hcz35_0 := cz BK102.out 0); (have hcz35_1 := cz BK102.out 1); (have hcz35_2 := cz BK102.out 2); (have hcz35_3 := cz BK102.out 3); (have hcz35_4 := cz BK102.out 4); (have hcz35_5 := cz BK102.out 5); (have hcz35_6 := cz BK102.out 6); (have hfz35_0 := blk_frozen BK102.out 0); (have hfz35_1 := blk_frozen BK102.out 1); (have hfz35_2 := blk_frozen BK102.out 2); (have hfz35_3 := blk_frozen BK102.out 3); (have hfz35_4 := blk_frozen BK102.out 4); (have hfz35_5 := blk_frozen BK102.out 5); (have hfz35_6 := blk_frozen BK102.out 6); (go_wp2_with (first | ((with_reducible refine gate_callee (f := 82) rfl ?_); refine gL (some 59) Tryd.func82 #[.int .i64 ((rd_T54 l0 a1).f2), .int .i64 (-999999), .int .i64 ((rd_T54 l0 a1).f3)] ?_; (with_reducible refine (spec_l1In.calls ((rd_T54 l0 a1).f2) (-999999) ((rd_T54 l0 a1).f3) true _ A31.out).mono ?_); rintro e w' ⟨rfl, ⟨nd, rfl⟩⟩; refine ⟨_, rfl, ?_⟩))); go_ret; (exact Q7)
         ·replace c32 := Bool.eq_false_iff.mpr c32
          subst c32; (rw [if_neg (show ¬ (false = true) by decide)] at H); (obtain rfl := Option.some.inj H); (have hcz36_0 := cz BK102.out 0); (have hcz36_1 := cz BK102.out 1); (have hcz36_2 := cz BK102.out 2); (have hcz36_3 := cz BK102.out 3); (have hcz36_4 := cz BK102.out 4); (have hcz36_5 := cz BK102.out 5); (have hcz36_6 := cz BK102.out 6); (have hfz36_0 := blk_frozen BK102.out 0); (have hfz36_1 := blk_frozen BK102.out 1); (have hfz36_2 := blk_frozen BK102.out 2); (have hfz36_3 := blk_frozen BK102.out 3); (have hfz36_4 := blk_frozen BK102.out 4); (have hfz36_5 := blk_frozen BK102.out 5); (have hfz36_6 := blk_frozen BK102.out 6); (go_wp2_with (first | ((with_reducible refine gate_callee (f := 82) rfl ?_); refine gL (some 59) Tryd.func82 #[.int .i64 ((rd_T54 l0 a1).f2), .int .i64 (-999999), .int .i64 ((rd_T54 l0 a1).f3)] ?_; (with_reducible refine (spec_l1In.calls ((rd_T54 l0 a1).f2) (-999999) ((rd_T54 l0 a1).f3) false _ A31.out).mono ?_); rintro e w' ⟨rfl, ⟨nd, rfl⟩⟩; refine ⟨_, rfl, ?_⟩))); go_ret; (exact Q7)
        ·rw [if_neg c30] at H
         (have c30b0 : (((rd_T54 l0 a1).f1) == 1) = false := beq_eq_false_iff_ne.mpr c30); (have c30b1 : (((rd_T54 l0 a1).f1) != 1) = true := bne_iff_ne.mpr c30); (by_cases c37 : ((rd_T54 l0 a1).f1) = 2)
         ·rw [if_pos c37] at H
          (have c37b0 : (((rd_T54 l0 a1).f1) == 2) = true := beq_iff_eq.mpr c37); (have c37b1 : (((rd_T54 l0 a1).f1) != 2) = false := bne_eq_false_iff_eq.mpr c37); clear c37; (replace H := obS H); (obtain ⟨t109, A38, H⟩ := H); (by_cases c39 : t109 = true)
          ·subst c39
           (rw [if_pos rfl] at H); (by_cases c40 : ((rd_T54 l0 a1).f3) ≤ 40)
           ·rw [if_pos c40] at H
            (have c40b0 := decide_eq_true c40); clear c40; (obtain rfl := Option.some.inj H); (have hcz41_0 := cz BK102.out 0); (have hcz41_1 := cz BK102.out 1); (have hcz41_2 := cz BK102.out 2); (have hcz41_3 := cz BK102.out 3); (have hcz41_4 := cz BK102.out 4); (have hcz41_5 := cz BK102.out 5); (have hcz41_6 := cz BK102.out 6); (have hfz41_0 := blk_frozen BK102.out 0); (have hfz41_1 := blk_frozen BK102.out 1); (have hfz41_2 := blk_frozen BK102.out 2); (have hfz41_3 := blk_frozen BK102.out 3); (have hfz41_4 := blk_frozen BK102.out 4); (have hfz41_5 := blk_frozen BK102.out 5); (have hfz41_6 := blk_frozen BK102.out 6); (go_wp2_with (first | ((with_reducible refine gate_callee (f := 82) rfl ?_); refine gL (some 77) Tryd.func82 #[.int .i64 ((rd_T54 l0 a1).f2), .int .i64 0, .int .i64 ((rd_T54 l0 a1).f3)] ?_; (with_reducible refine (spec_l1In.calls ((rd_T54 l0 a1).f2) 0 ((rd_T54 l0 a1).f3) true _ A38.out).mono ?_); rintro e w' ⟨rfl, ⟨nd, rfl⟩⟩; refine ⟨_, rfl, ?_⟩))); go_ret; (exact Q7)
           ·rw [if_neg c40] at H
            (have c40b0 := decide_eq_false c40); clear c40; (obtain rfl := Option.some.inj H); (have hcz42_0 := cz BK102.out 0); (have hcz42_1 := cz BK102.out 1); (have hcz42_2 := cz BK102.out 2); (have hcz42_3 := cz BK102.out 3); (have hcz42_4 := cz BK102.out 4); (have hcz42_5 := cz BK102.out 5); (have hcz42_6 := cz BK102.out 6); (have hfz42_0 := blk_frozen BK102.out 0); (have hfz42_1 := blk_frozen BK102.out 1); (have hfz42_2 := blk_frozen BK102.out 2); (have hfz42_3 := blk_frozen BK102.out 3); (have hfz42_4 := blk_frozen BK102.out 4); (have hfz42_5 := blk_frozen BK102.out 5); (have hfz42_6 := blk_frozen BK102.out 6); (go_wp2_with (first | ((with_reducible refine gate_callee (f := 82) rfl ?_); refine gL (some 77) Tryd.func82 #[.int .i64 ((rd_T54 l0 a1).f2), .int .i64 0, .int .i64 ((rd_T54 l0 a1).f3)] ?_; (with_reducible refine (spec_l1In.calls ((rd_T54 l0 a1).f2) 0 ((rd_T54 l0 a1).f3) true _ A38.out).mono ?_); rintro e w' ⟨rfl, ⟨nd, rfl⟩⟩; refine ⟨_, rfl, ?_⟩))); go_ret; (exact Q7)
          ·replace c39 := Bool.eq_false_iff.mpr c39
           subst c39; (rw [if_neg (show ¬ (false = true) by decide)] at H); (obtain rfl := Option.some.inj H); (have hcz43_0 := cz BK102.out 0); (have hcz43_1 := cz BK102.out 1); (have hcz43_2 := cz BK102.out 2); (have hcz43_3 := cz BK102.out 3); (have hcz43_4 := cz BK102.out 4); (have hcz43_5 := cz BK102.out 5); (have hcz43_6 := cz BK102.out 6); (have hfz43_0 := blk_frozen BK102.out 0); (have hfz43_1 := blk_frozen BK102.out 1); (have hfz43_2 := blk_frozen BK102.out 2); (have hfz43_3 := blk_frozen BK102.out 3); (have hfz43_4 := blk_frozen BK102.out 4); (have hfz43_5 := blk_frozen BK102.out 5); (have hfz43_6 := blk_frozen BK102.out 6); (go_wp2_with (first | ((with_reducible refine gate_callee (f := 82) rfl ?_); refine gL (some 77) Tryd.func82 #[.int .i64 ((rd_T54 l0 a1).f2), .int .i64 0, .int .i64 ((rd_T54 l0 a1).f3)] ?_; (with_reducible refine (spec_l1In.calls ((rd_T54 l0 a1).f2) 0 ((rd_T54 l0 a1).f3) false _ A38.out).mono ?_); rintro e w' ⟨rfl, ⟨nd, rfl⟩⟩; refine ⟨_, rfl, ?_⟩))); go_ret; (exact Q7)
         ·rw [if_neg c37] at H
          (have c37b0 : (((rd_T54 l0 a1).f1) == 2) = false := beq_eq_false_iff_ne.mpr c37); (have c37b1 : (((rd_T54 l0 a1).f1) != 2) = true := bne_iff_ne.mpr c37); (by_cases c44 : ((rd_T54 l0 a1).f1) = 3)
          ·rw [if_pos c44] at H
           (have c44b0 : (((rd_T54 l0 a1).f1) == 3) = true := beq_iff_eq.mpr c44); (have c44b1 : (((rd_T54 l0 a1).f1) != 3) = false := bne_eq_false_iff_eq.mpr c44); clear c44; (by_cases c45 : ((rd_T54 l0 a1).f2) = 0)
           ·rw [if_pos c45] at H
            (have c45b0 : (((rd_T54 l0 a1).f2) == 0) = true := beq_iff_eq.mpr c45); (have c45b1 : (((rd_T54 l0 a1).f2) != 0) = false := bne_eq_false_iff_eq.mpr c45); clear c45; (by_cases c46 : ((rd_T54 l0 a1).f3) = 0)
            ·rw [if_pos c46] at H
             (have c46b0 : (((rd_T54 l0 a1).f3) == 0) = true := beq_iff_eq.mpr c46); (have c46b1 : (((rd_T54 l0 a1).f3) != 0) = false := bne_eq_false_iff_eq.mpr c46); clear c46; (replace H := obS H); (obtain ⟨t110, A47, H⟩ := H); (by_cases c48 : t110 = true)
             ·subst c48
              (rw [if_pos rfl] at H); (replace H := obS H); (obtain ⟨t111, A49, H⟩ := H); (obtain rfl := Option.some.inj H); (have hcz50_0 := cz BK102.out 0); (have hcz50_1 := cz BK102.out 1); (have hcz50_2 := cz BK102.out 2); (have hcz50_3 := cz BK102.out 3); (have hcz50_4 := cz BK102.out 4); (have hcz50_5 := cz BK102.out 5); (have hcz50_6 := cz BK102.out 6); (have hfz50_0 := blk_frozen BK102.out 0); (have hfz50_1 := blk_frozen BK102.out 1); (have hfz50_2 := blk_frozen BK102.out 2); (have hfz50_3 := blk_frozen BK102.out 3); (have hfz50_4 := blk_frozen BK102.out 4); (have hfz50_5 := blk_frozen BK102.out 5); (have hfz50_6 := blk_frozen BK102.out 6); (go_wp2_with (first | (go_at_call 82; (with_reducible refine (spec_l1In.calls (((rd_T54 l0 a1).f4).length : Int) 1 6 true _ A47.out).mono ?_); rintro e w' ⟨rfl, ⟨nd, rfl⟩⟩) | (go_at_call 83; (with_reducible refine (spec_l23Names.calls kj16 _ _ ((rd_T54 l0 a1).f4) t111 _ ?side1 ?side2 A49.out).mono ?_); (case side1 => exact Q15); (case side2 => exact HC101_4.out); rintro e w' ⟨rfl, ⟨nd, rfl⟩⟩))); go_ret; (exact Q7)
             ·replace c48 := Bool.eq_false_iff.mpr c48
              subst c48; (rw [if_neg (show ¬ (false = true) by decide)] at H); (obtain rfl := Option.some.inj H); (have hcz51_0 := cz BK102.out 0); (have hcz51_1 := cz BK102.out 1); (have hcz51_2 := cz BK102.out 2); (have hcz51_3 := cz BK102.out 3); (have hcz51_4 := cz BK102.out 4); (have hcz51_5 := cz BK102.out 5); (have hcz51_6 := cz BK102.out 6); (have hfz51_0 := blk_frozen BK102.out 0); (have hfz51_1 := blk_frozen BK102.out 1); (have hfz51_2 := blk_frozen BK102.out 2); (have hfz51_3 := blk_frozen BK102.out 3); (have hfz51_4 := blk_frozen BK102.out 4); (have hfz51_5 := blk_frozen BK102.out 5); (have hfz51_6 := blk_frozen BK102.out 6); (go_wp2_with (first | (go_at_call 82; (with_reducible refine (spec_l1In.calls (((rd_T54 l0 a1).f4).length : Int) 1 6 false _ A47.out).mono ?_); rintro e w' ⟨rfl, ⟨nd, rfl⟩⟩))); go_ret; (exact Q7)
            ·rw [if_neg c46] at H
             (have c46b0 : (((rd_T54 l0 a1).f3) == 0) = false := beq_eq_false_iff_ne.mpr c46); (have c46b1 : (((rd_T54 l0 a1).f3) != 0) = true := bne_iff_ne.mpr c46); (obtain rfl := Option.some.inj H); (have hcz52_0 := cz BK102.out 0); (have hcz52_1 := cz BK102.out 1); (have hcz52_2 := cz BK102.out 2); (have hcz52_3 := cz BK102.out 3); (have hcz52_4 := cz BK102.out 4); (have hcz52_5 := cz BK102.out 5); (have hcz52_6 := cz BK102.out 6); (have hfz52_0 := blk_frozen BK102.out 0); (have hfz52_1 := blk_frozen BK102.out 1); (have hfz52_2 := blk_frozen BK102.out 2); (have hfz52_3 := blk_frozen BK102.out 3); (have hfz52_4 := blk_frozen BK102.out 4); (have hfz52_5 := blk_frozen BK102.out 5); (have hfz52_6 := blk_frozen BK102.out 6); (go_wp2); go_ret; (exact Q7)
           ·rw [if_neg c45] at H
            (have c45b0 : (((rd_T54 l0 a1).f2) == 0) = false := beq_eq_false_iff_ne.mpr c45); (have c45b1 : (((rd_T54 l0 a1).f2) != 0) = true := bne_iff_ne.mpr c45); (obtain rfl := Option.some.inj H); (have hcz53_0 := cz BK102.out 0); (have hcz53_1 := cz BK102.out 1); (have hcz53_2 := cz BK102.out 2); (have hcz53_3 := cz BK102.out 3); (have hcz53_4 := cz BK102.out 4); (have hcz53_5 := cz BK102.out 5); (have hcz53_6 := cz BK102.out 6); (have hfz53_0 := blk_frozen BK102.out 0); (have hfz53_1 := blk_frozen BK102.out 1); (have hfz53_2 := blk_frozen BK102.out 2); (have hfz53_3 := blk_frozen BK102.out 3); (have hfz53_4 := blk_frozen BK102.out 4); (have hfz53_5 := blk_frozen BK102.out 5); (have hfz53_6 := blk_frozen BK102.out 6); (go_wp2); go_ret; (exact Q7)
          ·rw [if_neg c44] at H
           (have c44b0 : (((rd_T54 l0 a1).f1) == 3) = false := beq_eq_false_iff_ne.mpr c44); (have c44b1 : (((rd_T54 l0 a1).f1) != 3) = true := bne_iff_ne.mpr c44); (by_cases c54 : ((rd_T54 l0 a1).f2) = 0)
           ·rw [if_pos c54] at H
            (have c54b0 : (((rd_T54 l0 a1).f2) == 0) = true := beq_iff_eq.mpr c54); (have c54b1 : (((rd_T54 l0 a1).f2) != 0) = false := bne_eq_false_iff_eq.mpr c54); clear c54; (by_cases c55 : ((rd_T54 l0 a1).f3) = 0)
            ·rw [if_pos c55] at H
             (have c55b0 : (((rd_T54 l0 a1).f3) == 0) = true := beq_iff_eq.mpr c55); (have c55b1 : (((rd_T54 l0 a1).f3) != 0) = false := bne_eq_false_iff_eq.mpr c55); clear c55; (obtain rfl := Option.some.inj H); (have hcz56_0 := cz BK102.out 0); (have hcz56_1 := cz BK102.out 1); (have hcz56_2 := cz BK102.out 2); (have hcz56_3 := cz BK102.out 3); (have hcz56_4 := cz BK102.out 4); (have hcz56_5 := cz BK102.out 5); (have hcz56_6 := cz BK102.out 6); (have hfz56_0 := blk_frozen BK102.out 0); (have hfz56_1 := blk_frozen BK102.out 1); (have hfz56_2 := blk_frozen BK102.out 2); (have hfz56_3 := blk_frozen BK102.out 3); (have hfz56_4 := blk_frozen BK102.out 4); (have hfz56_5 := blk_frozen BK102.out 5); (have hfz56_6 := blk_frozen BK102.out 6); (go_wp2); go_ret; (exact Q7)
            ·rw [if_neg c55] at H
             (have c55b0 : (((rd_T54 l0 a1).f3) == 0) = false := beq_eq_false_iff_ne.mpr c55); (have c55b1 : (((rd_T54 l0 a1).f3) != 0) = true := bne_iff_ne.mpr c55); (obtain rfl := Option.some.inj H); (have hcz57_0 := cz BK102.out 0); (have hcz57_1 := cz BK102.out 1); (have hcz57_2 := cz BK102.out 2); (have hcz57_3 := cz BK102.out 3); (have hcz57_4 := cz BK102.out 4); (have hcz57_5 := cz BK102.out 5); (have hcz57_6 := cz BK102.out 6); (have hfz57_0 := blk_frozen BK102.out 0); (have hfz57_1 := blk_frozen BK102.out 1); (have hfz57_2 := blk_frozen BK102.out 2); (have hfz57_3 := blk_frozen BK102.out 3); (have hfz57_4 := blk_frozen BK102.out 4); (have hfz57_5 := blk_frozen BK102.out 5); (have hfz57_6 := blk_frozen BK102.out 6); (go_wp2); go_ret; (exact Q7)
           ·rw [if_neg c54] at H
            (have c54b0 : (((rd_T54 l0 a1).f2) == 0) = false := beq_eq_false_iff_ne.mpr c54); (have c54b1 : (((rd_T54 l0 a1).f2) != 0) = true := bne_iff_ne.mpr c54); (obtain rfl := Option.some.inj H); (have hcz58_0 := cz BK102.out 0); (have hcz58_1 := cz BK102.out 1); (have hcz58_2 := cz BK102.out 2); (have hcz58_3 := cz BK102.out 3); (have hcz58_4 := cz BK102.out 4); (have hcz58_5 := cz BK102.out 5); (have hcz58_6 := cz BK102.out 6); (have hfz58_0 := blk_frozen BK102.out 0); (have hfz58_1 := blk_frozen BK102.out 1); (have hfz58_2 := blk_frozen BK102.out 2); (have hfz58_3 := blk_frozen BK102.out 3); (have hfz58_4 := blk_frozen BK102.out 4); (have hfz58_5 := blk_frozen BK102.out 5); (have hfz58_6 := blk_frozen BK102.out 6); (go_wp2); go_ret; (exact Q7)
  ·rw [if_neg c4] at H
   exact Q3
 ·rw [if_neg c3] at H
  exact Q3
/-! ### spec_l23Good: function 31 -/
def spec_l23Good.l0 : Nat → List (S54) → Int → Option (Bool)
 | 0, _, _ => none
 | k + 1, x0, x3 => if x3 < (x0.length : Int) then ((spec_l23Field.f k x0 x3).bind fun t101 => (if t101 = true then (spec_l23Good.l0 k x0 (wrap64 (x3 + 1))) else (some false))) else (some true)
def spec_l23Good.f (k : Nat) (l0 : List (S54)) : Option (Bool) := if (l0.length : Int) > 10 then (some false) else (spec_l23Good.l0 k l0 0)
set_option maxHeartbeats 8000000 in
set_option maxRecDepth 100000 in
theorem spec_l23Good.calls (k : Nat) (A0 : Option Addr) (c0 : Nat) (l0 : List (S54)) (r : Bool) (w : World) (hr0 : Kd.C k54 w A0 l0.length l0) (hc0 : l0.length ≤ c0) (h : spec_l23Good.f k l0 = some r) :
  Calls Tryd.prog 31 #[.slice A0 l0.length c0] w fun e w' => e = .returned (.bool r) ∧ Below w.heap.size w w' := by
 (have HR0 := Aside0.mk hr0); (have HC0 := Aside0.mk hc0); clear hr0 hc0; (have HB := Aside0.mk (Below.refl w.heap.size w)); (unfold spec_l23Good.f at h); (have H := h); clear h; (by_cases c2 : (l0.length : Int) > 10); (· (rw [if_pos c2] at H); (have c2b0 : decide (10 < (l0.length : Int)) = true := decide_eq_true c2); (have c2b1 : decide (10 < l0.length) = true := decide_eq_true (by omega)); clear c2; (obtain rfl := Option.some.inj H); (go_enter Tryd.func31, Tryd.ntmps31); (go_wp2); go_ret; (exact Q7))
 ·rw [if_neg c2] at H
  (have c2b0 : decide (10 < (l0.length : Int)) = false := decide_eq_false c2); (have c2b1 : decide (10 < l0.length) = false := decide_eq_false (by omega)); clear c2; (have H' := Aside0.mk H); clear H; (go_enter Tryd.func31, Tryd.ntmps31); (go_wp2); (go_loopg [3] k (fun kq v3 w' => ∃ (x3_1 : Int), v3 = .int .i64 x3_1 ∧ Aside0 (spec_l23Good.l0 kq l0 x3_1 = some r) ∧ Aside0 (kq ≤ k) ∧ Aside0 (Below w.heap.size w w')))
  case atStart => exact Q12
  case round =>
   (clear H'); (try clear c2); (try clear c2b0); (try clear c2b1); (try clear p2); (obtain ⟨x3_1, rfl, HA, HK1, HB⟩ := hrel)
   cases gk with
   | zero => exact absurd HA.out (by simp [spec_l23Good.l0])
   | succ k1 =>
    (have H := HA.out); clear HA; (simp only [spec_l23Good.l0] at H); (by_cases c3 : x3_1 < (l0.length : Int))
    ·rw [if_pos c3] at H
     (have c3b0 := decide_eq_true c3); clear c3; (replace H := obS H); (obtain ⟨t101, A4, H⟩ := H); (by_cases c5 : t101 = true)
     ·subst c5
      (rw [if_pos rfl] at H); (have H' := Aside0.mk H); clear H; (go_wp2_with (first | ((with_reducible refine gate_callee (f := 56) rfl ?_); refine gL (some 15) Tryd.func56 #[.slice A0 l0.length c0, .int .i64 x3_1] ?_; (with_reducible refine (spec_l23Field.calls k1 _ _ l0 x3_1 true _ ?side1 ?side2 A4.out).mono ?_); (case side1 => exact Q4); (case side2 => exact HC0.out); rintro e w6 ⟨rfl, hb⟩; refine ⟨_, rfl, ?_⟩; have n0_ := Aside0.mk (sI hb HB); clear HB; have HB := n0_; clear n0_; (try clear hb); (try clear hb2); (try clear hk); (try clear hi)))); go_roundg k1
      case measure => have := HK1.out; omega
      case rel => exact ⟨(wrap64 (x3_1 + 1)), Q5, H', ⟨Q16⟩, ⟨eI HB⟩⟩
     ·replace c5 := Bool.eq_false_iff.mpr c5
      subst c5; (rw [if_neg (show ¬ (false = true) by decide)] at H); (obtain rfl := Option.some.inj H); (go_wp2_with (first | ((with_reducible refine gate_callee (f := 56) rfl ?_); refine gL (some 15) Tryd.func56 #[.slice A0 l0.length c0, .int .i64 x3_1] ?_; (with_reducible refine (spec_l23Field.calls k1 _ _ l0 x3_1 false _ ?side1 ?side2 A4.out).mono ?_); (case side1 => exact Q4); (case side2 => exact HC0.out); rintro e w7 ⟨rfl, hb⟩; refine ⟨_, rfl, ?_⟩; have n0_ := Aside0.mk (sI hb HB); clear HB; have HB := n0_; clear n0_; (try clear hb); (try clear hb2); (try clear hk); (try clear hi)))); go_ret; (exact Q7)
    ·rw [if_neg c3] at H
     (have c3b0 := decide_eq_false c3); clear c3; (obtain rfl := Option.some.inj H); (go_wp2); go_ret; (exact Q7)
/-! ### spec_IsValidForm: function 11 -/
def spec_IsValidForm.f (k : Nat) (l0 : List (S54)) : Option (Bool) := (spec_l23Good.f k l0).bind fun t101 => (some t101)
set_option maxHeartbeats 8000000 in
set_option maxRecDepth 100000 in
theorem spec_IsValidForm.calls (k : Nat) (A0 : Option Addr) (c0 : Nat) (l0 : List (S54)) (r : Bool) (w : World) (hr0 : Kd.C k54 w A0 l0.length l0) (hc0 : l0.length ≤ c0) (h : spec_IsValidForm.f k l0 = some r) :
  Calls Tryd.prog 11 #[.slice A0 l0.length c0] w fun e w' => e = .returned (.bool r) ∧ Below w.heap.size w w' := by
 (have HR0 := Aside0.mk hr0); (have HC0 := Aside0.mk hc0); clear hr0 hc0; (have HB := Aside0.mk (Below.refl w.heap.size w)); (unfold spec_IsValidForm.f at h); (have H := h); clear h; (replace H := obS H); (obtain ⟨t101, A2, H⟩ := H); (obtain rfl := Option.some.inj H); (go_enter Tryd.func11, Tryd.ntmps11); (go_wp2_with (first | ((with_reducible refine gate_callee (f := 31) rfl ?_); refine gL (some 4) Tryd.func31 #[.slice A0 l0.length c0] ?_; (with_reducible refine (spec_l23Good.calls k _ _ l0 t101 _ ?side1 ?side2 A2.out).mono ?_); (case side1 => exact cI HR0.out); (case side2 => exact HC0.out); rintro e w3 ⟨rfl, hb⟩; refine ⟨_, rfl, ?_⟩; have n0_ := Aside0.mk (sI hb HB); clear HB; have HB := n0_; clear n0_; (try clear hb); (try clear hb2); (try clear hk); (try clear hi)))); go_ret; (exact Q7)
/-! ### laws_vTexts: function 20 -/
def laws_vTexts.l0 : Nat → List ByteArray → List ByteArray → Int → Option (Bool)
 | 0, _, _, _ => none
 | k + 1, x0, x1, x5 => if x5 < (x0.length : Int) then (if 0 ≤ x5 then (if x5 < (x1.length : Int) then (if (rdOf ByteArray.empty x0 x5).toList = (rdOf ByteArray.empty x1 x5).toList then (laws_vTexts.l0 k x0 x1 (wrap64 (x5 + 1))) else (some false)) else (none)) else (none)) else (some true)
def laws_vTexts.f (k : Nat) (l0 : List ByteArray) (l1 : List ByteArray) : Option (Bool) := if (l0.length : Int) = (l1.length : Int) then (laws_vTexts.l0 k l0 l1 0) else (some false)
set_option maxHeartbeats 8000000 in
set_option maxRecDepth 100000 in
theorem laws_vTexts.calls (k : Nat) (A0 : Option Addr) (c0 : Nat) (l0 : List ByteArray) (A1 : Option Addr) (c1 : Nat) (l1 : List ByteArray) (r : Bool) (w : World) (hr0 : Kd.C Kd.string w A0 l0.length l0) (hc0 : l0.length ≤ c0) (hr1 : Kd.C Kd.string w A1 l1.length l1) (hc1 : l1.length ≤ c1) (h : laws_vTexts.f k l0 l1 = some r) :
  Calls Tryd.prog 20 #[.slice A0 l0.length c0, .slice A1 l1.length c1] w fun e w' => e = .returned (.bool r) ∧ Drawn0 w w' := by
 (have HR0 := Aside0.mk hr0); (have HC0 := Aside0.mk hc0); clear hr0 hc0; (have HR1 := Aside0.mk hr1); (have HC1 := Aside0.mk hc1); clear hr1 hc1; (unfold laws_vTexts.f at h); (have H := h); clear h; (by_cases c3 : (l0.length : Int) = (l1.length : Int))
 ·rw [if_pos c3] at H
  (have c3b0 : ((l0.length : Int) == (l1.length : Int)) = true := beq_iff_eq.mpr c3); (have c3b1 : ((l0.length : Int) != (l1.length : Int)) = false := bne_eq_false_iff_eq.mpr c3); (have c3b2 : (l0.length == l1.length) = true := Q30); clear c3; (have H' := Aside0.mk H); clear H; (go_enter Tryd.func20, Tryd.ntmps20); (go_wp2); (repeat (go_quiet (fail); try go_wp2)); (go_loopg [5] k (fun kq v5 w' => ∃ (x5_1 : Int), v5 = .int .i64 x5_1 ∧ Aside0 (laws_vTexts.l0 kq l0 l1 x5_1 = some r) ∧ Aside0 (kq ≤ k) ∧ Drawn0 w w'))
  case atStart => exact Q0
  case round =>
   (clear H'); (try clear c1); (try clear c2); (try clear p2); (try clear c3); (try clear c3b0); (try clear c3b1); (try clear c3b2); (obtain ⟨x5_1, rfl, HA, HK1, ⟨m1, rfl⟩⟩ := hrel)
   cases gk with
   | zero => exact absurd HA.out (by simp [laws_vTexts.l0])
   | succ k1 =>
    (have H := HA.out); clear HA; (simp only [laws_vTexts.l0] at H); (by_cases c4 : x5_1 < (l0.length : Int))
    ·rw [if_pos c4] at H
     (have c4b0 := decide_eq_true c4); clear c4; (by_cases c5 : 0 ≤ x5_1)
     ·rw [if_pos c5] at H
      (have c5b0 := decide_eq_true c5); clear c5; (by_cases c6 : x5_1 < (l1.length : Int))
      ·rw [if_pos c6] at H
       (have c6b0 := decide_eq_true c6); clear c6; (by_cases c7 : (rdOf ByteArray.empty l0 x5_1).toList = (rdOf ByteArray.empty l1 x5_1).toList)
       ·rw [if_pos c7] at H
        (have c7b0 : ((rdOf ByteArray.empty l0 x5_1).toList == (rdOf ByteArray.empty l1 x5_1).toList) = true := beq_iff_eq.mpr c7); (have c7b1 : ((rdOf ByteArray.empty l0 x5_1).toList != (rdOf ByteArray.empty l1 x5_1).toList) = false := bne_eq_false_iff_eq.mpr c7); clear c7; (have H' := Aside0.mk H); clear H; (have p101 : 0 ≤ (x5_1 : Int) := odt); (have q101 : x5_1 < (l0.length : Int) := odt); (obtain ⟨ad101, e101, hx101_0⟩ := Kd.at_string HR0.out x5_1 p101 q101); (cases e101); (replace p101 := eq_true p101); (replace q101 := eq_true q101); (have p102 : 0 ≤ (x5_1 : Int) := odt); (have q102 : x5_1 < (l1.length : Int) := odt); (obtain ⟨ad102, e102, hx102_0⟩ := Kd.at_string HR1.out x5_1 p102 q102); (cases e102); (replace p102 := eq_true p102); (replace q102 := eq_true q102); (go_wp2); (repeat (go_quiet (fail); try go_wp2)); go_roundg k1
        case measure => have := HK1.out; omega
        case rel => exact Q17
       ·rw [if_neg c7] at H
        (have c7b0 : ((rdOf ByteArray.empty l0 x5_1).toList == (rdOf ByteArray.empty l1 x5_1).toList) = false := beq_eq_false_iff_ne.mpr c7); (have c7b1 : ((rdOf ByteArray.empty l0 x5_1).toList != (rdOf ByteArray.empty l1 x5_1).toList) = true := bne_iff_ne.mpr c7); (obtain rfl := Option.some.inj H); (have p101 : 0 ≤ (x5_1 : Int) := odt); (have q101 : x5_1 < (l0.length : Int) := odt); (obtain ⟨ad101, e101, hx101_0⟩ := Kd.at_string HR0.out x5_1 p101 q101); (cases e101); (replace p101 := eq_true p101); (replace q101 := eq_true q101); (have p102 : 0 ≤ (x5_1 : Int) := odt); (have q102 : x5_1 < (l1.length : Int) := odt); (obtain ⟨ad102, e102, hx102_0⟩ := Kd.at_string HR1.out x5_1 p102 q102); (cases e102); (replace p102 := eq_true p102); (replace q102 := eq_true q102); (go_wp2); (repeat (go_quiet (fail); try go_wp2)); go_ret; (exact Q1)
      ·rw [if_neg c6] at H
       exact Q3
     ·rw [if_neg c5] at H
      exact Q3
    ·rw [if_neg c4] at H
     (have c4b0 := decide_eq_false c4); clear c4; (obtain rfl := Option.some.inj H); (go_wp2); (repeat (go_quiet (fail); try go_wp2)); go_ret; (exact Q1)
 ·rw [if_neg c3] at H
  (have c3b0 : ((l0.length : Int) == (l1.length : Int)) = false := beq_eq_false_iff_ne.mpr c3); (have c3b1 : ((l0.length : Int) != (l1.length : Int)) = true := bne_iff_ne.mpr c3); (have c3b2 : (l0.length == l1.length) = false := Q30); (obtain rfl := Option.some.inj H); (go_enter Tryd.func20, Tryd.ntmps20); (go_wp2); (repeat (go_quiet (fail); try go_wp2)); go_ret; (exact Q1)
end Go.Proofs.YtiaiohoadefgjaaDoor.X
