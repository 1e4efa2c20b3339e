/- For all items, boxes, capacities and numbers the law FnExactMoveItem answers true. No condition beyond what a reading tells.
This file (part 2 of 5) holds what the proof needs: plain functions with rounds and contracts written by programs of this work over the translation, and the lemmas. -/
import Derived.Test.YtdbhelhoaciodaaProg
import Derived.Below
import Derived.Deep.Draws
import Derived.Deep.AppendLies
import Derived.Maps.AppendAt
import Derived.OwnWalk
import Derived.Laws.BytesArg
import Derived.Laws.MakeOwn
import Derived.Laws.OwnMore
import Derived.Deep.OwnRows
import Derived.Tactics
import Derived.Lib.ConvBytes
import Derived.Laws.Slices
import Derived.WalkKit
import Derived.KernelRfl
import Derived.RowKit3
import Derived.Deep.LoopGhost
import Derived.Deep.QuietTactic
import Derived.BigQuiet
import Derived.WideLaws
import Derived.Deep.DeepCutAuto
import Derived.Deep.CutBlock
import Derived.Deep.RegionHeld3
import Derived.Laws.Rows
import Derived.Lib.AppendStr
import Derived.ArgAppend
import Derived.Laws.IdiomCopy
import Derived.OrdersHeld
import Derived.Laws.BitsLemmas
import Derived.RowKit
import Derived.Test.YtdbhelhoaciodaaZFnExactMoveItem1
import Derived.IntWalk
namespace Go.Proofs.Ytdbhelhoaciodaa.X
open Go.RowKit Go.Proofs.YtdbhelhoaciodaaW.PrintWords Go.Proofs.YtdbhelhoaciodaaW.PrintLast Go.Proofs.YtdbhelhoaciodaaW.PrintMore
attribute [local go_sem] max2_int min2_int max_two min_two max_three min_three max_four min_four
set_option linter.unusedVariables false
set_option linter.unusedSimpArgs false
attribute [-simp] ByteArray.size_append ByteArray.size_extract
attribute [-go_sem] ByteArray.size_append'
def errW : Option Int → Value
 | none => .nilIface
 | some c => .iface 0 (.int .i64 c)
theorem errW_none : errW none = .nilIface := rfl
theorem errW_some (c : Int) : errW (some c) = .iface 0 (.int .i64 c) := rfl
theorem aS1 {α : Type} (l : List α) (i : Nat) (a : α) : l.toArray.setIfInBounds i a = (l.set i a).toArray := List.setIfInBounds_toArray l i a
theorem aS2 {α : Type} {x : α} {xs : List α} {a : α} : (x :: xs).set 0 a = a :: xs := List.set_cons_zero
theorem aS3 {α : Type} {x : α} {xs : List α} {i : Nat} {a : α} : (x :: xs).set (i + 1) a = x :: xs.set i a := List.set_cons_succ
theorem aM1 {α β : Type} {f : α → β} {l : List α} : Array.map f l.toArray = (List.map f l).toArray := List.map_toArray
theorem aM2 {α β : Type} {f : α → β} {a : α} {l : List α} : List.map f (a :: l) = f a :: List.map f l := List.map_cons
theorem aM3 {α β : Type} {f : α → β} : List.map f [] = [] := List.map_nil
theorem bltc (w : World) (a : Addr) {u : Value} (h : w.cell? a = some u) : a.block < w.heap.size := World.block_lt_of_cell? w a h
theorem cz {w : World} {g : Nat} {t : TypeId} {cs : Array Value} (h : w.heap[g]? = some (.cells cs t (0, 0))) (i : Nat) {v : Value} (hv : cs[i]? = some v := by rfl) : w.cell? ⟨g, i, none⟩ = some v := (blk_cell h i).trans hv
theorem gL {P : Program} {ops : Array Oper} {Q : Exit → Act → World → Prop} {rest : List Oper} {oi : Oper} {a : Act} {w : World} (N : Option Tmp) {f : FuncId} {fn : Func} {as_ : Array Operand} {ts : Array TypeId} (hf : P.funcs[f]? = some fn) (args : Array Value) (h : Calls P f args w fun e w' => ∃ v, e = .returned v ∧ wpList P ops Q rest (a.put N v) w')
  (hd : oi.dst = N := by rfl) (hg : oi.guard = none := by rfl) (hname : (fn.name == "runtime.NumGoroutine") = false := by kernel_rfl) (hb : fn.body.isSome = true := by rfl) (hop : oi.op = .call { callee := .value (.func f), args := as_, argTypes := ts } := by rfl) (hargs : as_.map a.eval = args := by ((try simp only [aM1, aM2, aM3]); first | done | rfl | (simp only [List.length_drop, List.length_take]; rfl))) : wpList P ops Q (oi :: rest) a w := goesL_ N hd hg hf hname hb args hop hargs h
theorem bz {b : Nat} {w W w' : World} (h : Below b w W) (_ : Below W.heap.size W w') : Below b w W := h
abbrev cA := @Kd.C_alloc
abbrev cN := @Kd.C_drewN
abbrev cD := @Kd.C_drew
abbrev rA := @Kd.R_alloc
abbrev rN := @Kd.R_drewN
abbrev rD := @Kd.R_drew
abbrev bA := @below_alloc
abbrev bN := @pw_below_drewN
abbrev bD := @below_drew1
abbrev kN := @blk_drewN
abbrev kD := @blk_drew
abbrev kA := @blk_alloc
def cb (n m : Nat) : Array Bool := ((List.range n).map (fun i => m.testBit i)).toArray
def cn (n i : Nat) : Array Bool := (List.replicate i true ++ List.replicate (n - i) false).toArray
theorem pA (i : Nat) (l' : Array Bool) (N : Option Tmp) {P : Program} {md : Region.Mode} {ops : Array Oper} {Q : Exit → Act → World → Prop} {S : World → Prop} {ds : List Nat} {T : Bool × List (List Nat × List Nat)} (HT : Aside0 (rtab md ops = T)) {oi : Oper} {v : Value} {fuel : Nat} {l : Array Bool} {a : Act} {w : World} (hi : ops[i]? = some oi) (hN : oi.dst = N) (hc : anyT T l.toList l'.toList i = true) (hQ : ∀ c a w, Q (.panic c) (a.put oi.dst v) w → Q (.panic c) a w) (hy : Yields P ops oi v a) {a' : Act} (ha : a.put N v = a') (h : wpAnyLast P md ops Q S ds fuel l' a' w) : wpAnyLast P md ops Q S ds (fuel + 1) l a w := pure_ (i := i) (N := N) l' hi hN (any_of HT.out hc) hQ hy ha h
theorem tA (i : Nat) (l' : Array Bool) (N : Option Tmp) {P : Program} {md : Region.Mode} {ops : Array Oper} {Q : Exit → Act → World → Prop} {S : World → Prop} {ds : List Nat} {T : Bool × List (List Nat × List Nat)} {B : List Nat} (HT : Aside0 (rtab md ops = T)) (HW : Aside0 (waitsOk T.2 B = true)) {oi : Oper} {v : Value} {fuel : Nat} {l : Array Bool} {a : Act} {w : World} (hi : ops[i]? = some oi) (hN : oi.dst = N) (hc : takeW T B ds l.toList l'.toList i = true) (hQ : ∀ c a w, Q (.panic c) (a.put oi.dst v) w → Q (.panic c) a w) (hy : YieldsIf P ops S oi v a) (hS : S w) {a' : Act} (ha : a.put N v = a') (h : wpAnyLast P md ops Q S ds fuel l' a' w) : wpAnyLast P md ops Q S ds (fuel + 1) l a w := take_ (i := i) (N := N) l' hi hN (take_ofW HT.out HW.out hc) hQ hy hS ha h
theorem pB (i : Nat) (l' : Array Bool) (N : Option Tmp) {P : Program} {md : Region.Mode} {ops : Array Oper} {Q : Exit → Act → World → Prop} {S : World → Prop} {ds : List Nat} {T : Bool × List (List Nat × List Nat)} (HT : Aside0 (rtab md ops = T)) {oi : Oper} {v : Value} {fuel : Nat} {l : Array Bool} {a a' : Act} {w : World}
  (hi : ops[i]? = some oi := by rfl) (hN : oi.dst = N := by rfl) (hc : anyT T l.toList l'.toList i = true := by kernel_rfl) (hQ : ∀ c a w, Q (.panic c) (a.put oi.dst v) w → Q (.panic c) a w := by exact fun _ _ _ h => h)
  (hw : Region.wanted oi (yielded ops a.tmps) = true := by rfl) (hy : ∀ w', (execOp a.eval oi).run P w' = .ok (.value v) w' := by (intro w'; go_simp; with_reducible rfl)) (ha : a.put N v = a' := by (simp only [Act.put, aS1, aS2, aS3, i64_w, i32_w]; rfl))
  (h : wpAnyLast P md ops Q S ds fuel l' a' w) : wpAnyLast P md ops Q S ds (fuel + 1) l a w := pA i l' N HT hi hN hc hQ (Or.inl ⟨hw, hy⟩) ha h
theorem tB (i : Nat) (l' : Array Bool) (N : Option Tmp) {P : Program} {md : Region.Mode} {ops : Array Oper} {Q : Exit → Act → World → Prop} {S : World → Prop} {ds : List Nat} {T : Bool × List (List Nat × List Nat)} {B : List Nat} (HT : Aside0 (rtab md ops = T)) (HW : Aside0 (waitsOk T.2 B = true)) {oi : Oper} {v : Value} {fuel : Nat} {l : Array Bool} {a a' : Act} {w : World} (hS : S w)
  (hi : ops[i]? = some oi := by rfl) (hN : oi.dst = N := by rfl) (hc : takeW T B ds l.toList l'.toList i = true := by kernel_rfl) (hQ : ∀ c a w, Q (.panic c) (a.put oi.dst v) w → Q (.panic c) a w := by exact fun _ _ _ h => h)
  (hw : Region.wanted oi (yielded ops a.tmps) = true := by rfl) (hy : ∀ w', S w' → (execOp a.eval oi).run P w' = .ok (.value v) w' := by (intro w'; (try simp only [and_imp]); intros; go_simp; with_reducible rfl)) (ha : a.put N v = a' := by (simp only [Act.put, aS1, aS2, aS3, i64_w, i32_w]; rfl))
  (h : wpAnyLast P md ops Q S ds fuel l' a' w) : wpAnyLast P md ops Q S ds (fuel + 1) l a w := tA i l' N HT HW hi hN hc hQ (Or.inl ⟨hw, hy⟩) hS ha h
theorem pU (i : Nat) (l' : Array Bool) (N : Option Tmp) {P : Program} {md : Region.Mode} {ops : Array Oper} {Q : Exit → Act → World → Prop} {S : World → Prop} {ds : List Nat} {T : Bool × List (List Nat × List Nat)} (HT : Aside0 (rtab md ops = T)) {oi : Oper} {fuel : Nat} {l : Array Bool} {a a' : Act} {w : World}
  (hi : ops[i]? = some oi := by rfl) (hN : oi.dst = N := by rfl) (hc : anyT T l.toList l'.toList i = true := by kernel_rfl) (hQ : ∀ c a w, Q (.panic c) (a.put oi.dst undef) w → Q (.panic c) a w := by exact fun _ _ _ h => h)
  (hw : Region.wanted oi (yielded ops a.tmps) = false := by rfl) (ha : a.put N undef = a' := by (simp only [Act.put, aS1, aS2, aS3, i64_w, i32_w]; rfl))
  (h : wpAnyLast P md ops Q S ds fuel l' a' w) : wpAnyLast P md ops Q S ds (fuel + 1) l a w := pA i l' N HT (v := undef) hi hN hc hQ (Or.inr ⟨hw, rfl⟩) ha h
theorem dN2 (w : World) (n m : Nat) : (w.drewN n).drewN m = w.drewN (n + m) := World.drewN_drewN w n m
theorem dN3 (w : World) (a b c : Nat) : (w.drewN (a + b)).drewN c = w.drewN (a + (b + c)) := Eq.trans (World.drewN_drewN _ _ _) (congrArg (World.drewN _) (Nat.add_assoc _ _ _))
class Lat (W W' : World) : Prop where out : Below W.heap.size W W'
instance (W : World) : Lat W W := ⟨Below.refl _ _⟩
instance (W W' : World) (o : Obj) [h : Lat W W'] : Lat W (W'.alloc o) := ⟨below_alloc h.out o⟩
instance (W W' : World) [h : Lat W W'] : Lat W W'.drew := ⟨below_drew1 h.out⟩
instance (W W' : World) (n : Nat) [h : Lat W W'] : Lat W (W'.drewN n) := ⟨pw_below_drewN h.out n⟩
theorem eI {w W W' : World} (h : Aside0 (Below w.heap.size w W)) [k : Lat W W'] : Below w.heap.size w W' := below_step h.out k.out
theorem kI {W W' : World} {g : Nat} {o : Obj} (h : Aside0 (W.heap[g]? = some o)) [k : Lat W W'] : W'.heap[g]? = some o := blk_below h.out k.out
theorem cI {α : Type} {d : Kd α} {W W' : World} {A : Option Addr} {n : Nat} {xs : List α} (h : d.C W A n xs) [k : Lat W W'] : d.C W' A n xs := Kd.C_below h k.out
theorem rI {α : Type} {d : Kd α} {e : Nat} {W W' : World} {base : Nat} {ok : Nat → Prop} {v : Value} {xs : List α} (h : Aside0 (d.R e W base ok v xs)) [k : Lat W W'] : d.R e W' base ok v xs := Kd.R_below h.out k.out
theorem zI {w W W' W2 : World} (hb : Below W'.heap.size W' W2) (h : Aside0 (Below w.heap.size w W)) [k : Lat W W'] : Below w.heap.size w W' := below_step h.out k.out
theorem sI {w W W' W2 : World} (hb : Below W'.heap.size W' W2) (h : Aside0 (Below w.heap.size w W)) [k : Lat W W'] : Below w.heap.size w W2 := below_step (below_step h.out k.out) hb
theorem kbI {W W' W2 : World} (hb : Below W'.heap.size W' W2) {g : Nat} {o : Obj} (h : Aside0 (W.heap[g]? = some o)) [k : Lat W W'] : W2.heap[g]? = some o := blk_below (blk_below h.out k.out) hb
theorem rbI {α : Type} {d : Kd α} {e : Nat} {W W' W2 : World} (hb : Below W'.heap.size W' W2) {base : Nat} {ok : Nat → Prop} {v : Value} {xs : List α} (h : Aside0 (d.R e W base ok v xs)) [k : Lat W W'] : d.R e W2 base ok v xs := Kd.R_below (Kd.R_below h.out k.out) hb
theorem hcI {w W : World} {a : Addr} {v : Value} (h : Aside0 (Below w.heap.size w W)) (hx : w.cell? a = some v) : W.cell? a = some v := (h.out.cell (bltc w _ hx)).trans hx
theorem odt {p : Prop} [Decidable p] (h : decide p = true := by first | (with_reducible assumption) | assumption) : p := of_decide_eq_true h
theorem obS {α β : Type} {o : Option α} {f : α → Option β} {r : β} (h : o.bind f = some r) : ∃ a, Aside0 (o = some a) ∧ f a = some r := by
 obtain ⟨a, h1, h2⟩ := Option.bind_eq_some_iff.mp h
 exact ⟨a, ⟨h1⟩, h2⟩
theorem oN (i : Nat) (N : Option Tmp) (l' : Array Bool) {P : Program} {md : Region.Mode} {ops : Array Oper} {Q : Exit → Act → World → Prop} {S : World → Prop} {ds : List Nat} {T : Bool × List (List Nat × List Nat)} (HT : Aside0 (rtab md ops = T)) {oi : Oper} {fuel : Nat} {l : Array Bool} {a : Act} {w : World}
  (h : ∀ K : Act → World → Prop, Shut (∀ a' w', S w' → (S w' → wpAnyLast P md ops Q S ds fuel l' a' w') → K a' w') → if Region.wanted oi (yielded ops a.tmps) = true then Oper.wp P oi a w K Q else K (a.put N undef) w)
  (hi : ops[i]? = some oi := by rfl) (hN : oi.dst = N := by rfl) (hc : (readyT T.2 l.toList == [i] && l.toList.set i true == l'.toList) = true := by kernel_rfl) (hd : i ∉ ds := by decide) : wpAnyLast P md ops Q S ds (fuel + 1) l a w := one_ l' hi hN (one_of HT.out hc) hd h
theorem nP (N : Option Tmp) {P : Program} {md : Region.Mode} {ops : Array Oper} {Q : Exit → Act → World → Prop} {S : World → Prop} {ds : List Nat} {fuel : Nat} {l : Array Bool} {a a' : Act} {v : Value} {w : World} (h : wpAnyLast P md ops Q S ds fuel l a' w) (ha : a.put N v = a' := by (simp only [Act.put, aS1, aS2, aS3, i64_w, i32_w]; rfl)) : wpAnyLast P md ops Q S ds fuel l (a.put N v) w := norm_ ha h
theorem gG {P : Program} {ops : Array Oper} {Q : Exit → Act → World → Prop} {f : FuncId} {fn : Func} (hf : P.funcs[f]? = some fn) (args : Array Value) {oi : Oper} {N : Option Tmp} {a : Act} {w : World} {K : Act → World → Prop} {as_ : Array Operand} {ts : Array TypeId}
  (h : Calls P f args w fun e w' => ∃ v, e = .returned v ∧ K (a.put N v) w') (hname : (fn.name == "runtime.NumGoroutine") = false := by kernel_rfl) (hb : fn.body.isSome = true := by rfl)
  (hw : Region.wanted oi (yielded ops a.tmps) = true := by rfl) (hN : oi.dst = N := by rfl) (hop : oi.op = .call { callee := .value (.func f), args := as_, argTypes := ts } := by rfl) (hargs : as_.map a.eval = args := by ((try simp only [aM1, aM2, aM3]); first | done | rfl | (simp only [List.length_drop, List.length_take]; rfl))) : if Region.wanted oi (yielded ops a.tmps) = true then Oper.wp P oi a w K Q else K (a.put N undef) w := goes_ hf hname hb args hw hN hop hargs h
theorem bx0 {w W : World} {gb : Nat} (hg : gb = W.heap.size) (hB : Below w.heap.size w W) : w.heap.size ≤ gb := by rw [hg]; exact below_size hB
theorem info3 : (Try.prog.info? 3).map (fun i => (i.zero, i.size, i.bytes)) = some (some (.int .i64 0), 1, 8) := by kernel_rfl
theorem info4 : (Try.prog.info? 4).map (fun i => (i.zero, i.size, i.bytes)) = some (some (.bool false), 1, 1) := by kernel_rfl
theorem info80 : (Try.prog.info? 80).map (fun i => (i.zero, i.size, i.bytes)) = some (some (.agg #[(.int .i64 0), (.slice none 0 0)]), 2, 32) := by kernel_rfl
theorem info83 : (Try.prog.info? 83).map (fun i => (i.zero, i.size, i.bytes)) = some (some (.agg #[(.int .i64 0), (.int .i64 0), (.int .i64 0)]), 3, 24) := by kernel_rfl
structure S85 where
 f0 : Int
 f1 : Int
 f2 : Int
def z85 : S85 := ⟨(0 : Int), (0 : Int), (0 : Int)⟩
def k85 : Kd S85 := Kd.iso (Kd.pair (Kd.int .i64) (Kd.pair (Kd.int .i64) (Kd.int .i64))) (fun x : S85 => (x.f0, x.f1, x.f2))
theorem k85_open {w : World} {x : S85} {cs : List Value} (h : k85.K w x cs) : cs = [.int .i64 x.f0, .int .i64 x.f1, .int .i64 x.f2] := by
 obtain ⟨_, _, rfl, rfl, ⟨_, _, rfl, rfl, rfl⟩⟩ := h
 exact rfl
def rd_T85 (xs : List S85) (i : Int) : S85 := xs.getD i.toNat z85
theorem at_T85 {w : World} {A : Option Addr} {n : Nat} {xs : List S85} (h : Kd.C k85 w A n xs) (i : Int) (h0 : 0 ≤ i) (h1 : i < n) : ∃ ad , A = some ad ∧ w.cell? (ad.add (i.toNat * 3)) = some (.int .i64 (rd_T85 xs i).f0) ∧ w.cell? ⟨(ad.add (i.toNat * 3)).block, (ad.add (i.toNat * 3)).off + 1, none⟩ = some (.int .i64 (rd_T85 xs i).f1) ∧ w.cell? ⟨(ad.add (i.toNat * 3)).block, (ad.add (i.toNat * 3)).off + 2, none⟩ = some (.int .i64 (rd_T85 xs i).f2) := by
 obtain ⟨ad, c, e, _, hK, hc0⟩ := Kd.C_get h z85 i h0 h1
 have hc : ∀ j u, c[j]? = some u → w.cell? (ad.add (i.toNat * 3 + j)) = some u := hc0
 obtain rfl := k85_open hK
 exact ⟨ad, e, hc 0 _ rfl, by rw [← add_field _ _ 1 (by omega)]; exact hc 1 _ rfl, by rw [← add_field _ _ 2 (by omega)]; exact hc 2 _ rfl⟩
structure S78 where
 f0 : Int
 f1 : (List Int)
def z78 : S78 := ⟨(0 : Int), ([] : List Int)⟩
def k78 : Kd S78 := Kd.iso (Kd.pair (Kd.int .i64) (Kd.slice 3 (Kd.int .i64))) (fun x : S78 => (x.f0, x.f1))
theorem k78_open {w : World} {x : S78} {cs : List Value} (h : k78.K w x cs) : ∃ A1 c1, cs = [.int .i64 x.f0, .slice A1 x.f1.length c1] ∧ x.f1.length ≤ c1 ∧ (Kd.int .i64).C w A1 x.f1.length x.f1 := by
 obtain ⟨_, _, rfl, rfl, ⟨A1, c1, rfl, l1, g1⟩⟩ := h
 exact ⟨A1, c1, rfl, l1, g1⟩
def rd_T78 (xs : List S78) (i : Int) : S78 := xs.getD i.toNat z78
theorem at_T78 {w : World} {A : Option Addr} {n : Nat} {xs : List S78} (h : Kd.C k78 w A n xs) (i : Int) (h0 : 0 ≤ i) (h1 : i < n) : ∃ ad A1 c1, A = some ad ∧ w.cell? (ad.add (i.toNat * 2)) = some (.int .i64 (rd_T78 xs i).f0) ∧ w.cell? ⟨(ad.add (i.toNat * 2)).block, (ad.add (i.toNat * 2)).off + 1, none⟩ = some (.slice A1 (rd_T78 xs i).f1.length c1) ∧ (rd_T78 xs i).f1.length ≤ c1 ∧ (Kd.int .i64).C w A1 (rd_T78 xs i).f1.length (rd_T78 xs i).f1 := by
 obtain ⟨ad, c, e, _, hK, hc0⟩ := Kd.C_get h z78 i h0 h1
 have hc : ∀ j u, c[j]? = some u → w.cell? (ad.add (i.toNat * 2 + j)) = some u := hc0
 obtain ⟨A1, c1, rfl, l1, g1⟩ := k78_open hK
 exact ⟨ad, A1, c1, e, hc 0 _ rfl, by rw [← add_field _ _ 1 (by omega)]; exact hc 1 _ rfl, l1, g1⟩
structure S83 where
 f0 : Int
 f1 : Int
 f2 : Int
def z83 : S83 := ⟨(0 : Int), (0 : Int), (0 : Int)⟩
def k83 : Kd S83 := Kd.iso (Kd.pair (Kd.int .i64) (Kd.pair (Kd.int .i64) (Kd.int .i64))) (fun x : S83 => (x.f0, x.f1, x.f2))
theorem k83_open {w : World} {x : S83} {cs : List Value} (h : k83.K w x cs) : cs = [.int .i64 x.f0, .int .i64 x.f1, .int .i64 x.f2] := by
 obtain ⟨_, _, rfl, rfl, ⟨_, _, rfl, rfl, rfl⟩⟩ := h
 exact rfl
theorem k83_openM {w : World} {base : Nat} {ok : Nat → Prop} {x : S83} {cs : List Value} (h : k83.M w base ok x cs) : cs = [.int .i64 x.f0, .int .i64 x.f1, .int .i64 x.f2] := by
 obtain ⟨_, _, rfl, rfl, ⟨_, _, rfl, rfl, rfl⟩⟩ := h
 exact rfl
theorem k83_mkM (w : World) (base : Nat) (ok : Nat → Prop) (x : S83)  : k83.M w base ok x [.int .i64 x.f0, .int .i64 x.f1, .int .i64 x.f2] := ⟨[.int .i64 x.f0], [.int .i64 x.f1, .int .i64 x.f2], rfl, rfl, ⟨[.int .i64 x.f1], [.int .i64 x.f2], rfl, rfl, rfl⟩⟩
def rd_T83 (xs : List S83) (i : Int) : S83 := xs.getD i.toNat z83
theorem at_T83 {w : World} {A : Option Addr} {n : Nat} {xs : List S83} (h : Kd.C k83 w A n xs) (i : Int) (h0 : 0 ≤ i) (h1 : i < n) : ∃ ad , A = some ad ∧ w.cell? (ad.add (i.toNat * 3)) = some (.int .i64 (rd_T83 xs i).f0) ∧ w.cell? ⟨(ad.add (i.toNat * 3)).block, (ad.add (i.toNat * 3)).off + 1, none⟩ = some (.int .i64 (rd_T83 xs i).f1) ∧ w.cell? ⟨(ad.add (i.toNat * 3)).block, (ad.add (i.toNat * 3)).off + 2, none⟩ = some (.int .i64 (rd_T83 xs i).f2) := by
 obtain ⟨ad, c, e, _, hK, hc0⟩ := Kd.C_get h z83 i h0 h1
 have hc : ∀ j u, c[j]? = some u → w.cell? (ad.add (i.toNat * 3 + j)) = some u := hc0
 obtain rfl := k83_open hK
 exact ⟨ad, e, hc 0 _ rfl, by rw [← add_field _ _ 1 (by omega)]; exact hc 1 _ rfl, by rw [← add_field _ _ 2 (by omega)]; exact hc 2 _ rfl⟩
structure S80 where
 f0 : Int
 f1 : (List Int)
def z80 : S80 := ⟨(0 : Int), ([] : List Int)⟩
def k80 : Kd S80 := Kd.iso (Kd.pair (Kd.int .i64) (Kd.slice 3 (Kd.int .i64))) (fun x : S80 => (x.f0, x.f1))
theorem k80_open {w : World} {x : S80} {cs : List Value} (h : k80.K w x cs) : ∃ A1 c1, cs = [.int .i64 x.f0, .slice A1 x.f1.length c1] ∧ x.f1.length ≤ c1 ∧ (Kd.int .i64).C w A1 x.f1.length x.f1 := by
 obtain ⟨_, _, rfl, rfl, ⟨A1, c1, rfl, l1, g1⟩⟩ := h
 exact ⟨A1, c1, rfl, l1, g1⟩
theorem k80_openM {w : World} {base : Nat} {ok : Nat → Prop} {x : S80} {cs : List Value} (h : k80.M w base ok x cs) : ∃ v1, cs = [.int .i64 x.f0, v1] ∧ (Kd.int .i64).R 3 w base ok v1 x.f1 := by
 obtain ⟨_, _, rfl, rfl, ⟨v1, rfl, g1⟩⟩ := h
 exact ⟨v1, rfl, g1⟩
theorem k80_mkM (w : World) (base : Nat) (ok : Nat → Prop) (x : S80) {v1 : Value} (g1 : (Kd.int .i64).R 3 w base ok v1 x.f1) : k80.M w base ok x [.int .i64 x.f0, v1] := ⟨[.int .i64 x.f0], [v1], rfl, rfl, ⟨v1, rfl, g1⟩⟩
def rd_T80 (xs : List S80) (i : Int) : S80 := xs.getD i.toNat z80
theorem at_T80 {w : World} {A : Option Addr} {n : Nat} {xs : List S80} (h : Kd.C k80 w A n xs) (i : Int) (h0 : 0 ≤ i) (h1 : i < n) : ∃ ad A1 c1, A = some ad ∧ w.cell? (ad.add (i.toNat * 2)) = some (.int .i64 (rd_T80 xs i).f0) ∧ w.cell? ⟨(ad.add (i.toNat * 2)).block, (ad.add (i.toNat * 2)).off + 1, none⟩ = some (.slice A1 (rd_T80 xs i).f1.length c1) ∧ (rd_T80 xs i).f1.length ≤ c1 ∧ (Kd.int .i64).C w A1 (rd_T80 xs i).f1.length (rd_T80 xs i).f1 := by
 obtain ⟨ad, c, e, _, hK, hc0⟩ := Kd.C_get h z80 i h0 h1
 have hc : ∀ j u, c[j]? = some u → w.cell? (ad.add (i.toNat * 2 + j)) = some u := hc0
 obtain ⟨A1, c1, rfl, l1, g1⟩ := k80_open hK
 exact ⟨ad, A1, c1, e, hc 0 _ rfl, by rw [← add_field _ _ 1 (by omega)]; exact hc 1 _ rfl, l1, g1⟩
structure S142 where
 f0 : Int
 f1 : Int
structure S146 where
 f0 : Int
 f1 : Int
structure S48 where
 f0 : (List S142)
 f1 : (List S146)
structure S51 where
 f0 : Int
 f1 : ByteArray
 f2 : (List Int)
def z51 : S51 := ⟨(0 : Int), (⟨#[]⟩ : ByteArray), ([] : List Int)⟩
structure S140 where
 f0 : Int
 f1 : Int
structure S144 where
 f0 : Int
 f1 : Int
structure S61 where
 f0 : (List S140)
 f1 : (List S144)
structure S64 where
 f0 : Int
 f1 : ByteArray
 f2 : (List Int)
section
variable {P : Prop}
theorem Q0 (h : P := by rw [hg]; exact Q151) : P := h
theorem Q1 (h : P := by first | rfl | (simp [errW_none, errW_some] <;> rfl) | (simp [*, errW_none, errW_some] <;> rfl)) : P := h
theorem Q2 (h : P := by repeat (first | (with_reducible first | exact HB.out | apply bA | apply bN | apply bD | refine below_set ?_ GE101.out | refine below_set ?_ GE102.out | refine below_set ?_ GE103.out) | exact HB.out)) : P := h
theorem Q3 (h : P := by first | (rw [hy101]; with_reducible exact H) | (have H2_ := (Option.bind_some _ _).symm.trans H; rw [hy101]; with_reducible exact H2_) | (have H2_ := (Option.bind_some _ _).symm.trans H; with_reducible exact H2_) | with_reducible exact H | (rw [hy101]; exact H) | exact H) : P := h
theorem Q4 (h : P := by exact ⟨(y101), (0), Q6, H', ⟨Nat.le_refl _⟩, ⟨rI HO103⟩, ⟨eI HB⟩⟩) : P := h
theorem Q5 (h : P := by have h_ : (x4_1 : Int) < ((x3_1.length : Int) : Int) := odt; first | exact h_ | (have e_ := (Kd.R_reads' HO_3.out).1; omega) | simpa using h_) : P := h
theorem Q6 (h : P := by first | rfl | (simp; done) | (simp [*]; done)) : P := h
theorem Q7 (h : P := by have := HK1.out; omega) : P := h
theorem Q8 (h : P := by exact absurd H (by simp)) : P := h
theorem Q9 (h : P := by exact ⟨_, Q1, rI HO_3, eI HB⟩) : P := h
theorem Q10 (h : P := by repeat (first | (with_reducible first | exact HB.out | apply bA | apply bN | apply bD) | exact HB.out)) : P := h
theorem Q11 (h : P := by rw [hg]; exact Q152) : P := h
theorem Q12 (h : P := by (with_reducible repeat (first | refine kN ?_ _ | refine kD ?_ | refine kA ?_ _)); exact BK101.out) : P := h
theorem Q13 (h : P := by rw [hg]; exact Q153) : P := h
theorem Q14 (h : P := by (with_reducible repeat (first | refine kN ?_ _ | refine kD ?_ | refine kA ?_ _)); exact BK102.out) : P := h
theorem Q15 (h : P := by (with_reducible repeat (first | apply Kd.S_alloc | apply Kd.S_drewN | apply Kd.S_drew)); exact HO103.out) : P := h
theorem Q16 (h : P := by (with_reducible repeat (first | apply Kd.S_alloc | apply Kd.S_drewN | apply Kd.S_drew)); exact HO_3.out) : P := h
theorem Q17 (h : P := by have h_ : (x4_1 : Int) < ((x3_1.length : Int) : Int) := odt; first | exact h_ | (have e_ := (Kd.S_reads' HO_3.out).1; omega) | simpa using h_) : P := h
theorem Q18 (h : P := by exact ⟨rfl, eI HB⟩) : P := h
theorem Q19 (h : P := by exact absurd ht_.out (by decide)) : P := h
theorem Q20 (h : P := by first | simpa using c3 | (simp at c3 ⊢; omega)) : P := h
theorem Q21 (h : P := by exact ⟨(0), Q6, H', ⟨Nat.le_refl _⟩, ⟨eI HB⟩⟩) : P := h
theorem Q22 (h : P := by exact ⟨(wrap64 (x5_1 + 1)), Q6, H', ⟨Q7⟩, ⟨eI HB⟩⟩) : P := h
theorem Q23 (h : P := by exact ⟨(0), Q6, H', ⟨Nat.le_refl _⟩, Q81⟩) : P := h
theorem Q24 (h : P := by exact ⟨(wrap64 (x5_1 + 1)), Q6, H', ⟨Q7⟩, Q81⟩) : P := h
theorem Q25 (h : P := by exact ⟨Q6, Q81⟩) : P := h
theorem Q26 (h : P := by exact Kd.C_below HR0_1.out (eI HB)) : P := h
theorem Q27 (h : P := by exact Kd.C_below HR101_1.out (eI HB)) : P := h
theorem Q28 (h : P := by exact HC101_1.out) : P := h
theorem Q29 (h : P := by exact ⟨(l0), (a1), (0), Q6, Q6, H', ⟨Nat.le_refl _⟩, ⟨rI HO0⟩, ⟨Q33⟩, ⟨eI HB⟩⟩) : P := h
theorem Q30 (h : P := by first | (rw [hy103]; with_reducible exact H) | (have H2_ := (Option.bind_some _ _).symm.trans H; rw [hy103]; with_reducible exact H2_) | (have H2_ := (Option.bind_some _ _).symm.trans H; with_reducible exact H2_) | with_reducible exact H | (rw [hy103]; exact H) | exact H) : P := h
theorem Q31 (h : P := by have h_ : (x5_1 : Int) < ((x0_1.length : Int) : Int) := odt; first | exact h_ | (have e_ := (Kd.R_reads' HO_0.out).1; omega) | simpa using h_) : P := h
theorem Q32 (h : P := by rw [hw]; exact Q154) : P := h
theorem Q33 (h : P := by repeat (first | (with_reducible first | exact HK.out | apply Kept.alloc | apply Kept.drewN | apply Kept.drew) | exact HK.out)) : P := h
theorem Q34 (h : P := by exact ⟨rfl, rI HO_0, eI HB, Q33⟩) : P := h
theorem Q35 (h : P := by first | (with_reducible assumption) | assumption) : P := h
theorem Q36 (h : P := by (with_reducible repeat (first | apply rA | apply rN | apply rD)); exact HO_0.out) : P := h
theorem Q37 (h : P := by injection e102) : P := h
theorem Q38 (h : P := by first | (rw [hy106]; with_reducible exact H) | (have H2_ := (Option.bind_some _ _).symm.trans H; rw [hy106]; with_reducible exact H2_) | (have H2_ := (Option.bind_some _ _).symm.trans H; with_reducible exact H2_) | with_reducible exact H | (rw [hy106]; exact H) | exact H) : P := h
theorem Q39 (h : P := by first | (rw [hy110]; with_reducible exact H) | (have H2_ := (Option.bind_some _ _).symm.trans H; rw [hy110]; with_reducible exact H2_) | (have H2_ := (Option.bind_some _ _).symm.trans H; with_reducible exact H2_) | with_reducible exact H | (rw [hy110]; exact H) | exact H) : P := h
theorem Q40 (h : P := by first | (rw [hy113]; with_reducible exact H) | (have H2_ := (Option.bind_some _ _).symm.trans H; rw [hy113]; with_reducible exact H2_) | (have H2_ := (Option.bind_some _ _).symm.trans H; with_reducible exact H2_) | with_reducible exact H | (rw [hy113]; exact H) | exact H) : P := h
theorem Q41 (h : P := by first | (rw [hy119]; with_reducible exact H) | (have H2_ := (Option.bind_some _ _).symm.trans H; rw [hy119]; with_reducible exact H2_) | (have H2_ := (Option.bind_some _ _).symm.trans H; with_reducible exact H2_) | with_reducible exact H | (rw [hy119]; exact H) | exact H) : P := h
theorem Q42 (h : P := by first | (rw [hy123]; with_reducible exact H) | (have H2_ := (Option.bind_some _ _).symm.trans H; rw [hy123]; with_reducible exact H2_) | (have H2_ := (Option.bind_some _ _).symm.trans H; with_reducible exact H2_) | with_reducible exact H | (rw [hy123]; exact H) | exact H) : P := h
theorem Q43 (h : P := by exact (Reps.none _ _)) : P := h
theorem Q44 (h : P := by first | exact HK.out.1 | exact Q155) : P := h
theorem Q45 (h : P := by repeat (first | (with_reducible exact HR109.out) | (with_reducible first | refine cA ?_ _ | refine cN ?_ _ | refine cD ?_) | exact HR109.out)) : P := h
theorem Q46 (h : P := by repeat (first | (with_reducible exact HR122.out) | (with_reducible first | refine cA ?_ _ | refine cN ?_ _ | refine cD ?_) | exact HR122.out)) : P := h
theorem Q47 (h : P := by exact Q45) : P := h
theorem Q48 (h : P := by exact Q10) : P := h
theorem Q49 (h : P := by exact (fun k_ hk => ⟨(.inr (Nat.le_trans Q156 hk)), Kd.fresh' (Kd.R_lt Q36) k_ hk⟩)) : P := h
theorem Q50 (h : P := by exact (below_size Q10)) : P := h
theorem Q51 (h : P := by exact (Reps.one (show Kd.M (Kd.int .i64) _ _ _ a1 [.int .i64 a1] from rfl) (Reps.none _ _))) : P := h
theorem Q52 (h : P := by (with_reducible repeat (first | apply rA | apply rN | apply rD)); exact HO112.out) : P := h
theorem Q53 (h : P := by simp only [putAll, Act.put, aS1, aS2, aS3]) : P := h
theorem Q54 (h : P := by (with_reducible repeat (first | apply rA | apply rN | apply rD)); exact Q157) : P := h
theorem Q55 (h : P := by (with_reducible repeat (first | apply rA | apply rN | apply rD)); exact HO105.out) : P := h
theorem Q56 (h : P := by exact (fun k_ hk => ⟨(.inr (Nat.le_trans Q156 hk)), Kd.fresh' (Kd.R_lt Q36) k_ hk, Kd.fresh' (Kd.R_lt Q61) k_ hk⟩)) : P := h
theorem Q57 (h : P := by exact Q158) : P := h
theorem Q58 (h : P := by (with_reducible repeat (first | apply rA | apply rN | apply rD)); exact Q159) : P := h
theorem Q59 (h : P := by (with_reducible repeat (first | apply rA | apply rN | apply rD)); exact Q160) : P := h
theorem Q60 (h : P := by exact norm_ Q53 (hCont (v104, v111, v114) _ ⟨Q62, Q161, Q162, Q33, Q10⟩)) : P := h
theorem Q61 (h : P := by (with_reducible repeat (first | apply rA | apply rN | apply rD)); exact HO115.out) : P := h
theorem Q62 (h : P := by (with_reducible repeat (first | apply rA | apply rN | apply rD)); exact Q163) : P := h
theorem Q63 (h : P := by (with_reducible repeat (first | apply rA | apply rN | apply rD)); exact Q164) : P := h
theorem Q64 (h : P := by first | (rw [hy129]; with_reducible exact H) | (have H2_ := (Option.bind_some _ _).symm.trans H; rw [hy129]; with_reducible exact H2_) | (have H2_ := (Option.bind_some _ _).symm.trans H; with_reducible exact H2_) | with_reducible exact H | (rw [hy129]; exact H) | exact H) : P := h
theorem Q65 (h : P := by first | (rw [hy133]; with_reducible exact H) | (have H2_ := (Option.bind_some _ _).symm.trans H; rw [hy133]; with_reducible exact H2_) | (have H2_ := (Option.bind_some _ _).symm.trans H; with_reducible exact H2_) | with_reducible exact H | (rw [hy133]; exact H) | exact H) : P := h
theorem Q66 (h : P := by repeat (first | (with_reducible exact HR132.out) | (with_reducible first | refine cA ?_ _ | refine cN ?_ _ | refine cD ?_) | exact HR132.out)) : P := h
theorem Q67 (h : P := by repeat (first | (with_reducible exact HR145.out) | (with_reducible first | refine cA ?_ _ | refine cN ?_ _ | refine cD ?_) | exact HR145.out)) : P := h
theorem Q68 (h : P := by exact Q66) : P := h
theorem Q69 (h : P := by (with_reducible repeat (first | apply rA | apply rN | apply rD)); exact HO135.out) : P := h
theorem Q70 (h : P := by (with_reducible repeat (first | apply rA | apply rN | apply rD)); exact HO128.out) : P := h
theorem Q71 (h : P := by exact (fun k_ hk => ⟨(.inr (Nat.le_trans Q156 hk)), Kd.fresh' (Kd.R_lt Q36) k_ hk, Kd.fresh' (Kd.R_lt Q75) k_ hk⟩)) : P := h
theorem Q72 (h : P := by exact Q165) : P := h
theorem Q73 (h : P := by (with_reducible repeat (first | apply rA | apply rN | apply rD)); exact Q166) : P := h
theorem Q74 (h : P := by exact norm_ Q53 (hCont (v127, v134, v137) _ ⟨Q76, Q167, Q162, Q33, Q10⟩)) : P := h
theorem Q75 (h : P := by (with_reducible repeat (first | apply rA | apply rN | apply rD)); exact HO138.out) : P := h
theorem Q76 (h : P := by (with_reducible repeat (first | apply rA | apply rN | apply rD)); exact Q168) : P := h
theorem Q77 (h : P := by exact ⟨rfl, _, dN2 _ _ _⟩) : P := h
theorem Q78 (h : P := by exact ⟨rfl, _, dN3 _ _ _ _⟩) : P := h
theorem Q79 (h : P := by injection e103) : P := h
theorem Q80 (h : P := by injection e104) : P := h
theorem Q81 (h : P := by repeat (first | exact Q169 | apply Drawn0.step)) : P := h
theorem Q82 (h : P := by exact ⟨(wrap64 (x7_1 + 1)), Q6, H', ⟨Q7⟩, Q170⟩) : P := h
theorem Q83 (h : P := by injection e106) : P := h
theorem Q84 (h : P := by have := bltc _ _ hx106_0; first | rwa [add_block] at this | exact this) : P := h
theorem Q85 (h : P := by first | (rw [add_block]; exact hn106_0) | (show (Addr.add _ _).block ≠ _; rw [add_block]; exact hn106_0) | exact hn106_0) : P := h
theorem Q86 (h : P := by first | (rw [add_block]; exact hn106_1) | (show (Addr.add _ _).block ≠ _; rw [add_block]; exact hn106_1) | exact hn106_1) : P := h
theorem Q87 (h : P := by first | (rw [add_block]; exact hn106_2) | (show (Addr.add _ _).block ≠ _; rw [add_block]; exact hn106_2) | exact hn106_2) : P := h
theorem Q88 (h : P := by repeat (first | (with_reducible first | exact HB.out | apply bA | apply bN | apply bD | refine below_set ?_ GE102.out) | exact HB.out)) : P := h
theorem Q89 (h : P := by exact ⟨(wrap64 (x3_1 + 1)), Q6, H', ⟨Q7⟩, ⟨Q88⟩⟩) : P := h
theorem Q90 (h : P := by exact ⟨Q1, Q88⟩) : P := h
theorem Q91 (h : P := by simpa using c3) : P := h
theorem Q92 (h : P := by exact Kd.C_below HR0.out (eI HB)) : P := h
theorem Q93 (h : P := by repeat (first | (with_reducible first | exact HB.out | apply bA | apply bN | apply bD | refine below_set ?_ GE104.out) | exact HB.out)) : P := h
theorem Q94 (h : P := by injection e107) : P := h
theorem Q95 (h : P := by have := HK1.out; have := HK2.out; omega) : P := h
theorem Q96 (h : P := by exact (Kd.C_below HR0.out HB.out)) : P := h
theorem Q97 (h : P := by exact ⟨_, (true), Q6, H', ⟨Q98⟩, ⟨Q10⟩⟩) : P := h
theorem Q98 (h : P := by first | omega | exact Q143) : P := h
theorem Q99 (h : P := by exact ⟨Q1, Q10⟩) : P := h
theorem Q100 (h : P := by exact ⟨_, (true), Q6, H', ⟨Q103⟩, ⟨Q104⟩, ⟨Q93⟩⟩) : P := h
theorem Q101 (h : P := by exact Kd.C_below HR103_1.out Q93) : P := h
theorem Q102 (h : P := by exact HC103_1.out) : P := h
theorem Q103 (h : P := by have := HJ3.out; have := HK2.out; first | omega | exact Q143) : P := h
theorem Q104 (h : P := by (with_reducible repeat (first | refine kN ?_ _ | refine kD ?_ | refine kA ?_ _)); refine blk_put (cs := #[.int .i64 ((rd_T80 l1 x8_2).f0), .slice none 0 0]) ?_ 1 _ rfl; (with_reducible repeat (first | refine kN ?_ _ | refine kD ?_ | refine kA ?_ _)); refine blk_put (cs := #[.int .i64 0, .slice none 0 0]) ?_ 0 _ rfl; (with_reducible repeat (first | refine kN ?_ _ | refine kD ?_ | refine kA ?_ _)); exact BK104.out) : P := h
theorem Q105 (h : P := by exact ⟨Q1, Q93⟩) : P := h
theorem Q106 (h : P := by (with_reducible repeat (first | refine kN ?_ _ | refine kD ?_ | refine kA ?_ _)); exact BK104.out) : P := h
theorem Q107 (h : P := by injection e112) : P := h
theorem Q108 (h : P := by exact (Kd.C_below HR1.out Q93)) : P := h
theorem Q109 (h : P := by have := HJ3.out; have := HK2.out; have := HJ14.out; have := HK4.out; omega) : P := h
theorem Q110 (h : P := by exact (Kd.C_below HR103_1.out HB.out)) : P := h
theorem Q111 (h : P := by exact ⟨_, Q1, Q112, Q10⟩) : P := h
theorem Q112 (h : P := by (with_reducible repeat (first | apply Kd.S_alloc | apply Kd.S_drewN | apply Kd.S_drew)); exact HO_12.out) : P := h
theorem Q113 (h : P := by (with_reducible repeat (first | apply Kd.S_alloc | apply Kd.S_drewN | apply Kd.S_drew)); exact Kd.S_mono HO_12.out (fun _ hk => hk.2)) : P := h
theorem Q114 (h : P := by have := HJ5.out; have := HK2.out; have := HK3.out; omega) : P := h
theorem Q115 (h : P := by (with_reducible repeat (first | apply rA | apply rN | apply rD)); exact HO_15.out) : P := h
theorem Q116 (h : P := by exact (fun _ _ => trivial)) : P := h
theorem Q117 (h : P := by exact Q171) : P := h
theorem Q118 (h : P := by first | (rw [hy107]; with_reducible exact H) | (have H2_ := (Option.bind_some _ _).symm.trans H; rw [hy107]; with_reducible exact H2_) | (have H2_ := (Option.bind_some _ _).symm.trans H; with_reducible exact H2_) | with_reducible exact H | (rw [hy107]; exact H) | exact H) : P := h
theorem Q119 (h : P := by (try simp only [aM1, aM2, aM3]); first | done | (simp only [hji8]; rfl) | rfl | (simp only [List.length_drop, List.length_take]; rfl)) : P := h
theorem Q120 (h : P := by exact ⟨(x0_2), (wrap64 (x6_1 + 1)), Q6, H', ⟨Q95⟩, ⟨rI HO_0⟩, ⟨Q33⟩, ⟨eI HB⟩⟩) : P := h
theorem Q121 (h : P := by exact ⟨(wrap64 (x7_1 + 1)), Q6, H', ⟨Q7⟩, ⟨Q88⟩⟩) : P := h
theorem Q122 (h : P := by exact ⟨_, (true), Q6, H', ⟨Q172⟩, ⟨eI HB⟩⟩) : P := h
theorem Q123 (h : P := by have := bltc _ _ hx109_0; first | rwa [add_block] at this | exact this) : P := h
theorem Q124 (h : P := by first | (rw [add_block]; exact hn109_0) | (show (Addr.add _ _).block ≠ _; rw [add_block]; exact hn109_0) | exact hn109_0) : P := h
theorem Q125 (h : P := by first | (rw [add_block]; exact hn109_1) | (show (Addr.add _ _).block ≠ _; rw [add_block]; exact hn109_1) | exact hn109_1) : P := h
theorem Q126 (h : P := by (with_reducible repeat (first | apply rA | apply rN | apply rD)); exact Q173) : P := h
theorem Q127 (h : P := by (with_reducible repeat (first | refine kN ?_ _ | refine kD ?_ | refine kA ?_ _)); refine blk_put (cs := #[.int .i64 ((rd_T80 l1 x33_2).f0), .slice none 0 0]) ?_ 1 _ rfl; (with_reducible repeat (first | refine kN ?_ _ | refine kD ?_ | refine kA ?_ _)); refine blk_put (cs := #[.int .i64 0, .slice none 0 0]) ?_ 0 _ rfl; (with_reducible repeat (first | refine kN ?_ _ | refine kD ?_ | refine kA ?_ _)); exact BK107.out) : P := h
theorem Q128 (h : P := by repeat (first | (with_reducible first | exact HB.out | apply bA | apply bN | apply bD | refine below_set ?_ GE107.out) | exact HB.out)) : P := h
theorem Q129 (h : P := by injection e116) : P := h
theorem Q130 (h : P := by exact ⟨Q174, eI HB⟩) : P := h
theorem Q131 (h : P := by exact (Kd.R_reads' HO_11.out).2.2) : P := h
theorem Q132 (h : P := by exact (Kd.R_reads' HO_11.out).2.1) : P := h
theorem Q133 (h : P := by rw [hw, Ny118.out]; exact HP64.1) : P := h
theorem Q134 (h : P := by rw [hw]; exact Q175) : P := h
theorem Q135 (h : P := by exact (below_size (eI HB))) : P := h
theorem Q136 (h : P := by have := HJ3.out; have := HK2.out; have := HJ19.out; have := HK4.out; omega) : P := h
theorem Q137 (h : P := by rw [hw, Ny123.out]; exact HP78.1) : P := h
theorem Q138 (h : P := by rw [hw]; exact Q176) : P := h
theorem Q139 (h : P := by exact Kd.C_below HR0.out HX.out.2.2) : P := h
theorem Q140 (h : P := by exact Kd.C_below HR1.out HX.out.2.2) : P := h
theorem Q141 (h : P := by first | rfl | kernel_rfl) : P := h
theorem Q142 (h : P := by exact fun W x A1' c1' _ hbW _ _ => mvLit1 x A1' c1' a4 _ W (cz (blk_below HT.out hbW) 0)) : P := h
theorem Q143 (h : P := by exact Nat.le_refl _) : P := h
theorem Q144 (h : P := by exact fun W y _ hbW => mvLit2 y a3 _ W (cz (blk_below HN10.out hbW) 0)) : P := h
theorem Q145 (h : P := by have := HLT.out; have := Hi.out; omega) : P := h
theorem Q146 (h : P := by exact ⟨(a1), (0), Q6, Q6, H', ⟨Nat.le_refl _⟩, Q170⟩) : P := h
theorem Q147 (h : P := by exact Kd.C_below HR1.out (eI HB)) : P := h
theorem Q148 (h : P := by first | exact h_ | exact h_.elim id id) : P := h
theorem Q149 (h : P := by have h0_ := HE20.out; have h1_ := HE33.out; have h2_ := HE49.out; have h3_ := HE62.out; have h4_ := HE75.out; have h5_ := HE91.out; have h6_ := HE111.out; have h7_ := HE131.out; omega) : P := h
theorem Q150 (h : P := by exact Kd.C_below HR101_1.out Q88) : P := h
theorem Q151 (h : P := by exact Nat.ne_of_lt (blk_lt (kI BK101))) : P := h
theorem Q152 (h : P := by exact (below_size hB_)) : P := h
theorem Q153 (h : P := by exact Nat.ne_of_lt (blk_lt Q12)) : P := h
theorem Q154 (h : P := by exact below_set (HB.out) GB5.out) : P := h
theorem Q155 (h : P := by exact (show Kept w _ (fun k_ => P0_ k_) from Q33).1) : P := h
theorem Q156 (h : P := by first | exact HK.out.1 | exact Q177) : P := h
theorem Q157 (h : P := by exact Kd.R_mono HO_0.out (fun _ hk => ⟨hk.1.1, ⟨hk.1.2, hk.2⟩⟩)) : P := h
theorem Q158 (h : P := by (with_reducible repeat (first | apply rA | apply rN | apply rD)); exact Kd.R_mono HO105.out (fun _ hk => ⟨hk.1.1.1, ⟨hk.1.2, hk.2⟩⟩)) : P := h
theorem Q159 (h : P := by exact Kd.R_mono HO_0.out (fun _ hk => ⟨⟨hk.1.1, hk.2⟩, hk.1.2⟩)) : P := h
theorem Q160 (h : P := by exact Kd.R_mono HO115.out (fun _ hk => ⟨⟨hk.1.1.1, hk.1.2⟩, hk.2⟩)) : P := h
theorem Q161 (h : P := by (with_reducible repeat (first | apply rA | apply rN | apply rD)); exact Kd.R_mono HO115.out (fun _ hk => ⟨hk.1.1, ⟨hk.2, hk.1.2⟩⟩)) : P := h
theorem Q162 (h : P := by (with_reducible repeat (first | apply rA | apply rN | apply rD)); exact Kd.R_mono HO_0.out (fun _ hk => ⟨hk.1.1, ⟨hk.2, hk.1.2⟩⟩)) : P := h
theorem Q163 (h : P := by exact Kd.R_mono HO112.out (fun _ hk => ⟨hk.1, ⟨hk.2.2, hk.2.1⟩⟩)) : P := h
theorem Q164 (h : P := by exact Kd.R_mono HO_0.out (fun _ hk => ⟨⟨hk.1, hk.2.2⟩, hk.2.1⟩)) : P := h
theorem Q165 (h : P := by (with_reducible repeat (first | apply rA | apply rN | apply rD)); exact Kd.R_mono HO128.out (fun _ hk => ⟨hk.1.1.1, ⟨hk.1.2, hk.2⟩⟩)) : P := h
theorem Q166 (h : P := by exact Kd.R_mono HO138.out (fun _ hk => ⟨⟨hk.1.1.1, hk.1.2⟩, hk.2⟩)) : P := h
theorem Q167 (h : P := by (with_reducible repeat (first | apply rA | apply rN | apply rD)); exact Kd.R_mono HO138.out (fun _ hk => ⟨hk.1.1, ⟨hk.2, hk.1.2⟩⟩)) : P := h
theorem Q168 (h : P := by exact Kd.R_mono HO135.out (fun _ hk => ⟨hk.1, ⟨hk.2.2, hk.2.1⟩⟩)) : P := h
theorem Q169 (h : P := by exact Drawn0.refl _) : P := h
theorem Q170 (h : P := by repeat (first | exact Q169 | apply Drawn0.step)) : P := h
theorem Q171 (h : P := by (with_reducible repeat (first | apply Kd.S_alloc | apply Kd.S_drewN | apply Kd.S_drew)); exact Kd.S_mono HO_12.out (fun k_ hk => ⟨trivial, fun e_ => hk e_⟩)) : P := h
theorem Q172 (h : P := by first | omega | exact Q143) : P := h
theorem Q173 (h : P := by exact Kd.R_mono (Kd.R_far (p := ⟨gb107, 1, none⟩) (Kd.R_far (p := ⟨gb107, 0, none⟩) (Kd.R_types HO_8.out BK107.out (by decide)) (fun _ hk => hk.2) (.int .i64 ((rd_T80 l1 x33_2).f0))) (fun _ hk => hk.2) (.slice A106_1 ((rd_T80 l1 x33_2).f1).length c106_1)) (fun _ hk => trivial)) : P := h
theorem Q174 (h : P := by first | rfl | (simp [errW_none, errW_some] <;> rfl) | (simp only [← hji49]; first | rfl | (simp [errW_none, errW_some] <;> rfl)) | (simp [*, errW_none, errW_some] <;> rfl)) : P := h
theorem Q175 (h : P := by exact below_set (HB.out) GB58.out) : P := h
theorem Q176 (h : P := by exact below_set (HB.out) GB73.out) : P := h
theorem Q177 (h : P := by exact (show Kept w _ (fun k_ => P0_ k_) from Q33).1) : P := h
end
end Go.Proofs.Ytdbhelhoaciodaa.X
set_option linter.unusedVariables false
set_option linter.unusedSimpArgs false
namespace Go.Proofs.Ytdbhelhoaciodaa.X
open Go.RowKit Go.Proofs.YtdbhelhoaciodaaW.PrintWords Go.Proofs.YtdbhelhoaciodaaW.PrintLast Go.Proofs.YtdbhelhoaciodaaW.PrintMore
theorem needS {c : Prop} [Decidable c] {α : Type} {x : Option α} {r : α} (h : (if c then x else none) = some r) : c ∧ x = some r := by
 by_cases hc : c
 ·rw [if_pos hc] at h; exact ⟨hc, h⟩
 ·rw [if_neg hc] at h; exact absurd h (by simp)
structure RngMk (w W w1 : World) (lo hi : Nat) : Prop where
 r : ∀ {α : Type} {d : Kd α} {e : Nat} {v : Value} {xs : List α}, d.R e w1 W.heap.size (fun _ => True) v xs → d.R e w1 w.heap.size (fun k_ => lo ≤ k_ ∧ k_ < hi) v xs
 s : ∀ {α : Type} {d : Kd α} {e : Nat} {v : Value} {xs : List α}, Kd.S d e w1 W.heap.size (fun _ => True) v xs → Kd.S d e w1 w.heap.size (fun k_ => lo ≤ k_ ∧ k_ < hi) v xs
theorem newRng {s : Nat} {w W0 W w1 : World} (HB : Aside0 (Below w.heap.size w W0)) (HS : Aside0 (s ≤ W0.heap.size)) (hb : Below W.heap.size W w1) [k : Lat W0 W] : ∃ lo hi, (s ≤ lo ∧ lo ≤ hi) ∧ hi ≤ w1.heap.size ∧ RngMk w W w1 lo hi := by
 have h1 := k.out.size
 have h2 := HS.out
 have h3 := HB.out.size
 refine ⟨W.heap.size, w1.heap.size, ⟨Nat.le_trans h2 h1, hb.size⟩, Nat.le_refl _, fun h => ?_, fun h => ?_⟩
 ·exact Kd.R_lower (Kd.R_mono (Kd.R_bound h) (fun k hk => ⟨hk.2.1, hk.2.2.1⟩)) (Nat.le_trans h3 h1)
 ·exact Kd.S_lower (Kd.S_mono (Kd.S_bound h) (fun k hk => ⟨hk.2.1, hk.2.2.1⟩)) (Nat.le_trans h3 h1)
theorem leI {s : Nat} {W0 W w1 : World} (hb : Below W.heap.size W w1) (HS : Aside0 (s ≤ W0.heap.size)) [k : Lat W0 W] : s ≤ w1.heap.size := Nat.le_trans (Nat.le_trans HS.out k.out.size) hb.size
theorem leK {s : Nat} {W0 W w1 : World} {S : Nat → Prop} (hk : Kept W w1 S) (HS : Aside0 (s ≤ W0.heap.size)) [k : Lat W0 W] : s ≤ w1.heap.size := Nat.le_trans (Nat.le_trans HS.out k.out.size) hk.1
theorem sbI0 {α : Type} {d : Kd α} {e : Nat} {W W' : World} {base : Nat} {ok : Nat → Prop} {v : Value} {xs : List α} (h : Aside0 (Kd.S d e W base ok v xs)) [k : Lat W W'] : Kd.S d e W' base ok v xs := Kd.S_below h.out k.out
theorem sbI {α : Type} {d : Kd α} {e : Nat} {W W' W2 : World} (hb : Below W'.heap.size W' W2) {base : Nat} {ok : Nat → Prop} {v : Value} {xs : List α} (h : Aside0 (Kd.S d e W base ok v xs)) [k : Lat W W'] : Kd.S d e W2 base ok v xs := Kd.S_below (Kd.S_below h.out k.out) hb
theorem rcI {α : Type} {d : Kd α} {e : Nat} {W W' : World} {base n c : Nat} {ok : Nat → Prop} {A : Option Addr} {xs : List α} (h : Aside0 (d.R e W base ok (.slice A n c) xs)) [k : Lat W W'] : d.C W' A xs.length xs ∧ xs.length ≤ c := by
 obtain ⟨h1, h2, h3⟩ := Kd.R_reads' (Kd.R_below h.out k.out)
 subst h1
 exact ⟨h3, h2⟩
theorem scI {α : Type} {d : Kd α} {e : Nat} {W W' : World} {base n c : Nat} {ok : Nat → Prop} {A : Option Addr} {xs : List α} (h : Aside0 (Kd.S d e W base ok (.slice A n c) xs)) [k : Lat W W'] : d.C W' A xs.length xs ∧ xs.length ≤ c := rcI ⟨Kd.S_R h.out⟩
theorem rcR {α : Type} {d : Kd α} {e : Nat} {W : World} {base n c : Nat} {ok : Nat → Prop} {A : Option Addr} {xs : List α} (h : Aside0 (d.R e W base ok (.slice A n c) xs)) : d.C W A xs.length xs ∧ xs.length ≤ c := rcI h
theorem scR {α : Type} {d : Kd α} {e : Nat} {W : World} {base n c : Nat} {ok : Nat → Prop} {A : Option Addr} {xs : List α} (h : Aside0 (Kd.S d e W base ok (.slice A n c) xs)) : d.C W A xs.length xs ∧ xs.length ≤ c := scI h
theorem slI {α : Type} {d : Kd α} {e : Nat} {W : World} {base n c : Nat} {ok : Nat → Prop} {A : Option Addr} {xs : List α} (h : Aside0 (Kd.S d e W base ok (.slice A n c) xs)) : n = xs.length := (Kd.R_reads' (Kd.S_R h.out)).1
theorem keptRng {W w1 : World} {S : Nat → Prop} {lo hi : Nat} (hk : Kept W w1 S) (hs : ∀ k_, S k_ → lo ≤ k_ ∧ k_ < hi) : Kept W w1 (fun k_ => lo ≤ k_ ∧ k_ < hi) := hk.mono hs
theorem krI {α : Type} {d : Kd α} {e lo hi lo2 hi2 : Nat} {W W' W2 : World} (hk : Kept W' W2 (fun k_ => lo2 ≤ k_ ∧ k_ < hi2)) {base : Nat} {v : Value} {xs : List α} (h : Aside0 (d.R e W base (fun k_ => lo ≤ k_ ∧ k_ < hi) v xs)) (hd : hi ≤ lo2 ∨ hi2 ≤ lo) [k : Lat W W'] : d.R e W2 base (fun k_ => lo ≤ k_ ∧ k_ < hi) v xs :=
 Kd.R_kept (Kd.R_below h.out k.out) hk (fun k_ h1 h2 => by omega)
theorem ksI {α : Type} {d : Kd α} {e lo hi lo2 hi2 : Nat} {W W' W2 : World} (hk : Kept W' W2 (fun k_ => lo2 ≤ k_ ∧ k_ < hi2)) {base : Nat} {v : Value} {xs : List α} (h : Aside0 (Kd.S d e W base (fun k_ => lo ≤ k_ ∧ k_ < hi) v xs)) (hd : hi ≤ lo2 ∨ hi2 ≤ lo) [k : Lat W W'] : Kd.S d e W2 base (fun k_ => lo ≤ k_ ∧ k_ < hi) v xs :=
 Kd.S_kept (Kd.S_below h.out k.out) hk (fun k_ h1 h2 => by omega)
theorem put_event {P : Program} {ops : Array Oper} {rest : List Oper} {o : Oper} {a : Act} {Q : Exit → Act → World → Prop} {W : World} (hN : o.dst = none) (hgd : o.guard = none) (t : TypeId) (p x : Operand) (ho : o.op = .store t p x) {g e : Nat} {cs : Array Value} (u : Value) (seg : List Value)
  (haddr : a.eval p = .pointer (some ⟨g, 0, none⟩)) (hx : a.eval x = u) (hu : u.cells.toList = seg) (ht : (P.info? t).map (·.size) = some seg.length) (h1 : seg.all (fun q => q.oneCell') = true) (hbk : W.heap[g]? = some (.cells cs e (0, 0))) (hl : cs.size = seg.length)
  (h : ∀ w2, w2.heap[g]? = some (.cells seg.toArray e (0, 0)) → Kept W w2 (fun k_ => g ≤ k_ ∧ k_ < g + 1) → Below g W w2 → wpList P ops Q rest a w2) : wpList P ops Q (o :: rest) a W := by
 obtain ⟨cur', h3, h4, h5⟩ := setCells_row seg 0 W cs hbk (by omega)
 obtain ⟨s1, s2, s3, s4⟩ := setCells_same g seg 0 W
 have hcur : cur' = seg.toArray := by
  apply Array.toList_inj.1
  rw [h5, List.take_zero, List.nil_append, Nat.zero_add, ← hl, ← Array.length_toList, List.drop_length, List.append_nil]
 rw [hcur] at h3
 refine wpList_plain hgd fun K hK => ?_
 have hrun : (Instr.storeAt t (.pointer (some ⟨g, 0, none⟩)) u).run P W = .ok () (W.setCells g 0 seg) := run_store_run t u seg hbk hu ht (by omega) (fun q hq => List.all_eq_true.1 h1 q hq)
 unfold Oper.wp execOp
 simp only [ho, haddr, hx, Sem.run_bind, Sem.run_pure, Result.andThen_ok, hrun]
 show K (a.put o.dst undef) _
 rw [hN]
 exact hK a _ (h _ h3 ⟨by rw [s4]; exact Nat.le_refl _, fun k _ hk => setCells_far seg _ k (fun e => hk (by omega))⟩ ⟨s1, s2, s3, by rw [s4]; exact Nat.le_refl _, fun k hk => setCells_far seg _ k (by omega)⟩)
end Go.Proofs.Ytdbhelhoaciodaa.X
namespace Go.Proofs.Ytdbhelhoaciodaa.X
open Go.RowKit Go.Proofs.YtdbhelhoaciodaaW.PrintWords Go.Proofs.YtdbhelhoaciodaaW.PrintLast Go.Proofs.YtdbhelhoaciodaaW.PrintMore
attribute [local go_sem] max2_int min2_int max_two min_two max_three min_three max_four min_four
set_option linter.unusedVariables false
set_option linter.unusedSimpArgs false
attribute [-simp] ByteArray.size_append ByteArray.size_extract
attribute [-go_sem] ByteArray.size_append'
/-! ### laws_toItem: function 49 -/
def laws_toItem.f (a0_0 : Int) (a0_1 : Int) (a0_2 : Int) : Option (Int × Int × Int) := some (a0_0, a0_1, a0_2)
set_option maxHeartbeats 8000000 in
set_option maxRecDepth 100000 in
theorem laws_toItem.calls (a0_0 : Int) (a0_1 : Int) (a0_2 : Int) (r1 : Int) (r2 : Int) (r3 : Int) (w : World) (h : laws_toItem.f a0_0 a0_1 a0_2 = some (r1, r2, r3)) :
  Calls Try.prog 49 #[.agg #[.int .i64 a0_0, .int .i64 a0_1, .int .i64 a0_2]] w fun e w' => e = .returned (.agg #[.int .i64 r1, .int .i64 r2, .int .i64 r3]) ∧ Below w.heap.size w w' := by
 (have hu85 := Try.underlying85); (have hu83 := Try.underlying83); (have HB := Aside0.mk (Below.refl w.heap.size w)); (unfold laws_toItem.f at h); (have H := h); clear h; (simp only [Option.some.injEq, Prod.mk.injEq] at H); (obtain ⟨rfl, rfl, rfl⟩ := H); (go_enter Try.func49, Try.ntmps49); (go_wp2_with (first | ((with_reducible refine gate_dst (N := 1) rfl ?_); refine box_event ?hg (N := 1) ?hd (cs := #[.int .i64 a0_0, .int .i64 a0_1, .int .i64 a0_2]) (t := 85) ?hr ?_; (case hd => rfl); (case hg => rfl); (case hr => first | (go_simp; done) | (go_simp; rfl)); intro gb101 hg w2 hbox hb; have hB_ := zI hb HB; have n0_ := Aside0.mk (below_step hB_ hb); have n1_ := Aside0.mk (hbox); have n2_ := Aside0.mk (bx0 hg hB_); have n3_ := n2_; clear HB; have HB := n0_; have BK101 := n1_; have GW101 := n2_; have GE101 := n3_; clear n0_ n1_ n2_ n3_ hB_ hb hbox hg) | ((with_reducible refine gate_dst (N := 2) rfl ?_); refine box_event ?hg (N := 2) ?hd (cs := #[.int .i64 0, .int .i64 0, .int .i64 0]) (t := 83) ?hr ?_; (case hd => rfl); (case hg => rfl); (case hr => first | (go_simp; done) | (go_simp; rfl)); intro gb102 hg w3 hbox hb; have n0_ := Aside0.mk (kbI hb BK101); have hB_ := zI hb HB; have n1_ := Aside0.mk (below_step hB_ hb); have n2_ := Aside0.mk (hbox); have n3_ := Aside0.mk (bx0 hg hB_); have n4_ := n3_; have n5_ := Aside0.mk ((Q0 : gb101 ≠ gb102)); have n6_ := Aside0.mk (Ne.symm n5_.out); clear BK101 HB; have BK101 := n0_; have HB := n1_; have BK102 := n2_; have GW102 := n3_; have GE102 := n4_; have NB101_102 := n5_; have NB102_101 := n6_; clear n0_ n1_ n2_ n3_ n4_ n5_ n6_ hB_ hb hbox hg) | ((with_reducible refine gate_dst (N := 3) rfl ?_); refine box_event ?hg (N := 3) ?hd (cs := #[.int .i64 0, .int .i64 0, .int .i64 0]) (t := 83) ?hr ?_; (case hd => rfl); (case hg => rfl); (case hr => first | (go_simp; done) | (go_simp; rfl)); intro gb103 hg w4 hbox hb; have n0_ := Aside0.mk (kbI hb BK101); have n1_ := Aside0.mk (kbI hb BK102); have hB_ := zI hb HB; have n2_ := Aside0.mk (below_step hB_ hb); have n3_ := Aside0.mk (hbox); have n4_ := Aside0.mk (bx0 hg hB_); have n5_ := n4_; have n6_ := Aside0.mk ((Q0 : gb101 ≠ gb103)); have n7_ := Aside0.mk (Ne.symm n6_.out); have n8_ := Aside0.mk ((by rw [hg]; exact Nat.ne_of_lt (blk_lt (kI BK102)) : gb102 ≠ gb103)); have n9_ := Aside0.mk (Ne.symm n8_.out); clear BK101 BK102 HB; have BK101 := n0_; have BK102 := n1_; have HB := n2_; have BK103 := n3_; have GW103 := n4_; have GE103 := n5_; have NB101_103 := n6_; have NB103_101 := n7_; have NB102_103 := n8_; have NB103_102 := n9_; clear n0_ n1_ n2_ n3_ n4_ n5_ n6_ n7_ n8_ n9_ hB_ hb hbox hg; have hnb5 := NB101_102.out; have hnc5 := NB102_101.out; have hnb6 := NB101_103.out; have hnc6 := NB103_101.out; have hcz7_0 := cz BK101.out 0; have hcz7_1 := cz BK101.out 1; have hcz7_2 := cz BK101.out 2; have hfz7_0 := blk_frozen BK101.out 0; have hfz7_1 := blk_frozen BK101.out 1; have hfz7_2 := blk_frozen BK101.out 2; have hnb8 := NB103_102.out; have hnc8 := NB102_103.out; have hcz9_0 := cz BK103.out 0; have hcz9_1 := cz BK103.out 1; have hcz9_2 := cz BK103.out 2; have hfz9_0 := blk_frozen BK103.out 0; have hfz9_1 := blk_frozen BK103.out 1; have hfz9_2 := blk_frozen BK103.out 2; have hcz10_0 := cz BK102.out 0; have hcz10_1 := cz BK102.out 1; have hcz10_2 := cz BK102.out 2; have hfz10_0 := blk_frozen BK102.out 0; have hfz10_1 := blk_frozen BK102.out 1; have hfz10_2 := blk_frozen BK102.out 2)))
 (refine bodyPost_ret (results_cell_row rfl _ _ gb102 83 #[.int .i64 a0_0, .int .i64 a0_1, .int .i64 a0_2] (0, 0) _ rfl (by (with_reducible repeat (first | refine kN ?_ _ | refine kD ?_ | refine kA ?_ _)); refine blk_put (cs := #[.int .i64 a0_0, .int .i64 a0_1, .int .i64 0]) ?_ 2 _ rfl; (with_reducible repeat (first | refine kN ?_ _ | refine kD ?_ | refine kA ?_ _)); refine blk_put (cs := #[.int .i64 a0_0, .int .i64 0, .int .i64 0]) ?_ 1 _ rfl; (with_reducible repeat (first | refine kN ?_ _ | refine kD ?_ | refine kA ?_ _)); refine blk_put (cs := #[.int .i64 0, .int .i64 0, .int .i64 0]) ?_ 0 _ rfl; (with_reducible repeat (first | refine kN ?_ _ | refine kD ?_ | refine kA ?_ _)); refine blk_far ?_ NB102_103.out _; (with_reducible repeat (first | refine kN ?_ _ | refine kD ?_ | refine kA ?_ _)); refine blk_far ?_ NB102_103.out _; (with_reducible repeat (first | refine kN ?_ _ | refine kD ?_ | refine kA ?_ _)); refine blk_far ?_ NB102_103.out _; (with_reducible repeat (first | refine kN ?_ _ | refine kD ?_ | refine kA ?_ _)); exact BK102.out) Try.underlying83 rfl (by kernel_rfl)) rfl ?_); (exact ⟨Q1, Q2⟩)
/-! ### laws_toItemS: function 11 -/
def laws_toItemS.l0 : Nat → List (S85) → List (S83) → Int → Option ((List (S83)))
 | 0, _, _, _ => none
 | k + 1, x0, x3, x4 => if x4 < (x0.length : Int) then (if 0 ≤ x4 then ((laws_toItem.f ((rd_T85 x0 x4).f0) ((rd_T85 x0 x4).f1) ((rd_T85 x0 x4).f2)).bind fun bt105 => (if x4 < (x3.length : Int) then (laws_toItemS.l0 k x0 (x3.set (x4 : Int).toNat (⟨bt105.1, bt105.2.1, bt105.2.2⟩ : S83)) (wrap64 (x4 + 1))) else (none))) else (none)) else (some x3)
def laws_toItemS.f (k : Nat) (l0 : List (S85)) : Option ((List (S83))) := if 0 ≤ (l0.length : Int) then (if ((l0.length : Int) : Int).toNat ≤ 11728124029610 then (laws_toItemS.l0 k l0 (List.replicate ((l0.length : Int) : Int).toNat z83) 0) else (none)) else (none)
set_option maxHeartbeats 8000000 in
set_option maxRecDepth 100000 in
theorem laws_toItemS.calls (k : Nat) (A0 : Option Addr) (c0 : Nat) (l0 : List (S85)) (r : List (S83)) (w : World) (hr0 : Kd.C k85 w A0 l0.length l0) (hc0 : l0.length ≤ c0) (h : laws_toItemS.f k l0 = some r) :
  Calls Try.prog 11 #[.slice A0 l0.length c0] w fun e w' => ∃ v0_ : Value, e = .returned (v0_) ∧ Kd.R k83 83 w' w.heap.size (fun _ => True) v0_ r ∧ Below w.heap.size w w' := by
 (have hu85 := Try.underlying85); (have hu83 := Try.underlying83); (have HR0 := Aside0.mk hr0); (have HC0 := Aside0.mk hc0); clear hr0 hc0; (have HB := Aside0.mk (Below.refl w.heap.size w)); (unfold laws_toItemS.f at h); (have H := h); clear h; (by_cases c2 : 0 ≤ (l0.length : Int))
 ·rw [if_pos c2] at H
  (have c2b0 := eq_true c2); (have c2b1 := decide_eq_true c2); clear c2; (by_cases c3 : ((l0.length : Int) : Int).toNat ≤ 11728124029610)
  ·rw [if_pos c3] at H
   (have c3b0 := eq_true c3); (have c3b1 := decide_eq_true c3); clear c3; (obtain ⟨y101, hy101⟩ : ∃ y_ : List (S83), y_ = (List.replicate ((l0.length : Int) : Int).toNat z83) := ⟨_, rfl⟩); (replace H : (laws_toItemS.l0 k l0 y101 0) = some r := Q3); (have Ny101 := Aside0.mk hy101); clear hy101; (have H' := Aside0.mk H); clear H; (go_enter Try.func11, Try.ntmps11); (go_wp2_with (first | ((with_reducible refine gate_dst (N := 7) rfl ?_); refine Kd.R_make k83 _ 83 rfl (N := 7) rfl 29 _ _ rfl (l0.length : Int) rfl rfl Try.underlying29 (.agg #[(.int .i64 0), (.int .i64 0), (.int .i64 0)]) 24 info83 rfl (by decide) (by omega) z83 (ok := fun _ => True) (okp := fun _ => True) (k83_mkM _ _ _ z83 ) (fun _ hk => hk) trivial odt (Nat.le_trans (Nat.mul_le_mul_right _ (odt : (l0.length : Int).toNat ≤ 11728124029610)) (by omega)) (Below.refl _ _) (Nat.le_refl _) ?_; intro v102 w4 ho5 hb hg_ hnew_; clear hg_ hnew_; (first | rw [← Ny101.out] at ho5 | (simp only [Int.reduceToNat] at ho5; rw [← Ny101.out] at ho5)); have hB_ := zI hb HB; have n0_ := Aside0.mk (Kd.R_lower ho5 (below_size hB_)); have n1_ := Aside0.mk (below_step hB_ hb); clear HB; have HO103 := n0_; have HB := n1_; clear n0_ n1_ hB_ hb ho5))); (go_loopg [4] k (fun kq v4 w' => ∃ (x3_1 : List (S83)) (x4_1 : Int), v4 = .int .i64 x4_1 ∧ Aside0 (laws_toItemS.l0 kq l0 x3_1 x4_1 = some r) ∧ Aside0 (kq ≤ k) ∧ Aside0 (Kd.R k83 83 w' w.heap.size (fun _ => True) v102 x3_1) ∧ Aside0 (Below w.heap.size w w')))
   case atStart => exact Q4
   case round =>
    (clear H'); (try clear c1); (try clear c2); (try clear c2b0); (try clear c2b1); (try clear p2); (try clear c3); (try clear c3b0); (try clear c3b1); (obtain ⟨x3_1, x4_1, rfl, HA, HK1, HO_3, HB⟩ := hrel)
    cases gk with
    | zero => exact absurd HA.out (by simp [laws_toItemS.l0])
    | succ k1 =>
     (have H := HA.out); clear HA; (simp only [laws_toItemS.l0] at H); (by_cases c6 : x4_1 < (l0.length : Int))
     ·rw [if_pos c6] at H
      (have c6b0 := decide_eq_true c6); clear c6; (by_cases c7 : 0 ≤ x4_1)
      ·rw [if_pos c7] at H
       (have c7b0 := decide_eq_true c7); clear c7; (replace H := obS H); (obtain ⟨⟨t105, t106, t107⟩, A8, H⟩ := H); (replace H : (if x4_1 < (x3_1.length : Int) then (laws_toItemS.l0 k1 l0 (x3_1.set (x4_1 : Int).toNat (⟨t105, t106, t107⟩ : S83)) (wrap64 (x4_1 + 1))) else (none)) = some r := H); (by_cases c9 : x4_1 < (x3_1.length : Int))
       ·rw [if_pos c9] at H
        (have c9b0 := decide_eq_true c9); clear c9; (obtain ⟨y108, hy108⟩ : ∃ y_ : List (S83), y_ = (x3_1.set (x4_1 : Int).toNat (⟨t105, t106, t107⟩ : S83)) := ⟨_, rfl⟩); (replace H : (laws_toItemS.l0 k1 l0 y108 (wrap64 (x4_1 + 1))) = some r := by first | (rw [hy108]; with_reducible exact H) | (have H2_ := (Option.bind_some _ _).symm.trans H; rw [hy108]; with_reducible exact H2_) | (have H2_ := (Option.bind_some _ _).symm.trans H; with_reducible exact H2_) | with_reducible exact H | (rw [hy108]; exact H) | exact H); (have Ny108 := Aside0.mk hy108); clear hy108; (have H' := Aside0.mk H); clear H; (have p104 : 0 ≤ (x4_1 : Int) := odt); (have q104 : x4_1 < (l0.length : Int) := odt); (obtain ⟨ad104, e104, hx104_0, hx104_1, hx104_2⟩ := at_T85 HR0.out x4_1 p104 q104); (cases e104); (replace hx104_0 := hcI HB hx104_0); (replace hx104_1 := hcI HB hx104_1); (replace hx104_2 := hcI HB hx104_2); (replace p104 := eq_true p104); (replace q104 := eq_true q104)
        (go_wp2_with (first | ((with_reducible refine gate_callee (f := 49) rfl ?_); refine gL (some 20) Try.func49 #[.agg #[.int .i64 ((rd_T85 l0 x4_1).f0), .int .i64 ((rd_T85 l0 x4_1).f1), .int .i64 ((rd_T85 l0 x4_1).f2)]] ?_; (with_reducible refine (laws_toItem.calls ((rd_T85 l0 x4_1).f0) ((rd_T85 l0 x4_1).f1) ((rd_T85 l0 x4_1).f2) t105 t106 t107 _ A8.out).mono ?_); rintro e w11 ⟨rfl, hb⟩; refine ⟨_, rfl, ?_⟩; have n0_ := Aside0.mk (rbI hb HO_3); have n1_ := Aside0.mk (sI hb HB); clear HO_3 HB; have HO_3 := n0_; have HB := n1_; clear n0_ n1_; (try clear hb); (try clear hb2); (try clear hk); (try clear hi); have p10 : 0 ≤ (x4_1 : Int) := odt; have q10 : (x4_1 : Int) < ((x3_1.length : Int) : Int) := odt; obtain ⟨go10, co10, eo10, gb10, gl10, cl10, HG10⟩ := Kd.R_form HO_3.out (by omega); (first | cases eo10 | (injection eo10 with ea_ en_ ec_; (first | subst ea_ | (injection ea_ with ea_; subst ea_)); subst ec_; clear en_)); have GB10 := Aside0.mk gb10; have GG10 := Aside0.mk HG10; clear gb10 gl10 HG10; obtain ⟨ce10, hcl10, hM10, hcc10, hfr10⟩ := Kd.R_elem HO_3.out z83 (x4_1 : Int) p10 q10; obtain rfl := k83_openM hM10; have hx10_0 : w11.cell? ⟨go10, (x4_1 : Int).toNat * 3, none⟩ = some (.int .i64 ((rd_T83 x3_1 x4_1).f0)) := hcc10 0 _ rfl; have hx10_1 : w11.cell? ⟨go10, (x4_1 : Int).toNat * 3 + 1, none⟩ = some (.int .i64 ((rd_T83 x3_1 x4_1).f1)) := hcc10 1 _ rfl; have hx10_2 : w11.cell? ⟨go10, (x4_1 : Int).toNat * 3 + 2, none⟩ = some (.int .i64 ((rd_T83 x3_1 x4_1).f2)) := hcc10 2 _ rfl; have hf10_0 : w11.frozen? ⟨go10, (x4_1 : Int).toNat * 3, none⟩ = false := hfr10 0; have hf10_1 : w11.frozen? ⟨go10, (x4_1 : Int).toNat * 3 + 1, none⟩ = false := hfr10 1; have hf10_2 : w11.frozen? ⟨go10, (x4_1 : Int).toNat * 3 + 2, none⟩ = false := hfr10 2; clear hcl10 hcc10 hfr10 hM10; replace p10 := eq_true p10; replace q10 := eq_true q10; have HX12 := Aside0.mk (show Kd.R k83 83 w11 w.heap.size (fun _ => True) (.slice (some ⟨go10, 0, none⟩) x3_1.length co10) x3_1 from (rI HO_3)); obtain ⟨ce12, hcl12, hM12, hcc12, hfr12⟩ := Kd.R_elem HX12.out z83 (x4_1 : Int) odt Q5; obtain rfl := k83_openM hM12; have HP12 := Kd.R_seg HX12.out (x4_1 : Int) odt Q5 (seg := [.int .i64 t105, .int .i64 t106, .int .i64 t107]) (j := 0) hcl12 hcc12 (show 3 ≤ 3 from by decide) (x' := (⟨t105, t106, t107⟩ : S83)) (k83_mkM _ _ _ (⟨t105, t106, t107⟩ : S83) ) (fun _ hk => hk); have hx12_0 := hcc12 0 _ rfl; (try simp only [show (k83).sz = 3 from rfl, Nat.mul_one, Nat.add_zero] at hx12_0); have hf12_0 := hfr12 0; (try simp only [show (k83).sz = 3 from rfl, Nat.mul_one, Nat.add_zero] at hf12_0); have hx12_1 := hcc12 1 _ rfl; (try simp only [show (k83).sz = 3 from rfl, Nat.mul_one, Nat.add_zero] at hx12_1); have hf12_1 := hfr12 1; (try simp only [show (k83).sz = 3 from rfl, Nat.mul_one, Nat.add_zero] at hf12_1); have hx12_2 := hcc12 2 _ rfl; (try simp only [show (k83).sz = 3 from rfl, Nat.mul_one, Nat.add_zero] at hx12_2); have hf12_2 := hfr12 2; (try simp only [show (k83).sz = 3 from rfl, Nat.mul_one, Nat.add_zero] at hf12_2); clear hcl12 hcc12 hfr12 hM12) | ((with_reducible refine gate_store (t := 83) (p := 21) rfl ?_); refine store_event (t := 83) (p := 21) (v := ?vo_w13) (w1 := (((w11.setCell ⟨go10, (x4_1 : Int).toNat * 3, none⟩ (.int .i64 t105)).setCell ⟨go10, (x4_1 : Int).toNat * 3 + 1, none⟩ (.int .i64 t106)).setCell ⟨go10, (x4_1 : Int).toNat * 3 + 2, none⟩ (.int .i64 t107))) ?hg ?ho ?hn ?hr ?_; (case ho => rfl); (case hg => rfl); (case hn => rfl); (case hr => first | (go_simp; done) | (go_simp; rfl)); intro w13 hw; have hg : w11.grownBy w13 (some go10) := (by rw [hw]; exact HP12.2); have hp_ : Kd.R k83 83 w13 w.heap.size (fun _ => True) (.slice (some ⟨go10, 0, none⟩) x3_1.length co10) y108 := (by rw [hw, Ny108.out]; exact HP12.1); clear HP12; have n0_ := Aside0.mk (hp_); have n1_ := Aside0.mk ((by rw [hw]; exact below_set (below_set (below_set (HB.out) GB10.out) GB10.out) GB10.out : Below w.heap.size w w13)); clear HO_3 HB; have HO_3 := n0_; have HB := n1_; clear n0_ n1_ hg hw hp_))); go_roundg k1
        case measure => have := HK1.out; omega
        case rel => exact ⟨(y108), (wrap64 (x4_1 + 1)), Q6, H', ⟨Q7⟩, ⟨rI HO_3⟩, ⟨eI HB⟩⟩
       ·rw [if_neg c9] at H
        exact Q8
      ·rw [if_neg c7] at H
       exact Q8
     ·rw [if_neg c6] at H
      (have c6b0 := decide_eq_false c6); clear c6; (obtain rfl := Option.some.inj H); (go_wp2); go_ret; (exact Q9)
  ·rw [if_neg c3] at H
   exact Q8
 ·rw [if_neg c2] at H
  exact Q8
/-! ### laws_toIntS: function 42 -/
def laws_toIntS.l0 : Nat → List Int → List Int → Int → Option (List Int)
 | 0, _, _, _ => none
 | k + 1, x0, x3, x4 => if x4 < (x0.length : Int) then (if 0 ≤ x4 then (if x4 < (x3.length : Int) then (laws_toIntS.l0 k x0 (x3.set (x4 : Int).toNat (rd x0 x4)) (wrap64 (x4 + 1))) else (none)) else (none)) else (some x3)
def laws_toIntS.f (k : Nat) (l0 : List Int) : Option (List Int) := if 0 ≤ (l0.length : Int) then (if ((l0.length : Int) : Int).toNat ≤ 35184372088832 then (laws_toIntS.l0 k l0 (List.replicate ((l0.length : Int) : Int).toNat 0) 0) else (none)) else (none)
set_option maxHeartbeats 8000000 in
set_option maxRecDepth 100000 in
theorem laws_toIntS.calls (k : Nat) (A0 : Option Addr) (c0 : Nat) (l0 : List Int) (r : List Int) (w : World) (hr0 : Kd.C (Kd.int .i64) w A0 l0.length l0) (hc0 : l0.length ≤ c0) (h : laws_toIntS.f k l0 = some r) :
  Calls Try.prog 42 #[.slice A0 l0.length c0] w fun e w' => ∃ v0_ : Value, e = .returned (v0_) ∧ Kd.R (Kd.int .i64) 3 w' w.heap.size (fun _ => True) v0_ r ∧ Below w.heap.size w w' := by
 (have HR0 := Aside0.mk hr0); (have HC0 := Aside0.mk hc0); clear hr0 hc0; (have HB := Aside0.mk (Below.refl w.heap.size w)); (unfold laws_toIntS.f at h); (have H := h); clear h; (by_cases c2 : 0 ≤ (l0.length : Int))
 ·rw [if_pos c2] at H
  (have c2b0 := eq_true c2); (have c2b1 := decide_eq_true c2); clear c2; (by_cases c3 : ((l0.length : Int) : Int).toNat ≤ 35184372088832)
  ·rw [if_pos c3] at H
   (have c3b0 := eq_true c3); (have c3b1 := decide_eq_true c3); clear c3; (obtain ⟨y101, hy101⟩ : ∃ y_ : List Int, y_ = (List.replicate ((l0.length : Int) : Int).toNat 0) := ⟨_, rfl⟩); (replace H : (laws_toIntS.l0 k l0 y101 0) = some r := Q3); (have Ny101 := Aside0.mk hy101); clear hy101; (have H' := Aside0.mk H); clear H; (go_enter Try.func42, Try.ntmps42); (go_wp2_with (first | ((with_reducible refine gate_dst (N := 7) rfl ?_); refine Kd.R_make (Kd.int .i64) _ 3 rfl (N := 7) rfl 26 _ _ rfl (l0.length : Int) rfl rfl Try.underlying26 (.int .i64 0) 8 info3 rfl (by decide) (by omega) 0 (ok := fun _ => True) (okp := fun _ => True) rfl (fun _ hk => hk) trivial odt (Nat.le_trans (Nat.mul_le_mul_right _ (odt : (l0.length : Int).toNat ≤ 35184372088832)) (by omega)) (Below.refl _ _) (Nat.le_refl _) ?_; intro v102 w4 ho5 hb hg_ hnew_; clear hg_ hnew_; (first | rw [← Ny101.out] at ho5 | (simp only [Int.reduceToNat] at ho5; rw [← Ny101.out] at ho5)); have hB_ := zI hb HB; have n0_ := Aside0.mk (Kd.R_lower ho5 (below_size hB_)); have n1_ := Aside0.mk (below_step hB_ hb); clear HB; have HO103 := n0_; have HB := n1_; clear n0_ n1_ hB_ hb ho5))); (go_loopg [4] k (fun kq v4 w' => ∃ (x3_1 : List Int) (x4_1 : Int), v4 = .int .i64 x4_1 ∧ Aside0 (laws_toIntS.l0 kq l0 x3_1 x4_1 = some r) ∧ Aside0 (kq ≤ k) ∧ Aside0 (Kd.R (Kd.int .i64) 3 w' w.heap.size (fun _ => True) v102 x3_1) ∧ Aside0 (Below w.heap.size w w')))
   case atStart => exact Q4
   case round =>
    (clear H'); (try clear c2); (try clear c2b0); (try clear c2b1); (try clear p2); (try clear c3); (try clear c3b0); (try clear c3b1); (try clear c4); (obtain ⟨x3_1, x4_1, rfl, HA, HK1, HO_3, HB⟩ := hrel)
    cases gk with
    | zero => exact absurd HA.out (by simp [laws_toIntS.l0])
    | succ k1 =>
     (have H := HA.out); clear HA; (simp only [laws_toIntS.l0] at H); (by_cases c6 : x4_1 < (l0.length : Int))
     ·rw [if_pos c6] at H
      (have c6b0 := decide_eq_true c6); clear c6; (by_cases c7 : 0 ≤ x4_1)
      ·rw [if_pos c7] at H
       (have c7b0 := decide_eq_true c7); clear c7; (by_cases c8 : x4_1 < (x3_1.length : Int))
       ·rw [if_pos c8] at H
        (have c8b0 := decide_eq_true c8); clear c8; (obtain ⟨y105, hy105⟩ : ∃ y_ : List Int, y_ = (x3_1.set (x4_1 : Int).toNat (rd l0 x4_1)) := ⟨_, rfl⟩); (replace H : (laws_toIntS.l0 k1 l0 y105 (wrap64 (x4_1 + 1))) = some r := by first | (rw [hy105]; with_reducible exact H) | (have H2_ := (Option.bind_some _ _).symm.trans H; rw [hy105]; with_reducible exact H2_) | (have H2_ := (Option.bind_some _ _).symm.trans H; with_reducible exact H2_) | with_reducible exact H | (rw [hy105]; exact H) | exact H); (have Ny105 := Aside0.mk hy105); clear hy105; (have H' := Aside0.mk H); clear H; (have p104 : 0 ≤ (x4_1 : Int) := odt); (have q104 : x4_1 < (l0.length : Int) := odt); (obtain ⟨ad104, e104, hx104_0⟩ := Kd.at_int HR0.out x4_1 p104 q104); (cases e104); (replace hx104_0 := hcI HB hx104_0); (replace p104 := eq_true p104); (replace q104 := eq_true q104); (have p9 : 0 ≤ (x4_1 : Int) := odt); (have q9 : (x4_1 : Int) < ((x3_1.length : Int) : Int) := odt); (obtain ⟨go9, co9, eo9, gb9, gl9, cl9, HG9⟩ := Kd.R_form HO_3.out (by omega)); ((first | cases eo9 | (injection eo9 with ea_ en_ ec_; (first | subst ea_ | (injection ea_ with ea_; subst ea_)); subst ec_; clear en_))); (have GB9 := Aside0.mk gb9); (have GG9 := Aside0.mk HG9); clear gb9 gl9 HG9; (obtain ⟨hx9_0, hf9_0⟩ := Kd.R_celln 0 HO_3.out (x4_1 : Int) p9 q9); (replace p9 := eq_true p9); (replace q9 := eq_true q9); (have HP10 := Kd.R_putg HO_3.out (x4_1 : Int) (rd l0 x4_1)); (go_wp2_with (first | ((with_reducible refine gate_store (t := 3) (p := 20) rfl ?_); refine store_event (t := 3) (p := 20) (v := ?vo_w11) (w1 := (wr.setCell ⟨go9, (x4_1 : Int).toNat, none⟩ (.int .i64 (rd l0 x4_1)))) ?hg ?ho ?hn ?hr ?_; (case ho => rfl); (case hg => rfl); (case hn => rfl); (case hr => first | (go_simp; done) | (go_simp; rfl)); intro w11 hw; have hg : wr.grownBy w11 (some go9) := (by rw [hw]; exact HP10.2); have hp_ : Kd.R (Kd.int .i64) 3 w11 w.heap.size (fun _ => True) (.slice (some ⟨go9, 0, none⟩) x3_1.length co9) y105 := (by rw [hw, Ny105.out]; exact HP10.1); clear HP10; have n0_ := Aside0.mk (hp_); have n1_ := Aside0.mk ((by rw [hw]; exact below_set (HB.out) GB9.out : Below w.heap.size w w11)); clear HO_3 HB; have HO_3 := n0_; have HB := n1_; clear n0_ n1_ hg hw hp_))); go_roundg k1
        case measure => have := HK1.out; omega
        case rel => exact ⟨(y105), (wrap64 (x4_1 + 1)), Q6, H', ⟨Q7⟩, ⟨rI HO_3⟩, ⟨eI HB⟩⟩
       ·rw [if_neg c8] at H
        exact Q8
      ·rw [if_neg c7] at H
       exact Q8
     ·rw [if_neg c6] at H
      (have c6b0 := decide_eq_false c6); clear c6; (obtain rfl := Option.some.inj H); (go_wp2); go_ret; (exact Q9)
  ·rw [if_neg c3] at H
   exact Q8
 ·rw [if_neg c2] at H
  exact Q8
/-! ### laws_toArchiveBox: function 50 -/
def laws_toArchiveBox.f (k : Nat) (a0_0 : Int) (l0_1 : List Int) : Option (Int × List Int) := (laws_toIntS.f k l0_1).bind fun t104 => (some (a0_0, t104))
set_option maxHeartbeats 8000000 in
set_option maxRecDepth 100000 in
theorem laws_toArchiveBox.calls (k : Nat) (a0_0 : Int) (A0_1 : Option Addr) (c0_1 : Nat) (l0_1 : List Int) (r1 : Int) (r2 : List Int) (w : World) (hr0_1 : Kd.C (Kd.int .i64) w A0_1 l0_1.length l0_1) (hc0_1 : l0_1.length ≤ c0_1) (h : laws_toArchiveBox.f k a0_0 l0_1 = some (r1, r2)) :
  Calls Try.prog 50 #[.agg #[.int .i64 a0_0, .slice A0_1 l0_1.length c0_1]] w fun e w' => ∃ v1_ : Value, e = .returned (.agg #[.int .i64 r1, v1_]) ∧ Kd.R (Kd.int .i64) 3 w' w.heap.size (fun _ => True) v1_ r2 ∧ Below w.heap.size w w' := by
 (have hu78 := Try.underlying78); (have hu80 := Try.underlying80); (have HR0_1 := Aside0.mk hr0_1); (have HC0_1 := Aside0.mk hc0_1); clear hr0_1 hc0_1; (have HB := Aside0.mk (Below.refl w.heap.size w)); (unfold laws_toArchiveBox.f at h); (have H := h); clear h; (replace H := Option.bind_eq_some_iff.mp H); (obtain ⟨t104, A20, H⟩ := H); (have A2 := Aside0.mk A20); clear A20; (simp only [Option.some.injEq, Prod.mk.injEq] at H); (obtain ⟨rfl, rfl⟩ := H); (go_enter Try.func50, Try.ntmps50)
 go_wp2_with (first | ((with_reducible refine gate_dst (N := 1) rfl ?_); refine box_event ?hg (N := 1) ?hd (cs := #[.int .i64 a0_0, .slice A0_1 l0_1.length c0_1]) (t := 78) ?hr ?_; (case hd => rfl); (case hg => rfl); (case hr => first | (go_simp; done) | (go_simp; rfl)); intro gb101 hg w3 hbox hb; have hB_ := bz Q10 hb; have n0_ := Aside0.mk (below_step hB_ hb); have n1_ := Aside0.mk (hbox); have n2_ := Aside0.mk ((Q11 : w.heap.size ≤ gb101)); have n3_ := n2_; clear HB; have HB := n0_; have BK101 := n1_; have GW101 := n2_; have GE101 := n3_; clear n0_ n1_ n2_ n3_ hB_ hb hbox hg) | ((with_reducible refine gate_dst (N := 2) rfl ?_); refine box_event ?hg (N := 2) ?hd (cs := #[.int .i64 0, .slice none 0 0]) (t := 80) ?hr ?_; (case hd => rfl); (case hg => rfl); (case hr => first | (go_simp; done) | (go_simp; rfl)); intro gb102 hg w4 hbox hb; have n0_ := Aside0.mk (blk_below Q12 hb); have hB_ := bz (by repeat (first | (with_reducible first | exact HB.out | apply bA | apply bN | apply bD | refine below_set ?_ GE101.out) | exact HB.out)) hb; have n1_ := Aside0.mk (below_step hB_ hb); have n2_ := Aside0.mk (hbox); have n3_ := Aside0.mk ((Q11 : w.heap.size ≤ gb102)); have n4_ := n3_; have n5_ := Aside0.mk ((Q13 : gb101 ≠ gb102)); have n6_ := Aside0.mk (Ne.symm n5_.out); clear BK101 HB; have BK101 := n0_; have HB := n1_; have BK102 := n2_; have GW102 := n3_; have GE102 := n4_; have NB101_102 := n5_; have NB102_101 := n6_; clear n0_ n1_ n2_ n3_ n4_ n5_ n6_ hB_ hb hbox hg) | ((with_reducible refine gate_dst (N := 3) rfl ?_); refine box_event ?hg (N := 3) ?hd (cs := #[.int .i64 0, .slice none 0 0]) (t := 80) ?hr ?_; (case hd => rfl); (case hg => rfl); (case hr => first | (go_simp; done) | (go_simp; rfl)); intro gb103 hg w5 hbox hb; have n0_ := Aside0.mk (blk_below Q12 hb); have n1_ := Aside0.mk (blk_below Q14 hb); have hB_ := bz (by repeat (first | (with_reducible first | exact HB.out | apply bA | apply bN | apply bD | refine below_set ?_ GE101.out | refine below_set ?_ GE102.out) | exact HB.out)) hb; have n2_ := Aside0.mk (below_step hB_ hb); have n3_ := Aside0.mk (hbox); have n4_ := Aside0.mk ((Q11 : w.heap.size ≤ gb103)); have n5_ := n4_; have n6_ := Aside0.mk ((Q13 : gb101 ≠ gb103)); have n7_ := Aside0.mk (Ne.symm n6_.out); have n8_ := Aside0.mk ((by rw [hg]; exact Nat.ne_of_lt (blk_lt Q14) : gb102 ≠ gb103)); have n9_ := Aside0.mk (Ne.symm n8_.out); clear BK101 BK102 HB; have BK101 := n0_; have BK102 := n1_; have HB := n2_; have BK103 := n3_; have GW103 := n4_; have GE103 := n5_; have NB101_103 := n6_; have NB103_101 := n7_; have NB102_103 := n8_; have NB103_102 := n9_; clear n0_ n1_ n2_ n3_ n4_ n5_ n6_ n7_ n8_ n9_ hB_ hb hbox hg; have hnb6 := NB101_102.out; have hnc6 := NB102_101.out; have hnb7 := NB101_103.out; have hnc7 := NB103_101.out; have hcz8_0 := cz BK101.out 0; have hcz8_1 := cz BK101.out 1; have hfz8_0 := blk_frozen BK101.out 0; have hfz8_1 := blk_frozen BK101.out 1; have hnb9 := NB103_102.out; have hnc9 := NB102_103.out; have hcz10_0 := cz BK103.out 0; have hcz10_1 := cz BK103.out 1; have hfz10_0 := blk_frozen BK103.out 0; have hfz10_1 := blk_frozen BK103.out 1) | ((with_reducible refine gate_callee (f := 42) rfl ?_); refine gL (some 9) Try.func42 #[.slice A0_1 l0_1.length c0_1] ?_; (with_reducible refine (laws_toIntS.calls k _ _ l0_1 t104 _ ?side1 ?side2 A2.out).mono ?_); (case side1 => exact Kd.C_below HR0_1.out Q2); (case side2 => exact HC0_1.out); rintro e w11 ⟨v105, rfl, ho0, hb⟩; refine ⟨_, rfl, ?_⟩; have n0_ := Aside0.mk (Kd.R_lower ho0 (below_size Q2)); have n1_ := Aside0.mk (blk_below (g := gb101) (o := .cells #[.int .i64 a0_0, .slice A0_1 l0_1.length c0_1] 78 (0, 0)) (by (with_reducible repeat (first | refine kN ?_ _ | refine kD ?_ | refine kA ?_ _)); refine blk_far ?_ NB101_103.out _; (with_reducible repeat (first | refine kN ?_ _ | refine kD ?_ | refine kA ?_ _)); exact BK101.out) hb); have n2_ := Aside0.mk (blk_below (g := gb102) (o := .cells #[.int .i64 0, .slice none 0 0] 80 (0, 0)) (by (with_reducible repeat (first | refine kN ?_ _ | refine kD ?_ | refine kA ?_ _)); refine blk_far ?_ NB102_103.out _; (with_reducible repeat (first | refine kN ?_ _ | refine kD ?_ | refine kA ?_ _)); exact BK102.out) hb); have n3_ := Aside0.mk (blk_below (g := gb103) (o := .cells #[.int .i64 a0_0, .slice none 0 0] 80 (0, 0)) (by (with_reducible repeat (first | refine kN ?_ _ | refine kD ?_ | refine kA ?_ _)); refine blk_put (cs := #[.int .i64 0, .slice none 0 0]) ?_ 0 _ rfl; (with_reducible repeat (first | refine kN ?_ _ | refine kD ?_ | refine kA ?_ _)); exact BK103.out) hb); have n4_ := Aside0.mk (below_step Q2 hb); clear BK101 BK102 BK103 HB; have HO106 := n0_; have BK101 := n1_; have BK102 := n2_; have BK103 := n3_; have HB := n4_; clear n0_ n1_ n2_ n3_ n4_; (try clear hb); (try clear hb2); (try clear hk); (try clear hi); (try clear ho0); obtain ⟨Ao12, co12, eo12⟩ := Kd.R_slice HO106.out; subst eo12; have hcz13_0 := cz BK103.out 0; have hcz13_1 := cz BK103.out 1; have hfz13_0 := blk_frozen BK103.out 0; have hfz13_1 := blk_frozen BK103.out 1; have hcz14_0 := cz BK102.out 0; have hcz14_1 := cz BK102.out 1; have hfz14_0 := blk_frozen BK102.out 0; have hfz14_1 := blk_frozen BK102.out 1))
 (refine bodyPost_ret (results_cell_row rfl _ _ gb102 80 #[.int .i64 a0_0, .slice Ao12 t104.length co12] (0, 0) _ rfl (by (with_reducible repeat (first | refine kN ?_ _ | refine kD ?_ | refine kA ?_ _)); refine blk_put (cs := #[.int .i64 a0_0, .slice none 0 0]) ?_ 1 _ rfl; (with_reducible repeat (first | refine kN ?_ _ | refine kD ?_ | refine kA ?_ _)); refine blk_put (cs := #[.int .i64 0, .slice none 0 0]) ?_ 0 _ rfl; (with_reducible repeat (first | refine kN ?_ _ | refine kD ?_ | refine kA ?_ _)); refine blk_far ?_ NB102_103.out _; (with_reducible repeat (first | refine kN ?_ _ | refine kD ?_ | refine kA ?_ _)); exact BK102.out) Try.underlying80 rfl (by kernel_rfl)) rfl ?_); (exact ⟨_, Q1, by (with_reducible repeat (first | apply rA | apply rN | apply rD)); exact Kd.R_mono (Kd.R_far (p := ⟨gb102, 1, none⟩) (Kd.R_far (p := ⟨gb102, 0, none⟩) (Kd.R_far (p := ⟨gb103, 1, none⟩) (Kd.R_types (Kd.R_types HO106.out BK103.out (by decide)) BK102.out (by decide)) (fun _ hk => hk.1.2) (.slice Ao12 t104.length co12)) (fun _ hk => hk.2) (.int .i64 a0_0)) (fun _ hk => hk.2) (.slice Ao12 t104.length co12)) (fun _ hk => trivial), Q2⟩)
/-! ### laws_toArchiveBoxS: function 12 -/
def laws_toArchiveBoxS.l0 : Nat → List (S78) → List (S80) → Int → Option ((List (S80)))
 | 0, _, _, _ => none
 | k + 1, x0, x3, x4 => if x4 < (x0.length : Int) then (if 0 ≤ x4 then ((laws_toArchiveBox.f k ((rd_T78 x0 x4).f0) ((rd_T78 x0 x4).f1)).bind fun bt105 => (if x4 < (x3.length : Int) then (laws_toArchiveBoxS.l0 k x0 (x3.set (x4 : Int).toNat (⟨bt105.1, bt105.2⟩ : S80)) (wrap64 (x4 + 1))) else (none))) else (none)) else (some x3)
def laws_toArchiveBoxS.f (k : Nat) (l0 : List (S78)) : Option ((List (S80))) := if 0 ≤ (l0.length : Int) then (if ((l0.length : Int) : Int).toNat ≤ 8796093022208 then (laws_toArchiveBoxS.l0 k l0 (List.replicate ((l0.length : Int) : Int).toNat z80) 0) else (none)) else (none)
set_option maxHeartbeats 8000000 in
set_option maxRecDepth 100000 in
theorem laws_toArchiveBoxS.calls (k : Nat) (A0 : Option Addr) (c0 : Nat) (l0 : List (S78)) (r : List (S80)) (w : World) (hr0 : Kd.C k78 w A0 l0.length l0) (hc0 : l0.length ≤ c0) (h : laws_toArchiveBoxS.f k l0 = some r) :
  Calls Try.prog 12 #[.slice A0 l0.length c0] w fun e w' => ∃ v0_ : Value, e = .returned (v0_) ∧ Kd.S k80 80 w' w.heap.size (fun _ => True) v0_ r ∧ Below w.heap.size w w' := by
 (have hu78 := Try.underlying78); (have hu80 := Try.underlying80); (have HR0 := Aside0.mk hr0); (have HC0 := Aside0.mk hc0); clear hr0 hc0; (have HB := Aside0.mk (Below.refl w.heap.size w)); (unfold laws_toArchiveBoxS.f at h); (have H := h); clear h; (by_cases c2 : 0 ≤ (l0.length : Int))
 ·rw [if_pos c2] at H
  (have c2b0 := eq_true c2); (have c2b1 := decide_eq_true c2); clear c2; (by_cases c3 : ((l0.length : Int) : Int).toNat ≤ 8796093022208)
  ·rw [if_pos c3] at H
   (have c3b0 := eq_true c3); (have c3b1 := decide_eq_true c3); clear c3; (obtain ⟨y101, hy101⟩ : ∃ y_ : List (S80), y_ = (List.replicate ((l0.length : Int) : Int).toNat z80) := ⟨_, rfl⟩); (replace H : (laws_toArchiveBoxS.l0 k l0 y101 0) = some r := Q3); (have Ny101 := Aside0.mk hy101); clear hy101; (have H' := Aside0.mk H); clear H; (go_enter Try.func12, Try.ntmps12); (go_wp2_with (first | ((with_reducible refine gate_dst (N := 7) rfl ?_); refine Kd.S_make k80 _ 80 rfl (N := 7) rfl 31 _ _ rfl (l0.length : Int) rfl rfl Try.underlying31 (.agg #[(.int .i64 0), (.slice none 0 0)]) 32 info80 rfl (by decide) (by omega) z80 (ok := fun _ => True) (okp := fun _ => True) (k80_mkM _ _ _ z80 (Kd.R_nil _ _ _ _ _)) (fun _ hk => hk) trivial odt (Nat.le_trans (Nat.mul_le_mul_right _ (odt : (l0.length : Int).toNat ≤ 8796093022208)) (by omega)) (Below.refl _ _) (Nat.le_refl _) ?_; intro v102 w4 ho5 hb hg_ hnew_; clear hg_ hnew_; (first | rw [← Ny101.out] at ho5 | (simp only [Int.reduceToNat] at ho5; rw [← Ny101.out] at ho5)); have hB_ := zI hb HB; have n0_ := Aside0.mk (Kd.S_lower ho5 (below_size hB_)); have n1_ := Aside0.mk (below_step hB_ hb); clear HB; have HO103 := n0_; have HB := n1_; clear n0_ n1_ hB_ hb ho5))); (go_loopg [4] k (fun kq v4 w' => ∃ (x3_1 : List (S80)) (x4_1 : Int), v4 = .int .i64 x4_1 ∧ Aside0 (laws_toArchiveBoxS.l0 kq l0 x3_1 x4_1 = some r) ∧ Aside0 (kq ≤ k) ∧ Aside0 (Kd.S k80 80 w' w.heap.size (fun _ => True) v102 x3_1) ∧ Aside0 (Below w.heap.size w w')))
   case atStart => exact ⟨(y101), (0), Q6, H', ⟨Nat.le_refl _⟩, ⟨Q15⟩, ⟨eI HB⟩⟩
   case round =>
    (clear H'); (try clear c1); (try clear c2); (try clear c2b0); (try clear c2b1); (try clear p2); (try clear c3); (try clear c3b0); (try clear c3b1); (obtain ⟨x3_1, x4_1, rfl, HA, HK1, HO_3, HB⟩ := hrel)
    cases gk with
    | zero => exact absurd HA.out (by simp [laws_toArchiveBoxS.l0])
    | succ k1 =>
     (have H := HA.out); clear HA; (simp only [laws_toArchiveBoxS.l0] at H); (by_cases c6 : x4_1 < (l0.length : Int))
     ·rw [if_pos c6] at H
      (have c6b0 := decide_eq_true c6); clear c6; (by_cases c7 : 0 ≤ x4_1)
      ·rw [if_pos c7] at H
       (have c7b0 := decide_eq_true c7); clear c7; (replace H := obS H); (obtain ⟨⟨t105, t106⟩, A8, H⟩ := H); (replace H : (if x4_1 < (x3_1.length : Int) then (laws_toArchiveBoxS.l0 k1 l0 (x3_1.set (x4_1 : Int).toNat (⟨t105, t106⟩ : S80)) (wrap64 (x4_1 + 1))) else (none)) = some r := H); (by_cases c9 : x4_1 < (x3_1.length : Int))
       ·rw [if_pos c9] at H
        (have c9b0 := decide_eq_true c9); clear c9; (obtain ⟨y109, hy109⟩ : ∃ y_ : List (S80), y_ = (x3_1.set (x4_1 : Int).toNat (⟨t105, t106⟩ : S80)) := ⟨_, rfl⟩); (replace H : (laws_toArchiveBoxS.l0 k1 l0 y109 (wrap64 (x4_1 + 1))) = some r := by first | (rw [hy109]; with_reducible exact H) | (have H2_ := (Option.bind_some _ _).symm.trans H; rw [hy109]; with_reducible exact H2_) | (have H2_ := (Option.bind_some _ _).symm.trans H; with_reducible exact H2_) | with_reducible exact H | (rw [hy109]; exact H) | exact H); (have Ny109 := Aside0.mk hy109); clear hy109; (have H' := Aside0.mk H); clear H; (have p104 : 0 ≤ (x4_1 : Int) := odt); (have q104 : x4_1 < (l0.length : Int) := odt); (obtain ⟨ad104, A104_1, c104_1, e104, hx104_0, hx104_1, hl104_1, hi104_1⟩ := at_T78 HR0.out x4_1 p104 q104); (cases e104); (replace hx104_0 := hcI HB hx104_0); (replace hx104_1 := hcI HB hx104_1); (have HR104_1 := Aside0.mk hi104_1); (have HC104_1 := Aside0.mk hl104_1); clear hi104_1 hl104_1; (replace p104 := eq_true p104); (replace q104 := eq_true q104)
        go_wp2_with (first | ((with_reducible refine gate_callee (f := 50) rfl ?_); refine gL (some 20) Try.func50 #[.agg #[.int .i64 ((rd_T78 l0 x4_1).f0), .slice A104_1 ((rd_T78 l0 x4_1).f1).length c104_1]] ?_; (with_reducible refine (laws_toArchiveBox.calls k1 ((rd_T78 l0 x4_1).f0) _ _ ((rd_T78 l0 x4_1).f1) t105 t106 _ ?side1 ?side2 A8.out).mono ?_); (case side1 => exact Kd.C_below HR104_1.out (eI HB)); (case side2 => exact HC104_1.out); rintro e w11 ⟨v107, rfl, ho0, hb⟩; refine ⟨_, rfl, ?_⟩; have n0_ := Aside0.mk (Kd.S_elder' Q16 (Kd.R_base ho0) hb); have n1_ := Aside0.mk (Kd.R_lower ho0 (below_size (eI HB))); have n2_ := Aside0.mk (sI hb HB); clear HO_3 HB; have HO_3 := n0_; have HO108 := n1_; have HB := n2_; clear n0_ n1_ n2_; (try clear hb); (try clear hb2); (try clear hk); (try clear hi); (try clear ho0); have p10 : 0 ≤ (x4_1 : Int) := odt; have q10 : (x4_1 : Int) < ((x3_1.length : Int) : Int) := odt; obtain ⟨go10, co10, eo10, gb10, gl10, cl10, HG10⟩ := Kd.S_form HO_3.out (by omega); (first | cases eo10 | (injection eo10 with ea_ en_ ec_; (first | subst ea_ | (injection ea_ with ea_; subst ea_)); subst ec_; clear en_)); have GB10 := Aside0.mk gb10; have GG10 := Aside0.mk HG10; clear gb10 gl10 HG10; obtain ⟨_, ce10, hcl10, hM10, hcc10, hfr10, _, _⟩ := Kd.S_elem HO_3.out z80 (x4_1 : Int) p10 q10; obtain ⟨ve10_1, rfl, ge10_1⟩ := k80_openM hM10; have hx10_0 : w11.cell? ⟨go10, (x4_1 : Int).toNat * 2, none⟩ = some (.int .i64 ((rd_T80 x3_1 x4_1).f0)) := hcc10 0 _ rfl; have hx10_1 : w11.cell? ⟨go10, (x4_1 : Int).toNat * 2 + 1, none⟩ = some (ve10_1) := hcc10 1 _ rfl; have hf10_0 : w11.frozen? ⟨go10, (x4_1 : Int).toNat * 2, none⟩ = false := hfr10 0; have hf10_1 : w11.frozen? ⟨go10, (x4_1 : Int).toNat * 2 + 1, none⟩ = false := hfr10 1; clear hcl10 hcc10 hfr10 hM10; replace p10 := eq_true p10; replace q10 := eq_true q10; have n_ := Aside0.mk (Kd.S_mono (ok' := (fun k_ => some k_ ≠ (v107 : Value).ownBlock)) HO_3.out (fun k_ hk => hk.2)); clear HO_3; have HO_3 := n_; clear n_; have HX12 := Aside0.mk (show Kd.S k80 80 w11 w.heap.size (fun k_ => ((fun _ => True)) k_ ∧ ¬ ((fun k_ => some k_ = (v107 : Value).ownBlock)) k_) (.slice (some ⟨go10, 0, none⟩) x3_1.length co10) x3_1 from (by (with_reducible repeat (first | apply Kd.S_alloc | apply Kd.S_drewN | apply Kd.S_drew)); exact Kd.S_mono HO_3.out (fun k_ hk => ⟨trivial, fun e_ => hk e_⟩))); obtain ⟨oki12, ce12, hcl12, hM12, hcc12, hfr12, hoki12, hH12⟩ := Kd.S_elem HX12.out z80 (x4_1 : Int) odt Q17; obtain ⟨ve12_1, rfl, ge12_1⟩ := k80_openM hM12; have HP12 := Kd.S_seg hH12 odt Q17 (seg := [.int .i64 t105, v107]) (j := 0) (show 2 ≤ 2 from by decide) (x' := (⟨t105, t106⟩ : S80)) (k80_mkM _ _ _ (⟨t105, t106⟩ : S80) (Kd.R_mono (Kd.R_tight rfl (Kd.R_mono (ok' := fun k_ => ((fun _ => True)) k_ ∧ k_ ≠ go10) (Kd.R_apart' (HO108.out) (Kd.S_typed HO_3.out) (by decide)) (fun k_ hk => ⟨trivial, fun e_ => (hk.2) (by rw [e_]; rfl)⟩))) (fun _ h_ => Or.inr (h_)))) (fun _ hk => hk) (fun k_ hk_ => ((Kd.R_mono (ok' := fun k_ => ((fun _ => True)) k_ ∧ k_ ≠ go10) (Kd.R_apart' (HO108.out) (Kd.S_typed HO_3.out) (by decide)) (fun k_ hk => ⟨trivial, fun e_ => (hk.2) (by rw [e_]; rfl)⟩))).1 k_ hk_.symm); have hx12_0 := hcc12 0 _ rfl; (try simp only [show (k80).sz = 2 from rfl, Nat.mul_one, Nat.add_zero] at hx12_0); have hf12_0 := hfr12 0; (try simp only [show (k80).sz = 2 from rfl, Nat.mul_one, Nat.add_zero] at hf12_0); have hx12_1 := hcc12 1 _ rfl; (try simp only [show (k80).sz = 2 from rfl, Nat.mul_one, Nat.add_zero] at hx12_1); have hf12_1 := hfr12 1; (try simp only [show (k80).sz = 2 from rfl, Nat.mul_one, Nat.add_zero] at hf12_1); clear hcl12 hcc12 hfr12 hM12 hoki12 hH12; have oc12_1 : ∀ (a_ : Addr) (m_ : Mode) (w_ : World), (store a_ (v107 : Value) m_).run Try.prog w_ = stored Try.prog w_ a_ v107 m_ := fun a_ m_ w_ => run_store Try.prog w_ a_ _ m_ (by obtain ⟨_, _, e_⟩ := Kd.R_slice HO108.out; rw [e_]; rfl)) | ((with_reducible refine gate_store (t := 80) (p := 21) rfl ?_); refine store_event (t := 80) (p := 21) (v := ?vo_w13) (w1 := ((w11.setCell ⟨go10, (x4_1 : Int).toNat * 2, none⟩ (.int .i64 t105)).setCell ⟨go10, (x4_1 : Int).toNat * 2 + 1, none⟩ (v107))) ?hg ?ho ?hn ?hr ?_; (case ho => rfl); (case hg => rfl); (case hn => rfl); (case hr => first | (go_simp; done) | (go_simp; rfl)); intro w13 hw; have hg : w11.grownBy w13 (some go10) := (by rw [hw]; exact HP12.2); have hp_ : Kd.S k80 80 w13 w.heap.size (fun _ => True) (.slice (some ⟨go10, 0, none⟩) x3_1.length co10) y109 := (by rw [hw, Ny109.out]; exact HP12.1); clear HP12; have n0_ := Aside0.mk (hp_); have n1_ := Aside0.mk ((by rw [hw]; exact below_set (below_set (HB.out) GB10.out) GB10.out : Below w.heap.size w w13)); clear HO_3 HB HO108; have HO_3 := n0_; have HB := n1_; clear n0_ n1_ hg hw hp_))
        go_roundg k1
        case measure => have := HK1.out; omega
        case rel => exact ⟨(y109), (wrap64 (x4_1 + 1)), Q6, H', ⟨Q7⟩, ⟨Q16⟩, ⟨eI HB⟩⟩
       ·rw [if_neg c9] at H
        exact Q8
      ·rw [if_neg c7] at H
       exact Q8
     ·rw [if_neg c6] at H
      (have c6b0 := decide_eq_false c6); clear c6; (obtain rfl := Option.some.inj H); (go_wp2); go_ret; (exact ⟨_, Q1, Q16, eI HB⟩)
  ·rw [if_neg c3] at H
   exact Q8
 ·rw [if_neg c2] at H
  exact Q8
/-! ### laws_eqItem: function 58 -/
def laws_eqItem.f (a0_0 : Int) (a0_1 : Int) (a0_2 : Int) (a1_0 : Int) (a1_1 : Int) (a1_2 : Int) : Option (Bool) := if a0_0 = a1_0 then (if a0_1 = a1_1 then (if a0_2 = a1_2 then (some true) else (some false)) else (some false)) else (some false)
set_option maxHeartbeats 8000000 in
set_option maxRecDepth 100000 in
theorem laws_eqItem.calls (a0_0 : Int) (a0_1 : Int) (a0_2 : Int) (a1_0 : Int) (a1_1 : Int) (a1_2 : Int) (r : Bool) (w : World) (h : laws_eqItem.f a0_0 a0_1 a0_2 a1_0 a1_1 a1_2 = some r) (ht_ : Aside0 (r = true)) :
  Calls Try.prog 58 #[.agg #[.int .i64 a0_0, .int .i64 a0_1, .int .i64 a0_2], .agg #[.int .i64 a1_0, .int .i64 a1_1, .int .i64 a1_2]] w fun e w' => e = .returned (.bool r) ∧ Below w.heap.size w w' := by
 (have hu83 := Try.underlying83); (have HB := Aside0.mk (Below.refl w.heap.size w)); (unfold laws_eqItem.f at h); (have H := h); clear h; (by_cases c3 : a0_0 = a1_0)
 ·rw [if_pos c3] at H
  (have c3b0 : (a0_0 == a1_0) = true := beq_iff_eq.mpr c3); (have c3b1 : (a0_0 != a1_0) = false := bne_eq_false_iff_eq.mpr c3); clear c3; (by_cases c4 : a0_1 = a1_1)
  ·rw [if_pos c4] at H
   (have c4b0 : (a0_1 == a1_1) = true := beq_iff_eq.mpr c4); (have c4b1 : (a0_1 != a1_1) = false := bne_eq_false_iff_eq.mpr c4); clear c4; (by_cases c5 : a0_2 = a1_2); (· (rw [if_pos c5] at H); (have c5b0 : (a0_2 == a1_2) = true := beq_iff_eq.mpr c5); (have c5b1 : (a0_2 != a1_2) = false := bne_eq_false_iff_eq.mpr c5); clear c5; (obtain rfl := Option.some.inj H); (go_enter Try.func58, Try.ntmps58); (go_wp2_with (first | ((with_reducible refine gate_dst (N := 2) rfl ?_); refine box_event ?hg (N := 2) ?hd (cs := #[.int .i64 a0_0, .int .i64 a0_1, .int .i64 a0_2]) (t := 83) ?hr ?_; (case hd => rfl); (case hg => rfl); (case hr => first | (go_simp; done) | (go_simp; rfl)); intro gb101 hg w6 hbox hb; have hB_ := zI hb HB; have n0_ := Aside0.mk (below_step hB_ hb); have n1_ := Aside0.mk (hbox); have n2_ := Aside0.mk (bx0 hg hB_); have n3_ := n2_; clear HB; have HB := n0_; have BK101 := n1_; have GW101 := n2_; have GE101 := n3_; clear n0_ n1_ n2_ n3_ hB_ hb hbox hg) | ((with_reducible refine gate_dst (N := 3) rfl ?_); refine box_event ?hg (N := 3) ?hd (cs := #[.int .i64 a1_0, .int .i64 a1_1, .int .i64 a1_2]) (t := 83) ?hr ?_; (case hd => rfl); (case hg => rfl); (case hr => first | (go_simp; done) | (go_simp; rfl)); intro gb102 hg w7 hbox hb; have n0_ := Aside0.mk (kbI hb BK101); have hB_ := zI hb HB; have n1_ := Aside0.mk (below_step hB_ hb); have n2_ := Aside0.mk (hbox); have n3_ := Aside0.mk (bx0 hg hB_); have n4_ := n3_; have n5_ := Aside0.mk ((Q0 : gb101 ≠ gb102)); have n6_ := Aside0.mk (Ne.symm n5_.out); clear BK101 HB; have BK101 := n0_; have HB := n1_; have BK102 := n2_; have GW102 := n3_; have GE102 := n4_; have NB101_102 := n5_; have NB102_101 := n6_; clear n0_ n1_ n2_ n3_ n4_ n5_ n6_ hB_ hb hbox hg; have hnb8 := NB101_102.out; have hnc8 := NB102_101.out; have hcz9_0 := cz BK101.out 0; have hcz9_1 := cz BK101.out 1; have hcz9_2 := cz BK101.out 2; have hfz9_0 := blk_frozen BK101.out 0; have hfz9_1 := blk_frozen BK101.out 1; have hfz9_2 := blk_frozen BK101.out 2; have hcz10_0 := cz BK102.out 0; have hcz10_1 := cz BK102.out 1; have hcz10_2 := cz BK102.out 2; have hfz10_0 := blk_frozen BK102.out 0; have hfz10_1 := blk_frozen BK102.out 1; have hfz10_2 := blk_frozen BK102.out 2))); go_ret; (exact Q18)); (· (rw [if_neg c5] at H); (have c5b0 : (a0_2 == a1_2) = false := beq_eq_false_iff_ne.mpr c5); (have c5b1 : (a0_2 != a1_2) = true := bne_iff_ne.mpr c5); (obtain rfl := Option.some.inj H); (exact Q19))
  ·rw [if_neg c4] at H
   (have c4b0 : (a0_1 == a1_1) = false := beq_eq_false_iff_ne.mpr c4); (have c4b1 : (a0_1 != a1_1) = true := bne_iff_ne.mpr c4); (obtain rfl := Option.some.inj H); (exact Q19)
 ·rw [if_neg c3] at H
  (have c3b0 : (a0_0 == a1_0) = false := beq_eq_false_iff_ne.mpr c3); (have c3b1 : (a0_0 != a1_0) = true := bne_iff_ne.mpr c3); (obtain rfl := Option.some.inj H); (exact Q19)
/-! ### laws_eqItemS: function 15 -/
def laws_eqItemS.l0 : Nat → List (S83) → List (S83) → Int → Option (Bool)
 | 0, _, _, _ => none
 | k + 1, x0, x1, x5 => if x5 < (x0.length : Int) then (if 0 ≤ x5 then (if x5 < (x1.length : Int) then ((laws_eqItem.f ((rd_T83 x0 x5).f0) ((rd_T83 x0 x5).f1) ((rd_T83 x0 x5).f2) ((rd_T83 x1 x5).f0) ((rd_T83 x1 x5).f1) ((rd_T83 x1 x5).f2)).bind fun t103 => (if t103 = true then (laws_eqItemS.l0 k x0 x1 (wrap64 (x5 + 1))) else (some false))) else (none)) else (none)) else (some true)
def laws_eqItemS.f (k : Nat) (l0 : List (S83)) (l1 : List (S83)) : Option (Bool) := if (l0.length : Int) = (l1.length : Int) then (laws_eqItemS.l0 k l0 l1 0) else (some false)
def laws_eqItemS.T6 : Bool × List (List Nat × List Nat) := (true, [([], []), ([], []), ([0, 1], [0, 1]), ([2], [2]), ([], []), ([], []), ([4, 5], [4, 5]), ([6], [6]), ([3, 7], [3, 7]), ([8], [8])])
def laws_eqItemS.B6 : List Nat := [0, 0, 3, 7, 0, 0, 48, 112, 255, 511]
theorem laws_eqItemS.tab6 : rtab .any (opsOf Try.f15 6) = laws_eqItemS.T6 := by kernel_rfl
theorem laws_eqItemS.bits6 : waitsOk laws_eqItemS.T6.2 laws_eqItemS.B6 = true := by kernel_rfl
set_option maxHeartbeats 8000000 in
set_option maxRecDepth 100000 in
theorem laws_eqItemS.calls (k : Nat) (A0 : Option Addr) (c0 : Nat) (l0 : List (S83)) (A1 : Option Addr) (c1 : Nat) (l1 : List (S83)) (r : Bool) (w : World) (hr0 : Kd.C k83 w A0 l0.length l0) (hc0 : l0.length ≤ c0) (hr1 : Kd.C k83 w A1 l1.length l1) (hc1 : l1.length ≤ c1) (h : laws_eqItemS.f k l0 l1 = some r) (ht_ : Aside0 (r = true)) :
  Calls Try.prog 15 #[.slice A0 l0.length c0, .slice A1 l1.length c1] w fun e w' => e = .returned (.bool r) ∧ Below w.heap.size w w' := by
 (have hu83 := Try.underlying83); (have HR0 := Aside0.mk hr0); (have HC0 := Aside0.mk hc0); clear hr0 hc0; (have HR1 := Aside0.mk hr1); (have HC1 := Aside0.mk hc1); clear hr1 hc1; (have HB := Aside0.mk (Below.refl w.heap.size w)); (unfold laws_eqItemS.f at h); (have H := h); clear h; (by_cases c3 : (l0.length : Int) = (l1.length : Int))
 ·rw [if_pos c3] at H
  (have c3b0 : ((l0.length : Int) == (l1.length : Int)) = true := beq_iff_eq.mpr c3); (have c3b1 : ((l0.length : Int) != (l1.length : Int)) = false := bne_eq_false_iff_eq.mpr c3); (have c3b2 : (l0.length == l1.length) = true := Q20); clear c3; (have H' := Aside0.mk H); clear H; (go_enter Try.func15, Try.ntmps15); (go_wp2); (go_loopg [5] k (fun kq v5 w' => ∃ (x5_1 : Int), v5 = .int .i64 x5_1 ∧ Aside0 (laws_eqItemS.l0 kq l0 l1 x5_1 = some r) ∧ Aside0 (kq ≤ k) ∧ Aside0 (Below w.heap.size w w')))
  case atStart => exact Q21
  case round =>
   (clear H'); (try clear c1); (try clear p2); (try clear c3); (try clear c3b0); (try clear c3b1); (try clear c3b2); (obtain ⟨x5_1, rfl, HA, HK1, HB⟩ := hrel)
   cases gk with
   | zero => exact absurd HA.out (by simp [laws_eqItemS.l0])
   | succ k1 =>
    (have H := HA.out); clear HA; (simp only [laws_eqItemS.l0] at H); (by_cases c4 : x5_1 < (l0.length : Int))
    ·rw [if_pos c4] at H
     (have c4b0 := decide_eq_true c4); clear c4; (by_cases c5 : 0 ≤ x5_1)
     ·rw [if_pos c5] at H
      (have c5b0 := decide_eq_true c5); clear c5; (by_cases c6 : x5_1 < (l1.length : Int))
      ·rw [if_pos c6] at H
       (have c6b0 := decide_eq_true c6); clear c6; (replace H := obS H); (obtain ⟨t103, A7, H⟩ := H); (by_cases c8 : t103 = true)
       ·subst c8
        (rw [if_pos rfl] at H); (have H' := Aside0.mk H); clear H; (try go_wp2); (have n0_ := Aside0.mk (below_drew1 HB.out)); clear HB; (have HB := n0_); clear n0_; (have p101 : 0 ≤ (x5_1 : Int) := odt); (have q101 : x5_1 < (l0.length : Int) := odt); (obtain ⟨ad101, e101, hx101_0, hx101_1, hx101_2⟩ := at_T83 HR0.out x5_1 p101 q101); (have hw101_2 := hx101_2); (have hw101_1 := hx101_1); (have hw101_0 := hx101_0); (cases e101); (replace hx101_0 := hcI HB hx101_0); (replace hx101_1 := hcI HB hx101_1); (replace hx101_2 := hcI HB hx101_2); (replace p101 := eq_true p101); (replace q101 := eq_true q101); (have p102 : 0 ≤ (x5_1 : Int) := odt); (have q102 : x5_1 < (l1.length : Int) := odt); (obtain ⟨ad102, e102, hx102_0, hx102_1, hx102_2⟩ := at_T83 HR1.out x5_1 p102 q102); (have hw102_2 := hx102_2); (have hw102_1 := hx102_1); (have hw102_0 := hx102_0); (cases e102); (replace hx102_0 := hcI HB hx102_0); (replace hx102_1 := hcI HB hx102_1); (replace hx102_2 := hcI HB hx102_2); (replace p102 := eq_true p102); (replace q102 := eq_true q102); (refine start_ (n := 10) (S := fun w' => w'.cell? (ad101.add ((x5_1).toNat * 3)) = some (.int .i64 ((rd_T83 l0 x5_1).f0)) ∧ w'.cell? ⟨(ad101.add ((x5_1).toNat * 3)).block, (ad101.add ((x5_1).toNat * 3)).off + 1, none⟩ = some (.int .i64 ((rd_T83 l0 x5_1).f1)) ∧ w'.cell? ⟨(ad101.add ((x5_1).toNat * 3)).block, (ad101.add ((x5_1).toNat * 3)).off + 2, none⟩ = some (.int .i64 ((rd_T83 l0 x5_1).f2)) ∧ w'.cell? (ad102.add ((x5_1).toNat * 3)) = some (.int .i64 ((rd_T83 l1 x5_1).f0)) ∧ w'.cell? ⟨(ad102.add ((x5_1).toNat * 3)).block, (ad102.add ((x5_1).toNat * 3)).off + 1, none⟩ = some (.int .i64 ((rd_T83 l1 x5_1).f1)) ∧ w'.cell? ⟨(ad102.add ((x5_1).toNat * 3)).block, (ad102.add ((x5_1).toNat * 3)).off + 2, none⟩ = some (.int .i64 ((rd_T83 l1 x5_1).f2))) (ds := []) (cn 10 0) (by kernel_rfl) rfl (by kernel_rfl) ⟨(hcI HB hw101_0), (hcI HB hw101_1), (hcI HB hw101_2), (hcI HB hw102_0), (hcI HB hw102_1), (hcI HB hw102_2)⟩ (fun hHeld => ?_); refine with_tabW laws_eqItemS.tab6 laws_eqItemS.bits6 (fun HT_ HW_ => ?_)); (generalize wr.drew = w9 at HB hx101_0 hx101_1 hx101_2 hx102_0 hx102_1 hx102_2 hHeld ⊢); (refine pB 0 (cn 10 1) (some 17) HT_ (h := ?_)); (refine pB 1 (cn 10 2) (some 18) HT_ (h := ?_)); (refine pB 2 (cn 10 3) (some 19) HT_ (h := ?_)); (refine pB 4 (cb 10 23) (some 21) HT_ (h := ?_)); (refine pB 5 (cb 10 55) (some 22) HT_ (h := ?_)); (refine pB 6 (cb 10 119) (some 23) HT_ (h := ?_)); (refine tB 3 (cn 10 7) (some 20) HT_ HW_ hHeld (h := ?_)); (refine tB 7 (cn 10 8) (some 24) HT_ HW_ hHeld (h := ?_)); (refine oN 8 (some 25) (cn 10 9) HT_ (fun K hK => ?_))
        (refine gG Try.func58 #[.agg #[.int .i64 ((rd_T83 l0 x5_1).f0), .int .i64 ((rd_T83 l0 x5_1).f1), .int .i64 ((rd_T83 l0 x5_1).f2)], .agg #[.int .i64 ((rd_T83 l1 x5_1).f0), .int .i64 ((rd_T83 l1 x5_1).f1), .int .i64 ((rd_T83 l1 x5_1).f2)]] ?_); (with_reducible refine (laws_eqItem.calls ((rd_T83 l0 x5_1).f0) ((rd_T83 l0 x5_1).f1) ((rd_T83 l0 x5_1).f2) ((rd_T83 l1 x5_1).f0) ((rd_T83 l1 x5_1).f1) ((rd_T83 l1 x5_1).f2) true _ A7.out ⟨rfl⟩).mono ?_); (rintro e w10 ⟨rfl, hb⟩); (refine ⟨_, rfl, ?_⟩); (have n0_ := Aside0.mk (sI hb HB)); clear HB; (have HB := n0_); clear n0_; ((try clear hb)); ((try clear hb2)); ((try clear hk)); ((try clear hi)); (refine hK.out _ _ ⟨(hcI HB hw101_0), (hcI HB hw101_1), (hcI HB hw101_2), (hcI HB hw102_0), (hcI HB hw102_1), (hcI HB hw102_2)⟩ (fun hHeld => ?_)); clear hK K; (refine nP (some 25) (h := ?_)); (refine pB 9 (cn 10 10) (some 26) HT_ (h := ?_)); (refine done_ (done_of HT_.out (by kernel_rfl)) ?_); (try go_wp2); go_roundg k1
        case measure => have := HK1.out; omega
        case rel => exact Q22
       ·replace c8 := Bool.eq_false_iff.mpr c8
        subst c8; (rw [if_neg (show ¬ (false = true) by decide)] at H); (obtain rfl := Option.some.inj H); (exact Q19)
      ·rw [if_neg c6] at H
       exact Q8
     ·rw [if_neg c5] at H
      exact Q8
    ·rw [if_neg c4] at H
     (have c4b0 := decide_eq_false c4); clear c4; (obtain rfl := Option.some.inj H); (go_wp2); go_ret; (exact Q18)
 ·rw [if_neg c3] at H
  (have c3b0 : ((l0.length : Int) == (l1.length : Int)) = false := beq_eq_false_iff_ne.mpr c3); (have c3b1 : ((l0.length : Int) != (l1.length : Int)) = true := bne_iff_ne.mpr c3); (have c3b2 : (l0.length == l1.length) = false := Q20); (obtain rfl := Option.some.inj H); (exact Q19)
/-! ### laws_eqIntS: function 14 -/
def laws_eqIntS.l0 : Nat → List Int → List Int → Int → Option (Bool)
 | 0, _, _, _ => none
 | k + 1, x0, x1, x5 => if x5 < (x0.length : Int) then (if 0 ≤ x5 then (if x5 < (x1.length : Int) then (if (rd x0 x5) = (rd x1 x5) then (laws_eqIntS.l0 k x0 x1 (wrap64 (x5 + 1))) else (some false)) else (none)) else (none)) else (some true)
def laws_eqIntS.f (k : Nat) (l0 : List Int) (l1 : List Int) : Option (Bool) := if (l0.length : Int) = (l1.length : Int) then (laws_eqIntS.l0 k l0 l1 0) else (some false)
set_option maxHeartbeats 8000000 in
set_option maxRecDepth 100000 in
theorem laws_eqIntS.calls (k : Nat) (A0 : Option Addr) (c0 : Nat) (l0 : List Int) (A1 : Option Addr) (c1 : Nat) (l1 : List Int) (r : Bool) (w : World) (hr0 : Kd.C (Kd.int .i64) w A0 l0.length l0) (hc0 : l0.length ≤ c0) (hr1 : Kd.C (Kd.int .i64) w A1 l1.length l1) (hc1 : l1.length ≤ c1) (h : laws_eqIntS.f k l0 l1 = some r) (ht_ : Aside0 (r = true)) :
  Calls Try.prog 14 #[.slice A0 l0.length c0, .slice A1 l1.length c1] w fun e w' => e = .returned (.bool r) ∧ Drawn0 w w' := by
 (have HR0 := Aside0.mk hr0); (have HC0 := Aside0.mk hc0); clear hr0 hc0; (have HR1 := Aside0.mk hr1); (have HC1 := Aside0.mk hc1); clear hr1 hc1; (unfold laws_eqIntS.f at h); (have H := h); clear h; (by_cases c3 : (l0.length : Int) = (l1.length : Int))
 ·rw [if_pos c3] at H
  (have c3b0 : ((l0.length : Int) == (l1.length : Int)) = true := beq_iff_eq.mpr c3); (have c3b1 : ((l0.length : Int) != (l1.length : Int)) = false := bne_eq_false_iff_eq.mpr c3); (have c3b2 : (l0.length == l1.length) = true := Q20); clear c3; (have H' := Aside0.mk H); clear H; (go_enter Try.func14, Try.ntmps14); (go_wp2); (repeat (go_quiet (fail); try go_wp2)); (go_loopg [5] k (fun kq v5 w' => ∃ (x5_1 : Int), v5 = .int .i64 x5_1 ∧ Aside0 (laws_eqIntS.l0 kq l0 l1 x5_1 = some r) ∧ Aside0 (kq ≤ k) ∧ Drawn0 w w'))
  case atStart => exact Q23
  case round =>
   (clear H'); (try clear c1); (try clear p2); (try clear c3); (try clear c3b0); (try clear c3b1); (try clear c3b2); (obtain ⟨x5_1, rfl, HA, HK1, ⟨m1, rfl⟩⟩ := hrel)
   cases gk with
   | zero => exact absurd HA.out (by simp [laws_eqIntS.l0])
   | succ k1 =>
    (have H := HA.out); clear HA; (simp only [laws_eqIntS.l0] at H); (by_cases c4 : x5_1 < (l0.length : Int))
    ·rw [if_pos c4] at H
     (have c4b0 := decide_eq_true c4); clear c4; (by_cases c5 : 0 ≤ x5_1)
     ·rw [if_pos c5] at H
      (have c5b0 := decide_eq_true c5); clear c5; (by_cases c6 : x5_1 < (l1.length : Int))
      ·rw [if_pos c6] at H
       (have c6b0 := decide_eq_true c6); clear c6; (by_cases c7 : (rd l0 x5_1) = (rd l1 x5_1))
       ·rw [if_pos c7] at H
        (have c7b0 : ((rd l0 x5_1) == (rd l1 x5_1)) = true := beq_iff_eq.mpr c7); (have c7b1 : ((rd l0 x5_1) != (rd l1 x5_1)) = false := bne_eq_false_iff_eq.mpr c7); clear c7; (have H' := Aside0.mk H); clear H; (have p101 : 0 ≤ (x5_1 : Int) := odt); (have q101 : x5_1 < (l0.length : Int) := odt); (obtain ⟨ad101, e101, hx101_0⟩ := Kd.at_int HR0.out x5_1 p101 q101); (cases e101); (replace p101 := eq_true p101); (replace q101 := eq_true q101); (have p102 : 0 ≤ (x5_1 : Int) := odt); (have q102 : x5_1 < (l1.length : Int) := odt); (obtain ⟨ad102, e102, hx102_0⟩ := Kd.at_int HR1.out x5_1 p102 q102); (cases e102); (replace p102 := eq_true p102); (replace q102 := eq_true q102); (go_wp2); (repeat (go_quiet (fail); try go_wp2)); go_roundg k1
        case measure => have := HK1.out; omega
        case rel => exact Q24
       ·rw [if_neg c7] at H
        (have c7b0 : ((rd l0 x5_1) == (rd l1 x5_1)) = false := beq_eq_false_iff_ne.mpr c7); (have c7b1 : ((rd l0 x5_1) != (rd l1 x5_1)) = true := bne_iff_ne.mpr c7); (obtain rfl := Option.some.inj H); (have p101 : 0 ≤ (x5_1 : Int) := odt); (have q101 : x5_1 < (l0.length : Int) := odt); (obtain ⟨ad101, e101, hx101_0⟩ := Kd.at_int HR0.out x5_1 p101 q101); (cases e101); (replace p101 := eq_true p101); (replace q101 := eq_true q101); (have p102 : 0 ≤ (x5_1 : Int) := odt); (have q102 : x5_1 < (l1.length : Int) := odt); (obtain ⟨ad102, e102, hx102_0⟩ := Kd.at_int HR1.out x5_1 p102 q102); (cases e102); (replace p102 := eq_true p102); (replace q102 := eq_true q102); (go_wp2); (repeat (go_quiet (fail); try go_wp2)); go_ret; (exact Q25)
      ·rw [if_neg c6] at H
       exact Q8
     ·rw [if_neg c5] at H
      exact Q8
    ·rw [if_neg c4] at H
     (have c4b0 := decide_eq_false c4); clear c4; (obtain rfl := Option.some.inj H); (go_wp2); (repeat (go_quiet (fail); try go_wp2)); go_ret; (exact Q25)
 ·rw [if_neg c3] at H
  (have c3b0 : ((l0.length : Int) == (l1.length : Int)) = false := beq_eq_false_iff_ne.mpr c3); (have c3b1 : ((l0.length : Int) != (l1.length : Int)) = true := bne_iff_ne.mpr c3); (have c3b2 : (l0.length == l1.length) = false := Q20); (obtain rfl := Option.some.inj H); (exact Q19)
/-! ### laws_eqArchiveBox: function 59 -/
def laws_eqArchiveBox.f (k : Nat) (a0_0 : Int) (l0_1 : List Int) (a1_0 : Int) (l1_1 : List Int) : Option (Bool) := if a0_0 = a1_0 then ((laws_eqIntS.f k l0_1 l1_1).bind fun t103 => (if t103 = true then (some true) else (some false))) else (some false)
set_option maxHeartbeats 8000000 in
set_option maxRecDepth 100000 in
theorem laws_eqArchiveBox.calls (k : Nat) (a0_0 : Int) (A0_1 : Option Addr) (c0_1 : Nat) (l0_1 : List Int) (a1_0 : Int) (A1_1 : Option Addr) (c1_1 : Nat) (l1_1 : List Int) (r : Bool) (w : World) (hr0_1 : Kd.C (Kd.int .i64) w A0_1 l0_1.length l0_1) (hc0_1 : l0_1.length ≤ c0_1) (hr1_1 : Kd.C (Kd.int .i64) w A1_1 l1_1.length l1_1) (hc1_1 : l1_1.length ≤ c1_1) (h : laws_eqArchiveBox.f k a0_0 l0_1 a1_0 l1_1 = some r) (ht_ : Aside0 (r = true)) :
  Calls Try.prog 59 #[.agg #[.int .i64 a0_0, .slice A0_1 l0_1.length c0_1], .agg #[.int .i64 a1_0, .slice A1_1 l1_1.length c1_1]] w fun e w' => e = .returned (.bool r) ∧ Below w.heap.size w w' := by
 (have hu80 := Try.underlying80); (have HR0_1 := Aside0.mk hr0_1); (have HC0_1 := Aside0.mk hc0_1); clear hr0_1 hc0_1; (have HR1_1 := Aside0.mk hr1_1); (have HC1_1 := Aside0.mk hc1_1); clear hr1_1 hc1_1; (have HB := Aside0.mk (Below.refl w.heap.size w)); (unfold laws_eqArchiveBox.f at h); (have H := h); clear h; (by_cases c3 : a0_0 = a1_0)
 ·rw [if_pos c3] at H
  (have c3b0 : (a0_0 == a1_0) = true := beq_iff_eq.mpr c3); (have c3b1 : (a0_0 != a1_0) = false := bne_eq_false_iff_eq.mpr c3); clear c3; (replace H := obS H); (obtain ⟨t103, A4, H⟩ := H); (by_cases c5 : t103 = true); (· subst c5; (rw [if_pos rfl] at H); (obtain rfl := Option.some.inj H); (go_enter Try.func59, Try.ntmps59); (go_wp2_with (first | ((with_reducible refine gate_dst (N := 2) rfl ?_); refine box_event ?hg (N := 2) ?hd (cs := #[.int .i64 a0_0, .slice A0_1 l0_1.length c0_1]) (t := 80) ?hr ?_; (case hd => rfl); (case hg => rfl); (case hr => first | (go_simp; done) | (go_simp; rfl)); intro gb101 hg w6 hbox hb; have hB_ := zI hb HB; have n0_ := Aside0.mk (below_step hB_ hb); have n1_ := Aside0.mk (hbox); have n2_ := Aside0.mk (bx0 hg hB_); have n3_ := n2_; clear HB; have HB := n0_; have BK101 := n1_; have GW101 := n2_; have GE101 := n3_; clear n0_ n1_ n2_ n3_ hB_ hb hbox hg) | ((with_reducible refine gate_dst (N := 3) rfl ?_); refine box_event ?hg (N := 3) ?hd (cs := #[.int .i64 a1_0, .slice A1_1 l1_1.length c1_1]) (t := 80) ?hr ?_; (case hd => rfl); (case hg => rfl); (case hr => first | (go_simp; done) | (go_simp; rfl)); intro gb102 hg w7 hbox hb; have n0_ := Aside0.mk (kbI hb BK101); have hB_ := zI hb HB; have n1_ := Aside0.mk (below_step hB_ hb); have n2_ := Aside0.mk (hbox); have n3_ := Aside0.mk (bx0 hg hB_); have n4_ := n3_; have n5_ := Aside0.mk ((Q0 : gb101 ≠ gb102)); have n6_ := Aside0.mk (Ne.symm n5_.out); clear BK101 HB; have BK101 := n0_; have HB := n1_; have BK102 := n2_; have GW102 := n3_; have GE102 := n4_; have NB101_102 := n5_; have NB102_101 := n6_; clear n0_ n1_ n2_ n3_ n4_ n5_ n6_ hB_ hb hbox hg; have hnb8 := NB101_102.out; have hnc8 := NB102_101.out; have hcz9_0 := cz BK101.out 0; have hcz9_1 := cz BK101.out 1; have hfz9_0 := blk_frozen BK101.out 0; have hfz9_1 := blk_frozen BK101.out 1; have hcz10_0 := cz BK102.out 0; have hcz10_1 := cz BK102.out 1; have hfz10_0 := blk_frozen BK102.out 0; have hfz10_1 := blk_frozen BK102.out 1) | ((with_reducible refine gate_callee (f := 14) rfl ?_); refine gL (some 14) Try.func14 #[.slice A0_1 l0_1.length c0_1, .slice A1_1 l1_1.length c1_1] ?_; (with_reducible refine (laws_eqIntS.calls k _ _ l0_1 _ _ l1_1 true _ ?side1 ?side2 ?side3 ?side4 A4.out ⟨rfl⟩).mono ?_); (case side1 => exact Q26); (case side2 => exact HC0_1.out); (case side3 => exact Kd.C_below HR1_1.out (eI HB)); (case side4 => exact HC1_1.out); rintro e w' ⟨rfl, ⟨nd, rfl⟩⟩; refine ⟨_, rfl, ?_⟩))); go_ret; (exact Q18)); (· (replace c5 := Bool.eq_false_iff.mpr c5); subst c5; (rw [if_neg (show ¬ (false = true) by decide)] at H); (obtain rfl := Option.some.inj H); (exact Q19))
 ·rw [if_neg c3] at H
  (have c3b0 : (a0_0 == a1_0) = false := beq_eq_false_iff_ne.mpr c3); (have c3b1 : (a0_0 != a1_0) = true := bne_iff_ne.mpr c3); (obtain rfl := Option.some.inj H); (exact Q19)
/-! ### laws_eqArchiveBoxS: function 16 -/
def laws_eqArchiveBoxS.l0 : Nat → List (S80) → List (S80) → Int → Option (Bool)
 | 0, _, _, _ => none
 | k + 1, x0, x1, x5 => if x5 < (x0.length : Int) then (if 0 ≤ x5 then (if x5 < (x1.length : Int) then ((laws_eqArchiveBox.f k ((rd_T80 x0 x5).f0) ((rd_T80 x0 x5).f1) ((rd_T80 x1 x5).f0) ((rd_T80 x1 x5).f1)).bind fun t103 => (if t103 = true then (laws_eqArchiveBoxS.l0 k x0 x1 (wrap64 (x5 + 1))) else (some false))) else (none)) else (none)) else (some true)
def laws_eqArchiveBoxS.f (k : Nat) (l0 : List (S80)) (l1 : List (S80)) : Option (Bool) := if (l0.length : Int) = (l1.length : Int) then (laws_eqArchiveBoxS.l0 k l0 l1 0) else (some false)
def laws_eqArchiveBoxS.T6 : Bool × List (List Nat × List Nat) := (true, [([], []), ([], []), ([0, 1], [0, 1]), ([2], [2]), ([], []), ([], []), ([4, 5], [4, 5]), ([6], [6]), ([3, 7], [3, 7]), ([8], [8])])
def laws_eqArchiveBoxS.B6 : List Nat := [0, 0, 3, 7, 0, 0, 48, 112, 255, 511]
theorem laws_eqArchiveBoxS.tab6 : rtab .any (opsOf Try.f16 6) = laws_eqArchiveBoxS.T6 := by kernel_rfl
theorem laws_eqArchiveBoxS.bits6 : waitsOk laws_eqArchiveBoxS.T6.2 laws_eqArchiveBoxS.B6 = true := by kernel_rfl
set_option maxHeartbeats 8000000 in
set_option maxRecDepth 100000 in
theorem laws_eqArchiveBoxS.calls (k : Nat) (A0 : Option Addr) (c0 : Nat) (l0 : List (S80)) (A1 : Option Addr) (c1 : Nat) (l1 : List (S80)) (r : Bool) (w : World) (hr0 : Kd.C k80 w A0 l0.length l0) (hc0 : l0.length ≤ c0) (hr1 : Kd.C k80 w A1 l1.length l1) (hc1 : l1.length ≤ c1) (h : laws_eqArchiveBoxS.f k l0 l1 = some r) (ht_ : Aside0 (r = true)) :
  Calls Try.prog 16 #[.slice A0 l0.length c0, .slice A1 l1.length c1] w fun e w' => e = .returned (.bool r) ∧ Below w.heap.size w w' := by
 (have hu80 := Try.underlying80); (have HR0 := Aside0.mk hr0); (have HC0 := Aside0.mk hc0); clear hr0 hc0; (have HR1 := Aside0.mk hr1); (have HC1 := Aside0.mk hc1); clear hr1 hc1; (have HB := Aside0.mk (Below.refl w.heap.size w)); (unfold laws_eqArchiveBoxS.f at h); (have H := h); clear h; (by_cases c3 : (l0.length : Int) = (l1.length : Int))
 ·rw [if_pos c3] at H
  (have c3b0 : ((l0.length : Int) == (l1.length : Int)) = true := beq_iff_eq.mpr c3); (have c3b1 : ((l0.length : Int) != (l1.length : Int)) = false := bne_eq_false_iff_eq.mpr c3); (have c3b2 : (l0.length == l1.length) = true := Q20); clear c3; (have H' := Aside0.mk H); clear H; (go_enter Try.func16, Try.ntmps16); (go_wp2); (go_loopg [5] k (fun kq v5 w' => ∃ (x5_1 : Int), v5 = .int .i64 x5_1 ∧ Aside0 (laws_eqArchiveBoxS.l0 kq l0 l1 x5_1 = some r) ∧ Aside0 (kq ≤ k) ∧ Aside0 (Below w.heap.size w w')))
  case atStart => exact Q21
  case round =>
   (clear H'); (try clear c1); (try clear p2); (try clear c3); (try clear c3b0); (try clear c3b1); (try clear c3b2); (obtain ⟨x5_1, rfl, HA, HK1, HB⟩ := hrel)
   cases gk with
   | zero => exact absurd HA.out (by simp [laws_eqArchiveBoxS.l0])
   | succ k1 =>
    (have H := HA.out); clear HA; (simp only [laws_eqArchiveBoxS.l0] at H); (by_cases c4 : x5_1 < (l0.length : Int))
    ·rw [if_pos c4] at H
     (have c4b0 := decide_eq_true c4); clear c4; (by_cases c5 : 0 ≤ x5_1)
     ·rw [if_pos c5] at H
      (have c5b0 := decide_eq_true c5); clear c5; (by_cases c6 : x5_1 < (l1.length : Int))
      ·rw [if_pos c6] at H
       (have c6b0 := decide_eq_true c6); clear c6; (replace H := obS H); (obtain ⟨t103, A7, H⟩ := H); (by_cases c8 : t103 = true)
       ·subst c8
        (rw [if_pos rfl] at H); (have H' := Aside0.mk H); clear H; (try go_wp2); (have n0_ := Aside0.mk (below_drew1 HB.out)); clear HB; (have HB := n0_); clear n0_; (have p101 : 0 ≤ (x5_1 : Int) := odt); (have q101 : x5_1 < (l0.length : Int) := odt); (obtain ⟨ad101, A101_1, c101_1, e101, hx101_0, hx101_1, hl101_1, hi101_1⟩ := at_T80 HR0.out x5_1 p101 q101); (have hw101_1 := hx101_1); (have hw101_0 := hx101_0); (cases e101); (replace hx101_0 := hcI HB hx101_0); (replace hx101_1 := hcI HB hx101_1); (have HR101_1 := Aside0.mk hi101_1); (have HC101_1 := Aside0.mk hl101_1); clear hi101_1 hl101_1; (replace p101 := eq_true p101); (replace q101 := eq_true q101); (have p102 : 0 ≤ (x5_1 : Int) := odt); (have q102 : x5_1 < (l1.length : Int) := odt); (obtain ⟨ad102, A102_1, c102_1, e102, hx102_0, hx102_1, hl102_1, hi102_1⟩ := at_T80 HR1.out x5_1 p102 q102); (have hw102_1 := hx102_1); (have hw102_0 := hx102_0); (cases e102); (replace hx102_0 := hcI HB hx102_0); (replace hx102_1 := hcI HB hx102_1); (have HR102_1 := Aside0.mk hi102_1); (have HC102_1 := Aside0.mk hl102_1); clear hi102_1 hl102_1; (replace p102 := eq_true p102); (replace q102 := eq_true q102); (refine start_ (n := 10) (S := fun w' => w'.cell? (ad101.add ((x5_1).toNat * 2)) = some (.int .i64 ((rd_T80 l0 x5_1).f0)) ∧ w'.cell? ⟨(ad101.add ((x5_1).toNat * 2)).block, (ad101.add ((x5_1).toNat * 2)).off + 1, none⟩ = some (.slice A101_1 ((rd_T80 l0 x5_1).f1).length c101_1) ∧ w'.cell? (ad102.add ((x5_1).toNat * 2)) = some (.int .i64 ((rd_T80 l1 x5_1).f0)) ∧ w'.cell? ⟨(ad102.add ((x5_1).toNat * 2)).block, (ad102.add ((x5_1).toNat * 2)).off + 1, none⟩ = some (.slice A102_1 ((rd_T80 l1 x5_1).f1).length c102_1)) (ds := []) (cn 10 0) (by kernel_rfl) rfl (by kernel_rfl) ⟨(hcI HB hw101_0), (hcI HB hw101_1), (hcI HB hw102_0), (hcI HB hw102_1)⟩ (fun hHeld => ?_); refine with_tabW laws_eqArchiveBoxS.tab6 laws_eqArchiveBoxS.bits6 (fun HT_ HW_ => ?_)); (generalize wr.drew = w9 at HB HR101_1 HR102_1 hx101_0 hx101_1 hx102_0 hx102_1 hHeld ⊢); (refine pB 0 (cn 10 1) (some 17) HT_ (h := ?_)); (refine pB 1 (cn 10 2) (some 18) HT_ (h := ?_)); (refine pB 2 (cn 10 3) (some 19) HT_ (h := ?_)); (refine pB 4 (cb 10 23) (some 21) HT_ (h := ?_)); (refine pB 5 (cb 10 55) (some 22) HT_ (h := ?_)); (refine pB 6 (cb 10 119) (some 23) HT_ (h := ?_)); (refine tB 3 (cn 10 7) (some 20) HT_ HW_ hHeld (h := ?_)); (refine tB 7 (cn 10 8) (some 24) HT_ HW_ hHeld (h := ?_)); (refine oN 8 (some 25) (cn 10 9) HT_ (fun K hK => ?_)); (refine gG Try.func59 #[.agg #[.int .i64 ((rd_T80 l0 x5_1).f0), .slice A101_1 ((rd_T80 l0 x5_1).f1).length c101_1], .agg #[.int .i64 ((rd_T80 l1 x5_1).f0), .slice A102_1 ((rd_T80 l1 x5_1).f1).length c102_1]] ?_); (with_reducible refine (laws_eqArchiveBox.calls k1 ((rd_T80 l0 x5_1).f0) _ _ ((rd_T80 l0 x5_1).f1) ((rd_T80 l1 x5_1).f0) _ _ ((rd_T80 l1 x5_1).f1) true _ ?side1 ?side2 ?side3 ?side4 A7.out ⟨rfl⟩).mono ?_)
        ((case side1 => exact Q27)); ((case side2 => exact Q28)); ((case side3 => exact Kd.C_below HR102_1.out (eI HB))); ((case side4 => exact HC102_1.out)); (rintro e w10 ⟨rfl, hb⟩); (refine ⟨_, rfl, ?_⟩); (have n0_ := Aside0.mk (sI hb HB)); clear HB; (have HB := n0_); clear n0_; ((try clear hb)); ((try clear hb2)); ((try clear hk)); ((try clear hi)); (refine hK.out _ _ ⟨(hcI HB hw101_0), (hcI HB hw101_1), (hcI HB hw102_0), (hcI HB hw102_1)⟩ (fun hHeld => ?_)); clear hK K; (refine nP (some 25) (h := ?_)); (refine pB 9 (cn 10 10) (some 26) HT_ (h := ?_)); (refine done_ (done_of HT_.out (by kernel_rfl)) ?_); (try go_wp2); go_roundg k1
        case measure => have := HK1.out; omega
        case rel => exact Q22
       ·replace c8 := Bool.eq_false_iff.mpr c8
        subst c8; (rw [if_neg (show ¬ (false = true) by decide)] at H); (obtain rfl := Option.some.inj H); (exact Q19)
      ·rw [if_neg c6] at H
       exact Q8
     ·rw [if_neg c5] at H
      exact Q8
    ·rw [if_neg c4] at H
     (have c4b0 := decide_eq_false c4); clear c4; (obtain rfl := Option.some.inj H); (go_wp2); go_ret; (exact Q18)
 ·rw [if_neg c3] at H
  (have c3b0 : ((l0.length : Int) == (l1.length : Int)) = false := beq_eq_false_iff_ne.mpr c3); (have c3b1 : ((l0.length : Int) != (l1.length : Int)) = true := bne_iff_ne.mpr c3); (have c3b2 : (l0.length == l1.length) = false := Q20); (obtain rfl := Option.some.inj H); (exact Q19)
/-! ### laws_markItemS: function 17 -/
def laws_markItemS.l0 : Nat → List (S83) → Int → Int → Option (Int × (List (S83)))
 | 0, _, _, _ => none
 | k + 1, x0, x1, x5 => if x5 < (x0.length : Int) then (if 0 ≤ x5 then ((some (x0.set (x5 : Int).toNat (⟨x1, (rd_T83 x0 x5).f1, (rd_T83 x0 x5).f2⟩ : S83) : List (S83))).bind fun y101 => ((some (y101.set (x5 : Int).toNat (⟨(rd_T83 y101 x5).f0, wrap64 (x1 + 1), (rd_T83 y101 x5).f2⟩ : S83) : List (S83))).bind fun y102 => (laws_markItemS.l0 k (y102.set (x5 : Int).toNat (⟨(rd_T83 y102 x5).f0, (rd_T83 y102 x5).f1, wrap64 ((wrap64 (x1 + 1)) + 1)⟩ : S83)) (wrap64 ((wrap64 ((wrap64 (x1 + 1)) + 1)) + 1)) (wrap64 (x5 + 1))))) else (none)) else (some (x1, x0))
def laws_markItemS.f (k : Nat) (l0 : List (S83)) (a1 : Int) : Option (Int × (List (S83))) := laws_markItemS.l0 k l0 a1 0
set_option maxHeartbeats 8000000 in
set_option maxRecDepth 100000 in
theorem laws_markItemS.calls (k : Nat) (P0_ : Nat → Prop) (u9000_ : Value) (l0 : List (S83)) (a1 : Int) (r1 : Int) (r2 : List (S83)) (w0 w : World) (hB : Below w0.heap.size w0 w) (ho0 : Kd.R k83 83 w w0.heap.size P0_ u9000_ l0) (h : laws_markItemS.f k l0 a1 = some (r1, r2)) :
  Calls Try.prog 17 #[u9000_, .int .i64 a1] w fun e w' => e = .returned (.int .i64 r1) ∧ Kd.R k83 83 w' w0.heap.size (fun k_ => (P0_ k_ ∨ w.heap.size ≤ k_)) u9000_ r2 ∧ Below w0.heap.size w0 w' ∧ Kept w w' (fun k_ => P0_ k_) := by
 (have HO0 := Aside0.mk (show Kd.R k83 83 w w0.heap.size (fun k_ => (P0_ k_ ∨ w.heap.size ≤ k_)) u9000_ l0 from Kd.R_mono ho0 (fun k_ hk => (.inl hk)))); (have HK := Aside0.mk (Kept.refl w (fun k_ => P0_ k_))); (have HW0 := Aside0.mk hB.size); (have HB := Aside0.mk hB); clear hB; (unfold laws_markItemS.f at h); (have H := h); clear h; (have H' := Aside0.mk H); clear H; (go_enter Try.func17, Try.ntmps17); (go_wp2); (go_loopg [1, 5] k (fun kq v1 v5 w' => ∃ (x0_1 : List (S83)) (x1_1 : Int) (x5_1 : Int), v1 = .int .i64 x1_1 ∧ v5 = .int .i64 x5_1 ∧ Aside0 (laws_markItemS.l0 kq x0_1 x1_1 x5_1 = some (r1, r2)) ∧ Aside0 (kq ≤ k) ∧ Aside0 (Kd.R k83 83 w' w0.heap.size (fun k_ => (P0_ k_ ∨ w.heap.size ≤ k_)) u9000_ x0_1) ∧ Aside0 (Kept w w' (fun k_ => P0_ k_)) ∧ Aside0 (Below w0.heap.size w0 w')))
 case atStart => exact Q29
 case round =>
  (clear H'); (try clear c1); (try clear p2); (obtain ⟨x0_1, x1_1, x5_1, rfl, rfl, HA, HK1, HO_0, HK, HB⟩ := hrel)
  cases gk with
  | zero => exact absurd HA.out (by simp [laws_markItemS.l0])
  | succ k1 =>
   (have H := HA.out); clear HA; (simp only [laws_markItemS.l0] at H); (by_cases c3 : x5_1 < (x0_1.length : Int))
   ·rw [if_pos c3] at H
    (have c3b0 := decide_eq_true c3); clear c3; (by_cases c4 : 0 ≤ x5_1)
    ·rw [if_pos c4] at H
     (have c4b0 := decide_eq_true c4); clear c4; (obtain ⟨y101, hy101⟩ : ∃ y_ : List (S83), y_ = (x0_1.set (x5_1 : Int).toNat (⟨x1_1, (rd_T83 x0_1 x5_1).f1, (rd_T83 x0_1 x5_1).f2⟩ : S83)) := ⟨_, rfl⟩); (replace H : ((some (y101.set (x5_1 : Int).toNat (⟨(rd_T83 y101 x5_1).f0, wrap64 (x1_1 + 1), (rd_T83 y101 x5_1).f2⟩ : S83) : List (S83))).bind fun y102 => (laws_markItemS.l0 k1 (y102.set (x5_1 : Int).toNat (⟨(rd_T83 y102 x5_1).f0, (rd_T83 y102 x5_1).f1, wrap64 ((wrap64 (x1_1 + 1)) + 1)⟩ : S83)) (wrap64 ((wrap64 ((wrap64 (x1_1 + 1)) + 1)) + 1)) (wrap64 (x5_1 + 1)))) = some (r1, r2) := Q3); (have Ny101 := Aside0.mk hy101); clear hy101; (obtain ⟨y102, hy102⟩ : ∃ y_ : List (S83), y_ = (y101.set (x5_1 : Int).toNat (⟨(rd_T83 y101 x5_1).f0, wrap64 (x1_1 + 1), (rd_T83 y101 x5_1).f2⟩ : S83)) := ⟨_, rfl⟩); (replace H : (laws_markItemS.l0 k1 (y102.set (x5_1 : Int).toNat (⟨(rd_T83 y102 x5_1).f0, (rd_T83 y102 x5_1).f1, wrap64 ((wrap64 (x1_1 + 1)) + 1)⟩ : S83)) (wrap64 ((wrap64 ((wrap64 (x1_1 + 1)) + 1)) + 1)) (wrap64 (x5_1 + 1))) = some (r1, r2) := by first | (rw [hy102]; with_reducible exact H) | (have H2_ := (Option.bind_some _ _).symm.trans H; rw [hy102]; with_reducible exact H2_) | (have H2_ := (Option.bind_some _ _).symm.trans H; with_reducible exact H2_) | with_reducible exact H | (rw [hy102]; exact H) | exact H); (have Ny102 := Aside0.mk hy102); clear hy102; (obtain ⟨y103, hy103⟩ : ∃ y_ : List (S83), y_ = (y102.set (x5_1 : Int).toNat (⟨(rd_T83 y102 x5_1).f0, (rd_T83 y102 x5_1).f1, wrap64 ((wrap64 (x1_1 + 1)) + 1)⟩ : S83)) := ⟨_, rfl⟩); (replace H : (laws_markItemS.l0 k1 y103 (wrap64 ((wrap64 ((wrap64 (x1_1 + 1)) + 1)) + 1)) (wrap64 (x5_1 + 1))) = some (r1, r2) := Q30); (have Ny103 := Aside0.mk hy103); clear hy103; (have H' := Aside0.mk H); clear H; (obtain ⟨Ao8, co8, eo8⟩ := Kd.R_slice HO_0.out); subst eo8; (have p5 : 0 ≤ (x5_1 : Int) := odt); (have q5 : (x5_1 : Int) < ((x0_1.length : Int) : Int) := odt); (obtain ⟨go5, co5, eo5, gb5, gl5, cl5, HG5⟩ := Kd.R_form HO_0.out (by omega)); ((first | cases eo5 | (injection eo5 with ea_ en_ ec_; (first | subst ea_ | (injection ea_ with ea_; subst ea_)); subst ec_; clear en_))); (have GB5 := Aside0.mk gb5); (have GG5 := Aside0.mk HG5); clear gb5 gl5 HG5; (have HMgo5 := Aside0.mk (show (P0_ go5 ∨ w.heap.size ≤ go5) from (HO_0.out.1 _ rfl))); (obtain ⟨ce5, hcl5, hM5, hcc5, hfr5⟩ := Kd.R_elem HO_0.out z83 (x5_1 : Int) p5 q5); (obtain rfl := k83_openM hM5); (have hx5_0 : wr.cell? ⟨go5, (x5_1 : Int).toNat * 3, none⟩ = some (.int .i64 ((rd_T83 x0_1 x5_1).f0)) := hcc5 0 _ rfl); (have hx5_1 : wr.cell? ⟨go5, (x5_1 : Int).toNat * 3 + 1, none⟩ = some (.int .i64 ((rd_T83 x0_1 x5_1).f1)) := hcc5 1 _ rfl); (have hx5_2 : wr.cell? ⟨go5, (x5_1 : Int).toNat * 3 + 2, none⟩ = some (.int .i64 ((rd_T83 x0_1 x5_1).f2)) := hcc5 2 _ rfl); (have hf5_0 : wr.frozen? ⟨go5, (x5_1 : Int).toNat * 3, none⟩ = false := hfr5 0); (have hf5_1 : wr.frozen? ⟨go5, (x5_1 : Int).toNat * 3 + 1, none⟩ = false := hfr5 1); (have hf5_2 : wr.frozen? ⟨go5, (x5_1 : Int).toNat * 3 + 2, none⟩ = false := hfr5 2); clear hcl5 hcc5 hfr5 hM5; (replace p5 := eq_true p5); (replace q5 := eq_true q5); (have HX9 := Aside0.mk (show Kd.R k83 83 wr w0.heap.size (fun k_ => (P0_ k_ ∨ w.heap.size ≤ k_)) (.slice (some ⟨go5, 0, none⟩) x0_1.length co8) x0_1 from (rI HO_0))); (obtain ⟨ce9, hcl9, hM9, hcc9, hfr9⟩ := Kd.R_elem HX9.out z83 (x5_1 : Int) odt Q31); (obtain rfl := k83_openM hM9); (have HP9 := Kd.R_seg HX9.out (x5_1 : Int) odt Q31 (seg := [.int .i64 x1_1]) (j := 0) hcl9 hcc9 (show 1 ≤ 3 from by decide) (x' := (⟨x1_1, (rd_T83 x0_1 x5_1).f1, (rd_T83 x0_1 x5_1).f2⟩ : S83)) (k83_mkM _ _ _ (⟨x1_1, (rd_T83 x0_1 x5_1).f1, (rd_T83 x0_1 x5_1).f2⟩ : S83) ) (fun _ hk => hk)); (have hx9_0 := hcc9 0 _ rfl); ((try simp only [show (k83).sz = 3 from rfl, Nat.mul_one, Nat.add_zero] at hx9_0)); (have hf9_0 := hfr9 0); ((try simp only [show (k83).sz = 3 from rfl, Nat.mul_one, Nat.add_zero] at hf9_0)); clear hcl9 hcc9 hfr9 hM9
     go_wp2_with (first | ((with_reducible refine gate_store (t := 3) (p := 16) rfl ?_); refine store_event (t := 3) (p := 16) (v := ?vo_w10) (w1 := (wr.setCell ⟨go5, (x5_1 : Int).toNat * 3, none⟩ (.int .i64 x1_1))) ?hg ?ho ?hn ?hr ?_; (case ho => rfl); (case hg => rfl); (case hn => rfl); (case hr => first | (go_simp; done) | (go_simp; rfl)); intro w10 hw; have hg : wr.grownBy w10 (some go5) := (by rw [hw]; exact HP9.2); have hp_ : Kd.R k83 83 w10 w0.heap.size (fun k_ => (P0_ k_ ∨ w.heap.size ≤ k_)) (.slice (some ⟨go5, 0, none⟩) x0_1.length co8) y101 := (by rw [hw, Ny101.out]; exact HP9.1); clear HP9; have n0_ := Aside0.mk (hp_); have n1_ := Aside0.mk ((Q32 : Below w0.heap.size w0 w10)); have n2_ := Aside0.mk (Kept.of_grown (S := (fun k_ => P0_ k_)) hg Q33 (fun k_ e_ => (HO_0.out.1 k_ e_))); clear HO_0 HB HK; have HO_0 := n0_; have HB := n1_; have HK := n2_; clear n0_ n1_ n2_ hg hw hp_; have p6 : 0 ≤ (x5_1 : Int) := odt; have q6 : (x5_1 : Int) < ((x0_1.length : Int) : Int) := odt; obtain ⟨ce6, hcl6, hM6, hcc6, hfr6⟩ := Kd.R_elem HO_0.out z83 (x5_1 : Int) p6 q6; obtain rfl := k83_openM hM6; have hx6_0 : w10.cell? ⟨go5, (x5_1 : Int).toNat * 3, none⟩ = some (.int .i64 ((rd_T83 y101 x5_1).f0)) := hcc6 0 _ rfl; have hx6_1 : w10.cell? ⟨go5, (x5_1 : Int).toNat * 3 + 1, none⟩ = some (.int .i64 ((rd_T83 y101 x5_1).f1)) := hcc6 1 _ rfl; have hx6_2 : w10.cell? ⟨go5, (x5_1 : Int).toNat * 3 + 2, none⟩ = some (.int .i64 ((rd_T83 y101 x5_1).f2)) := hcc6 2 _ rfl; have hf6_0 : w10.frozen? ⟨go5, (x5_1 : Int).toNat * 3, none⟩ = false := hfr6 0; have hf6_1 : w10.frozen? ⟨go5, (x5_1 : Int).toNat * 3 + 1, none⟩ = false := hfr6 1; have hf6_2 : w10.frozen? ⟨go5, (x5_1 : Int).toNat * 3 + 2, none⟩ = false := hfr6 2; clear hcl6 hcc6 hfr6 hM6; replace p6 := eq_true p6; replace q6 := eq_true q6; have HX11 := Aside0.mk (show Kd.R k83 83 w10 w0.heap.size (fun k_ => (P0_ k_ ∨ w.heap.size ≤ k_)) (.slice (some ⟨go5, 0, none⟩) x0_1.length co8) y101 from (rI HO_0)); obtain ⟨ce11, hcl11, hM11, hcc11, hfr11⟩ := Kd.R_elem HX11.out z83 (x5_1 : Int) odt Q31; obtain rfl := k83_openM hM11; have HP11 := Kd.R_seg HX11.out (x5_1 : Int) odt Q31 (seg := [.int .i64 (wrap64 (x1_1 + 1))]) (j := 1) hcl11 hcc11 (show 2 ≤ 3 from by decide) (x' := (⟨(rd_T83 y101 x5_1).f0, wrap64 (x1_1 + 1), (rd_T83 y101 x5_1).f2⟩ : S83)) (k83_mkM _ _ _ (⟨(rd_T83 y101 x5_1).f0, wrap64 (x1_1 + 1), (rd_T83 y101 x5_1).f2⟩ : S83) ) (fun _ hk => hk); have hx11_1 := hcc11 1 _ rfl; (try simp only [show (k83).sz = 3 from rfl, Nat.mul_one, Nat.add_zero] at hx11_1); have hf11_1 := hfr11 1; (try simp only [show (k83).sz = 3 from rfl, Nat.mul_one, Nat.add_zero] at hf11_1); clear hcl11 hcc11 hfr11 hM11) | ((with_reducible refine gate_store (t := 3) (p := 23) rfl ?_); refine store_event (t := 3) (p := 23) (v := ?vo_w12) (w1 := (w10.setCell ⟨go5, (x5_1 : Int).toNat * 3 + 1, none⟩ (.int .i64 (wrap64 (x1_1 + 1))))) ?hg ?ho ?hn ?hr ?_; (case ho => rfl); (case hg => rfl); (case hn => rfl); (case hr => first | (go_simp; done) | (go_simp; rfl)); intro w12 hw; have hg : w10.grownBy w12 (some go5) := (by rw [hw]; exact HP11.2); have hp_ : Kd.R k83 83 w12 w0.heap.size (fun k_ => (P0_ k_ ∨ w.heap.size ≤ k_)) (.slice (some ⟨go5, 0, none⟩) x0_1.length co8) y102 := (by rw [hw, Ny102.out]; exact HP11.1); clear HP11; have n0_ := Aside0.mk (hp_); have n1_ := Aside0.mk ((Q32 : Below w0.heap.size w0 w12)); have n2_ := Aside0.mk (Kept.of_grown (S := (fun k_ => P0_ k_)) hg Q33 (fun k_ e_ => (HO_0.out.1 k_ e_))); clear HO_0 HB HK; have HO_0 := n0_; have HB := n1_; have HK := n2_; clear n0_ n1_ n2_ hg hw hp_; have p7 : 0 ≤ (x5_1 : Int) := odt; have q7 : (x5_1 : Int) < ((x0_1.length : Int) : Int) := odt; obtain ⟨ce7, hcl7, hM7, hcc7, hfr7⟩ := Kd.R_elem HO_0.out z83 (x5_1 : Int) p7 q7; obtain rfl := k83_openM hM7; have hx7_0 : w12.cell? ⟨go5, (x5_1 : Int).toNat * 3, none⟩ = some (.int .i64 ((rd_T83 y102 x5_1).f0)) := hcc7 0 _ rfl; have hx7_1 : w12.cell? ⟨go5, (x5_1 : Int).toNat * 3 + 1, none⟩ = some (.int .i64 ((rd_T83 y102 x5_1).f1)) := hcc7 1 _ rfl; have hx7_2 : w12.cell? ⟨go5, (x5_1 : Int).toNat * 3 + 2, none⟩ = some (.int .i64 ((rd_T83 y102 x5_1).f2)) := hcc7 2 _ rfl; have hf7_0 : w12.frozen? ⟨go5, (x5_1 : Int).toNat * 3, none⟩ = false := hfr7 0; have hf7_1 : w12.frozen? ⟨go5, (x5_1 : Int).toNat * 3 + 1, none⟩ = false := hfr7 1; have hf7_2 : w12.frozen? ⟨go5, (x5_1 : Int).toNat * 3 + 2, none⟩ = false := hfr7 2; clear hcl7 hcc7 hfr7 hM7; replace p7 := eq_true p7; replace q7 := eq_true q7; have HX13 := Aside0.mk (show Kd.R k83 83 w12 w0.heap.size (fun k_ => (P0_ k_ ∨ w.heap.size ≤ k_)) (.slice (some ⟨go5, 0, none⟩) x0_1.length co8) y102 from (rI HO_0)); obtain ⟨ce13, hcl13, hM13, hcc13, hfr13⟩ := Kd.R_elem HX13.out z83 (x5_1 : Int) odt Q31; obtain rfl := k83_openM hM13; have HP13 := Kd.R_seg HX13.out (x5_1 : Int) odt Q31 (seg := [.int .i64 (wrap64 ((wrap64 (x1_1 + 1)) + 1))]) (j := 2) hcl13 hcc13 (show 3 ≤ 3 from by decide) (x' := (⟨(rd_T83 y102 x5_1).f0, (rd_T83 y102 x5_1).f1, wrap64 ((wrap64 (x1_1 + 1)) + 1)⟩ : S83)) (k83_mkM _ _ _ (⟨(rd_T83 y102 x5_1).f0, (rd_T83 y102 x5_1).f1, wrap64 ((wrap64 (x1_1 + 1)) + 1)⟩ : S83) ) (fun _ hk => hk); have hx13_2 := hcc13 2 _ rfl; (try simp only [show (k83).sz = 3 from rfl, Nat.mul_one, Nat.add_zero] at hx13_2); have hf13_2 := hfr13 2; (try simp only [show (k83).sz = 3 from rfl, Nat.mul_one, Nat.add_zero] at hf13_2); clear hcl13 hcc13 hfr13 hM13) | ((with_reducible refine gate_store (t := 3) (p := 30) rfl ?_); refine store_event (t := 3) (p := 30) (v := ?vo_w14) (w1 := (w12.setCell ⟨go5, (x5_1 : Int).toNat * 3 + 2, none⟩ (.int .i64 (wrap64 ((wrap64 (x1_1 + 1)) + 1))))) ?hg ?ho ?hn ?hr ?_; (case ho => rfl); (case hg => rfl); (case hn => rfl); (case hr => first | (go_simp; done) | (go_simp; rfl)); intro w14 hw; have hg : w12.grownBy w14 (some go5) := (by rw [hw]; exact HP13.2); have hp_ : Kd.R k83 83 w14 w0.heap.size (fun k_ => (P0_ k_ ∨ w.heap.size ≤ k_)) (.slice (some ⟨go5, 0, none⟩) x0_1.length co8) y103 := (by rw [hw, Ny103.out]; exact HP13.1); clear HP13; have n0_ := Aside0.mk (hp_); have n1_ := Aside0.mk ((Q32 : Below w0.heap.size w0 w14)); have n2_ := Aside0.mk (Kept.of_grown (S := (fun k_ => P0_ k_)) hg Q33 (fun k_ e_ => (HO_0.out.1 k_ e_))); clear HO_0 HB HK; have HO_0 := n0_; have HB := n1_; have HK := n2_; clear n0_ n1_ n2_ hg hw hp_))
     go_roundg k1
     case measure => have := HK1.out; omega
     case rel => exact ⟨(y103), (wrap64 ((wrap64 ((wrap64 (x1_1 + 1)) + 1)) + 1)), (wrap64 (x5_1 + 1)), Q6, Q6, H', ⟨Q7⟩, ⟨rI HO_0⟩, ⟨Q33⟩, ⟨eI HB⟩⟩
    ·rw [if_neg c4] at H
     exact Q8
   ·rw [if_neg c3] at H
    (have c3b0 := decide_eq_false c3); clear c3; (simp only [Option.some.injEq, Prod.mk.injEq] at H); (obtain ⟨rfl, rfl⟩ := H); (obtain ⟨Ao15, co15, eo15⟩ := Kd.R_slice HO_0.out); subst eo15; (go_wp2); go_ret; (exact Q34)
/-! ### laws_markIntS: function 19 -/
def laws_markIntS.l0 : Nat → List Int → Int → Int → Option (Int × List Int)
 | 0, _, _, _ => none
 | k + 1, x0, x1, x5 => if x5 < (x0.length : Int) then (if 0 ≤ x5 then (laws_markIntS.l0 k (x0.set (x5 : Int).toNat x1) (wrap64 (x1 + 1)) (wrap64 (x5 + 1))) else (none)) else (some (x1, x0))
def laws_markIntS.f (k : Nat) (l0 : List Int) (a1 : Int) : Option (Int × List Int) := laws_markIntS.l0 k l0 a1 0
set_option maxHeartbeats 8000000 in
set_option maxRecDepth 100000 in
theorem laws_markIntS.calls (k : Nat) (P0_ : Nat → Prop) (u9000_ : Value) (l0 : List Int) (a1 : Int) (r1 : Int) (r2 : List Int) (w0 w : World) (hB : Below w0.heap.size w0 w) (ho0 : Kd.R (Kd.int .i64) 3 w w0.heap.size P0_ u9000_ l0) (h : laws_markIntS.f k l0 a1 = some (r1, r2)) :
  Calls Try.prog 19 #[u9000_, .int .i64 a1] w fun e w' => e = .returned (.int .i64 r1) ∧ Kd.R (Kd.int .i64) 3 w' w0.heap.size (fun k_ => (P0_ k_ ∨ w.heap.size ≤ k_)) u9000_ r2 ∧ Below w0.heap.size w0 w' ∧ Kept w w' (fun k_ => P0_ k_) := by
 (have HO0 := Aside0.mk (show Kd.R (Kd.int .i64) 3 w w0.heap.size (fun k_ => (P0_ k_ ∨ w.heap.size ≤ k_)) u9000_ l0 from Kd.R_mono ho0 (fun k_ hk => (.inl hk)))); (have HK := Aside0.mk (Kept.refl w (fun k_ => P0_ k_))); (have HW0 := Aside0.mk hB.size); (have HB := Aside0.mk hB); clear hB; (unfold laws_markIntS.f at h); (have H := h); clear h; (have H' := Aside0.mk H); clear H; (go_enter Try.func19, Try.ntmps19); (go_wp2); (go_loopg [1, 5] k (fun kq v1 v5 w' => ∃ (x0_1 : List Int) (x1_1 : Int) (x5_1 : Int), v1 = .int .i64 x1_1 ∧ v5 = .int .i64 x5_1 ∧ Aside0 (laws_markIntS.l0 kq x0_1 x1_1 x5_1 = some (r1, r2)) ∧ Aside0 (kq ≤ k) ∧ Aside0 (Kd.R (Kd.int .i64) 3 w' w0.heap.size (fun k_ => (P0_ k_ ∨ w.heap.size ≤ k_)) u9000_ x0_1) ∧ Aside0 (Kept w w' (fun k_ => P0_ k_)) ∧ Aside0 (Below w0.heap.size w0 w')))
 case atStart => exact Q29
 case round =>
  (clear H'); (try clear c1); (try clear p2); (obtain ⟨x0_1, x1_1, x5_1, rfl, rfl, HA, HK1, HO_0, HK, HB⟩ := hrel)
  cases gk with
  | zero => exact absurd HA.out (by simp [laws_markIntS.l0])
  | succ k1 =>
   (have H := HA.out); clear HA; (simp only [laws_markIntS.l0] at H); (by_cases c3 : x5_1 < (x0_1.length : Int))
   ·rw [if_pos c3] at H
    (have c3b0 := decide_eq_true c3); clear c3; (by_cases c4 : 0 ≤ x5_1)
    ·rw [if_pos c4] at H
     (have c4b0 := decide_eq_true c4); clear c4; (obtain ⟨y101, hy101⟩ : ∃ y_ : List Int, y_ = (x0_1.set (x5_1 : Int).toNat x1_1) := ⟨_, rfl⟩); (replace H : (laws_markIntS.l0 k1 y101 (wrap64 (x1_1 + 1)) (wrap64 (x5_1 + 1))) = some (r1, r2) := Q3); (have Ny101 := Aside0.mk hy101); clear hy101; (have H' := Aside0.mk H); clear H; (obtain ⟨Ao6, co6, eo6⟩ := Kd.R_slice HO_0.out); subst eo6; (have p5 : 0 ≤ (x5_1 : Int) := odt); (have q5 : (x5_1 : Int) < ((x0_1.length : Int) : Int) := odt); (obtain ⟨go5, co5, eo5, gb5, gl5, cl5, HG5⟩ := Kd.R_form HO_0.out (by omega)); ((first | cases eo5 | (injection eo5 with ea_ en_ ec_; (first | subst ea_ | (injection ea_ with ea_; subst ea_)); subst ec_; clear en_))); (have GB5 := Aside0.mk gb5); (have GG5 := Aside0.mk HG5); clear gb5 gl5 HG5; (have HMgo5 := Aside0.mk (show (P0_ go5 ∨ w.heap.size ≤ go5) from (HO_0.out.1 _ rfl))); (obtain ⟨hx5_0, hf5_0⟩ := Kd.R_celln 0 HO_0.out (x5_1 : Int) p5 q5); (replace p5 := eq_true p5); (replace q5 := eq_true q5); (have HP7 := Kd.R_putg HO_0.out (x5_1 : Int) x1_1); (go_wp2_with (first | ((with_reducible refine gate_store (t := 3) (p := 15) rfl ?_); refine store_event (t := 3) (p := 15) (v := ?vo_w8) (w1 := (wr.setCell ⟨go5, (x5_1 : Int).toNat, none⟩ (.int .i64 x1_1))) ?hg ?ho ?hn ?hr ?_; (case ho => rfl); (case hg => rfl); (case hn => rfl); (case hr => first | (go_simp; done) | (go_simp; rfl)); intro w8 hw; have hg : wr.grownBy w8 (some go5) := (by rw [hw]; exact HP7.2); have hp_ : Kd.R (Kd.int .i64) 3 w8 w0.heap.size (fun k_ => (P0_ k_ ∨ w.heap.size ≤ k_)) (.slice (some ⟨go5, 0, none⟩) x0_1.length co6) y101 := (by rw [hw, Ny101.out]; exact HP7.1); clear HP7; have n0_ := Aside0.mk (hp_); have n1_ := Aside0.mk ((Q32 : Below w0.heap.size w0 w8)); have n2_ := Aside0.mk (Kept.of_grown (S := (fun k_ => P0_ k_)) hg Q33 (fun k_ e_ => (HO_0.out.1 k_ e_))); clear HO_0 HB HK; have HO_0 := n0_; have HB := n1_; have HK := n2_; clear n0_ n1_ n2_ hg hw hp_))); go_roundg k1
     case measure => have := HK1.out; omega
     case rel => exact ⟨(y101), (wrap64 (x1_1 + 1)), (wrap64 (x5_1 + 1)), Q6, Q6, H', ⟨Q7⟩, ⟨rI HO_0⟩, ⟨Q33⟩, ⟨eI HB⟩⟩
    ·rw [if_neg c4] at H
     exact Q8
   ·rw [if_neg c3] at H
    (have c3b0 := decide_eq_false c3); clear c3; (simp only [Option.some.injEq, Prod.mk.injEq] at H); (obtain ⟨rfl, rfl⟩ := H); (obtain ⟨Ao9, co9, eo9⟩ := Kd.R_slice HO_0.out); subst eo9; (go_wp2); go_ret; (exact Q34)
end Go.Proofs.Ytdbhelhoaciodaa.X
set_option linter.unusedVariables false
set_option linter.unusedSimpArgs false
namespace Go.Proofs.Ytdbhelhoaciodaa.X
open Go.RowKit Go.Proofs.YtdbhelhoaciodaaW.PrintWords
section
variable {α : Type} {d : Kd α} {e base n cap g m : Nat} {ok : Nat → Prop} {W : World} {xs : List α} {x x' z : α} {i : Int}
theorem S_at (h : Kd.S d e W base ok (.slice (some ⟨g, 0, none⟩) n cap) (xs.set i.toNat x)) (h0 : 0 ≤ i) (h1 : i < xs.length) (hs : d.sz = m) :
  ∃ (oki : Nat → Prop) (c : List Value), c.length = m ∧ d.M W base oki x c ∧ (∀ j u, c[j]? = some u → W.cell? ⟨g, i.toNat * m + j, none⟩ = some u) ∧ (∀ j, W.frozen? ⟨g, i.toNat * m + j, none⟩ = false) ∧ (∀ k, oki k → ok k ∧ k ≠ g) ∧ Kd.H d e W base ok (.slice (some ⟨g, 0, none⟩) n cap) (xs.set i.toNat x) i oki c := by
 subst hs
 have hn := (Kd.R_reads' (Kd.S_R h)).1
 rw [List.length_set] at hn
 obtain ⟨oki, c, a, b, c1, d1, e1, f1⟩ := Kd.S_elem h x i h0 (by omega)
 have hx : (xs.set i.toNat x).getD i.toNat x = x := by rw [List.getD_eq_getElem?_getD, List.getElem?_set_self (by omega)]; rfl
 rw [hx] at b
 exact ⟨oki, c, a, b, c1, d1, e1, f1⟩
theorem S_fld (h : Kd.S d e W base ok (.slice (some ⟨g, 0, none⟩) n cap) (xs.set i.toNat x)) (h0 : 0 ≤ i) (h1 : i < xs.length) (hs : d.sz = m) (j : Nat) (hj : j + 1 ≤ m) (x' : α) (u : Value)
  (hM : ∀ (oki : Nat → Prop) (c : List Value), d.M W base oki x c → d.M W base oki x' (c.take j ++ [u] ++ c.drop (j + 1))) :
  Kd.S d e (W.setCell ⟨g, i.toNat * m + j, none⟩ u) base ok (.slice (some ⟨g, 0, none⟩) n cap) (xs.set i.toNat x') ∧ W.grownBy (W.setCell ⟨g, i.toNat * m + j, none⟩ u) (some g) := by
 subst hs
 have hn := (Kd.R_reads' (Kd.S_R h)).1
 rw [List.length_set] at hn
 obtain ⟨oki, c, hcl, hMc, hcc, hfr, hoki, hH⟩ := S_at h h0 h1 rfl
 have h2 := Kd.S_seg0 hH h0 (by omega) (seg := [u]) (j := j) hj (hM oki c hMc) (fun _ hk => hk)
 rw [List.set_set] at h2
 exact h2
theorem S_in (h : Kd.S d e W base ok (.slice (some ⟨g, 0, none⟩) n cap) (xs.set i.toNat x)) (h0 : 0 ≤ i) (h1 : i < xs.length) (hs : d.sz = m) (hnew : ∀ k, W.heap.size ≤ k → ok k) :
  ∃ (oki : Nat → Prop) (c : List Value), c.length = m ∧ d.M W base oki x c ∧ (∀ j u, c[j]? = some u → W.cell? ⟨g, i.toNat * m + j, none⟩ = some u) ∧ (∀ k, oki k → ok k ∧ k ≠ g) ∧
   ∀ (w1 : World) (x' : α), Kept W w1 oki → d.M w1 base (fun k => oki k ∨ W.heap.size ≤ k) x' c → Kd.S d e w1 base ok (.slice (some ⟨g, 0, none⟩) n cap) (xs.set i.toNat x') := by
 obtain ⟨oki, c, hcl, hMc, hcc, hfr, hoki, hH⟩ := S_at h h0 h1 hs
 refine ⟨oki, c, hcl, hMc, hcc, hoki, fun w1 x' hk hM => ?_⟩
 have h2 := Kd.H_step (w1 := w1) (Kd.H_widen hH) (fun k ho hn hlt => hk.2 k hlt (fun hk2 => hn (.inl hk2)))
 have h3 := Kd.H_back h2 hM (fun k hk2 => hk2.elim .inl (fun hle => .inr ⟨hnew k hle, hle⟩))
 rw [List.set_set] at h3
 exact h3
theorem set_getD (xs : List α) (i : Nat) (z : α) (h : i < xs.length) : xs.set i (xs.getD i z) = xs := by
 rw [List.getD_eq_getElem?_getD, List.getElem?_eq_getElem h]
 exact List.set_getElem_self h
end
end Go.Proofs.Ytdbhelhoaciodaa.X
set_option linter.unusedVariables false
set_option linter.unusedSimpArgs false
namespace Go.Proofs.Ytdbhelhoaciodaa.E
open Go.RowKit Go.Proofs.YtdbhelhoaciodaaW.PrintWords
variable {α β S R : Type}
theorem ev_cast {g : Nat → Option α} {r r' : α} (h : Ev g r) (e : r = r') : Ev g r' := e ▸ h
theorem ev_pos {c : Prop} [Decidable c] (h : c) {f g : Nat → Option α} {r : α} (k : Ev f r) : Ev (fun k => if c then f k else g k) r := Ev.congr (fun _ => if_pos h) k
theorem ev_neg {c : Prop} [Decidable c] (h : ¬ c) {f g : Nat → Option α} {r : α} (k : Ev g r) : Ev (fun k => if c then f k else g k) r := Ev.congr (fun _ => if_neg h) k
theorem ev_ite {c : Prop} [Decidable c] {f g : Nat → Option α} {r : α} (h1 : c → Ev f r) (h2 : ¬ c → Ev g r) : Ev (fun k => if c then f k else g k) r := by
  by_cases h : c
  · exact ev_pos h (h1 h)
  · exact ev_neg h (h2 h)
theorem ev_now {r r' : α} (e : r = r') : Ev (fun _ => some r) r' := e ▸ Ev.now r
theorem ev_bind0 {o : Option α} {a : α} (h : o = some a) {f : Nat → α → Option β} {r : β} (k : Ev (fun n => f n a) r) : Ev (fun n => o.bind (f n)) r := by subst h; exact k
theorem ev_some {a : α} {f : Nat → α → Option β} {r : β} (k : Ev (fun n => f n a) r) : Ev (fun n => (some a).bind (f n)) r := k
theorem ev_get {g : Nat → Option α} {r : α} (h : Ev g r) : ∃ k, g k = some r := Ev.rounds h
theorem wrap_id {x : Int} (h0 : -9223372036854775808 ≤ x) (h1 : x ≤ 9223372036854775807) : wrap64 x = x := IntWalk.wrap64_in x ⟨h0, h1⟩
theorem wrap_succ {i n : Nat} (h : i < n) (hn : n ≤ 9223372036854775807) : wrap64 ((i : Int) + 1) = ((i + 1 : Nat) : Int) := by rw [wrap_id] <;> omega
theorem rd_nat (xs : List Int) (i : Nat) : rd xs (i : Int) = xs.getD i 0 := rfl
theorem drop_cons {xs : List α} {i : Nat} {x : α} {r : List α} (h : xs.drop i = x :: r) (d : α) : xs.getD i d = x ∧ i < xs.length ∧ xs.drop (i + 1) = r ∧ xs[i]? = some x := by
  have hi : i < xs.length := by
    rcases Nat.lt_or_ge i xs.length with h' | h'
    · exact h'
    · rw [List.drop_eq_nil_of_le h'] at h; cases h
  have h2 := List.drop_eq_getElem_cons hi
  rw [h] at h2
  injection h2 with h3 h4
  exact ⟨by rw [List.getD_eq_getElem?_getD, List.getElem?_eq_getElem hi, Option.getD_some, h3], hi, h4.symm, by rw [List.getElem?_eq_getElem hi, h3]⟩
theorem ev_scan {L : Nat → S → Int → Option R} {G : S → Nat → List α → R} (I : S → Nat → List α → Prop) (xs : List α)
    (hend : ∀ s, I s xs.length [] → Ev (fun k => L k s xs.length) (G s xs.length []))
    (hstep : ∀ s (i : Nat) x r, I s i (x :: r) → i < xs.length → xs.drop i = x :: r → (∀ d, xs.getD i d = x) →
      (∀ s', I s' (i + 1) r → Ev (fun k => L k s' ((i + 1 : Nat) : Int)) (G s' (i + 1) r)) → Ev (fun k => L k s i) (G s i (x :: r))) :
    ∀ (n i : Nat) s, n = xs.length - i → i ≤ xs.length → I s i (xs.drop i) → Ev (fun k => L k s i) (G s i (xs.drop i)) := by
  intro n
  induction n with
  | zero =>
    intro i s hn hi hI
    obtain rfl : i = xs.length := by omega
    rw [List.drop_length] at hI ⊢
    exact hend s hI
  | succ n ih =>
    intro i s hn hi hI
    have hlt : i < xs.length := by omega
    obtain ⟨x, r, hd⟩ : ∃ x r, xs.drop i = x :: r := ⟨_, _, List.drop_eq_getElem_cons hlt⟩
    have hc := fun d => drop_cons hd d
    rw [hd] at hI ⊢
    refine hstep s i x r hI hlt hd (fun d => (hc d).1) (fun s' hI' => ?_)
    have := ih (i + 1) s' (by omega) (by omega)
    rw [(hc x).2.2.1] at this
    exact this hI'
theorem ev_scan0 {L : Nat → S → Int → Option R} {G : S → Nat → List α → R} (I : S → Nat → List α → Prop) (xs : List α) (s : S) (h0 : I s 0 xs)
    (hend : ∀ s, I s xs.length [] → Ev (fun k => L k s xs.length) (G s xs.length []))
    (hstep : ∀ s (i : Nat) x r, I s i (x :: r) → i < xs.length → xs.drop i = x :: r → (∀ d, xs.getD i d = x) →
      (∀ s', I s' (i + 1) r → Ev (fun k => L k s' ((i + 1 : Nat) : Int)) (G s' (i + 1) r)) → Ev (fun k => L k s i) (G s i (x :: r))) :
    Ev (fun k => L k s 0) (G s 0 xs) := ev_scan I xs hend hstep xs.length 0 s (by omega) (by omega) h0
theorem ev_walk {L : Nat → Int → Option R} {G : Nat → List α → R} (xs : List α)
    (hend : Ev (fun k => L k xs.length) (G xs.length []))
    (hstep : ∀ (i : Nat) x r, i < xs.length → xs.drop i = x :: r → (∀ d, xs.getD i d = x) →
      Ev (fun k => L k ((i + 1 : Nat) : Int)) (G (i + 1) r) → Ev (fun k => L k i) (G i (x :: r))) :
    Ev (fun k => L k 0) (G 0 xs) :=
  ev_scan0 (L := fun k (_ : Unit) i => L k i) (G := fun _ i r => G i r) (fun _ _ _ => True) xs () trivial (fun _ _ => hend) (fun _ i x r _ h1 h2 h3 h4 => hstep i x r h1 h2 h3 (h4 () trivial))
theorem ev_fill {L : Nat → List β → Int → Option (List β)} (xs : List α) (conv : α → β) (z : β)
    (hend : ∀ out, Ev (fun k => L k out xs.length) out)
    (hstep : ∀ out (i : Nat) x y, i < xs.length → xs[i]? = some x → (∀ d, xs.getD i d = x) → out.length = xs.length → Ev (fun k => L k (out.set i (conv x)) ((i + 1 : Nat) : Int)) y → Ev (fun k => L k out i) y) :
    Ev (fun k => L k (List.replicate xs.length z) 0) (xs.map conv) := by
  have main : ∀ (n i : Nat) (out : List β), n = xs.length - i → i ≤ xs.length → out.length = xs.length → Ev (fun k => L k out i) (out.take i ++ (xs.drop i).map conv) := by
    intro n
    induction n with
    | zero =>
      intro i out hn hi hl
      obtain rfl : i = xs.length := by omega
      rw [List.drop_length, List.map_nil, List.append_nil, List.take_of_length_le (by omega)]
      exact hend out
    | succ n ih =>
      intro i out hn hi hl
      have hlt : i < xs.length := by omega
      have hx : xs[i]? = some xs[i] := List.getElem?_eq_getElem hlt
      have := ih (i + 1) (out.set i (conv xs[i])) (by omega) (by omega) (by rw [List.length_set]; exact hl)
      refine hstep out i xs[i] _ hlt hx (fun d => by rw [List.getD_eq_getElem?_getD, hx, Option.getD_some]) hl (ev_cast this ?_)
      rw [List.drop_eq_getElem_cons hlt, List.map_cons, List.take_succ_eq_append_getElem (by rw [List.length_set]; omega), List.getElem_set_self, List.append_assoc, List.singleton_append, List.take_set_of_le (Nat.le_refl i)]
  have h := main xs.length 0 (List.replicate xs.length z) (by omega) (by omega) (by rw [List.length_replicate])
  simpa using h
theorem ev_same {L : Nat → Int → Option Bool} (n : Nat) (hend : Ev (fun k => L k n) true)
    (hstep : ∀ i : Nat, i < n → Ev (fun k => L k ((i + 1 : Nat) : Int)) true → Ev (fun k => L k i) true) : Ev (fun k => L k 0) true := by
  have main : ∀ (m i : Nat), m = n - i → i ≤ n → Ev (fun k => L k i) true := by
    intro m
    induction m with
    | zero => intro i h1 h2; obtain rfl : i = n := by omega
              exact hend
    | succ m ih => intro i h1 h2; exact hstep i (by omega) (ih (i + 1) (by omega) (by omega))
  exact main n 0 (by omega) (by omega)
theorem ev_sz {L : Nat → Int → Int → Option Int} (xs : List α) (f : α → Nat)
    (hend : ∀ left : Int, Ev (fun k => L k left xs.length) left)
    (hstep : ∀ (left : Int) (i : Nat) x y, 0 ≤ left → left ≤ 4611686018427387904 → i < xs.length → x ∈ xs → (∀ d, xs.getD i d = x) →
      ((f x : Int) ≤ left → Ev (fun k => L k (left - (f x : Int)) ((i + 1 : Nat) : Int)) y) → (¬ (f x : Int) ≤ left → y = -1) → Ev (fun k => L k left i) y) :
    ∀ left : Int, 0 ≤ left → left ≤ 4611686018427387904 → Ev (fun k => L k left 0) (if ((xs.map f).sum : Int) ≤ left then left - ((xs.map f).sum : Int) else -1) := by
  have main : ∀ (n i : Nat) (left : Int), n = xs.length - i → i ≤ xs.length → 0 ≤ left → left ≤ 4611686018427387904 →
      Ev (fun k => L k left i) (if ((((xs.drop i).map f).sum : Nat) : Int) ≤ left then left - ((((xs.drop i).map f).sum : Nat) : Int) else -1) := by
    intro n
    induction n with
    | zero =>
      intro i left hn hi h0 h1
      obtain rfl : i = xs.length := by omega
      rw [List.drop_length, List.map_nil, List.sum_nil]
      exact ev_cast (hend left) (by rw [if_pos (by omega)]; omega)
    | succ n ih =>
      intro i left hn hi h0 h1
      have hlt : i < xs.length := by omega
      rw [List.drop_eq_getElem_cons hlt, List.map_cons, List.sum_cons]
      refine hstep left i xs[i] _ h0 h1 hlt (List.getElem_mem hlt) (fun d => by rw [List.getD_eq_getElem?_getD, List.getElem?_eq_getElem hlt, Option.getD_some]) (fun hf => ?_) (fun hf => ?_)
      · refine ev_cast (ih (i + 1) (left - (f xs[i] : Int)) (by omega) (by omega) (by omega) (by omega)) ?_
        by_cases hs : ((((xs.drop (i + 1)).map f).sum : Nat) : Int) ≤ left - (f xs[i] : Int)
        · rw [if_pos hs, if_pos (by omega)]; omega
        · rw [if_neg hs, if_neg (by omega)]
      · rw [if_neg (by omega)]
  intro left h0 h1
  exact main xs.length 0 left (by omega) (by omega) h0 h1
theorem le_sum {l : List α} {f : α → Nat} {x : α} (h : x ∈ l) : f x ≤ (l.map f).sum := by
  induction l with
  | nil => cases h
  | cons y r ih =>
    rw [List.map_cons, List.sum_cons]
    rcases List.mem_cons.1 h with rfl | h
    · omega
    · have := ih h
      omega
def markAll (mk : Int → α → α) (c : α → Nat) : Int → List α → List α
  | _, [] => []
  | q, x :: r => mk q x :: markAll mk c (q + (c x : Int)) r
theorem markAll_length (mk : Int → α → α) (c : α → Nat) : ∀ (l : List α) (q : Int), (markAll mk c q l).length = l.length
  | [], _ => rfl
  | x :: r, q => by simp [markAll, markAll_length mk c r]
theorem ev_mark {L : Nat → List α → Int → Int → Option (Int × List α)} (xs : List α) (mk : Int → α → α) (c : α → Nat)
    (hend : ∀ (out : List α) (q : Int), out.length = xs.length → Ev (fun k => L k out q xs.length) (q, out))
    (hstep : ∀ (out : List α) (q : Int) (i : Nat) x y, i < xs.length → out.length = xs.length → out[i]? = some x → x ∈ xs → (∀ d, out.getD i d = x) → 0 ≤ q → q + (c x : Int) ≤ 4611686018427387904 →
      Ev (fun k => L k (out.set i (mk q x)) (q + (c x : Int)) ((i + 1 : Nat) : Int)) y → Ev (fun k => L k out q i) y)
    (q : Int) (hq : 0 ≤ q) (hb : q + ((xs.map c).sum : Int) ≤ 4611686018427387904) :
    Ev (fun k => L k xs q 0) (q + ((xs.map c).sum : Int), markAll mk c q xs) := by
  have main : ∀ (n i : Nat) (out : List α) (q : Int), n = xs.length - i → i ≤ xs.length → out.length = xs.length → out.drop i = xs.drop i → 0 ≤ q → q + (((xs.drop i).map c).sum : Int) ≤ 4611686018427387904 →
      Ev (fun k => L k out q i) (q + (((xs.drop i).map c).sum : Int), out.take i ++ markAll mk c q (xs.drop i)) := by
    intro n
    induction n with
    | zero =>
      intro i out q hn hi hl hd h0 h1
      obtain rfl : i = xs.length := by omega
      rw [List.drop_length, List.map_nil, List.sum_nil, markAll, List.append_nil, List.take_of_length_le (by omega)]
      exact ev_cast (hend out q hl) (by simp)
    | succ n ih =>
      intro i out q hn hi hl hd h0 h1
      have hlt : i < xs.length := by omega
      have hlo : i < out.length := by omega
      have e1 := List.drop_eq_getElem_cons hlt
      have e2 := List.drop_eq_getElem_cons hlo
      rw [hd, e1] at e2
      injection e2 with e3 e4
      rw [e1, List.map_cons, List.sum_cons] at h1
      have hx : out[i]? = some xs[i] := by rw [List.getElem?_eq_getElem hlo, e3]
      refine hstep out q i xs[i] _ hlt hl hx (List.getElem_mem hlt) (fun d => by rw [List.getD_eq_getElem?_getD, hx, Option.getD_some]) h0 (by omega) ?_
      refine ev_cast (ih (i + 1) (out.set i (mk q xs[i])) (q + (c xs[i] : Int)) (by omega) (by omega) (by rw [List.length_set]; exact hl) ?_ (by omega) (by omega)) ?_
      · rw [List.drop_set_of_lt (by omega)]; exact e4.symm
      · rw [e1, List.map_cons, List.sum_cons, markAll, List.take_succ_eq_append_getElem (by rw [List.length_set]; omega), List.getElem_set_self, List.append_assoc, List.singleton_append, List.take_set_of_le (Nat.le_refl i)]
        congr 1
        omega
  have h := main xs.length 0 xs q (by omega) (by omega) rfl rfl hq hb
  simpa using h
theorem ev_held {H : Nat → Int → Int → Option Int} (xs ys : List α) (mk : Int → α → α) (c : α → Nat) (q0 : Int) (hys : ys = markAll mk c q0 xs)
    (hend : ∀ q : Int, Ev (fun k => H k q xs.length) q)
    (hstep : ∀ (q : Int) (i : Nat) x y, i < xs.length → x ∈ xs → ys[i]? = some (mk q x) → (∀ d, ys.getD i d = mk q x) → 0 ≤ q → q + (c x : Int) ≤ 4611686018427387904 → Ev (fun k => H k (q + (c x : Int)) ((i + 1 : Nat) : Int)) y → Ev (fun k => H k q i) y)
    (hq : 0 ≤ q0) (hb : q0 + ((xs.map c).sum : Int) ≤ 4611686018427387904) : Ev (fun k => H k q0 0) (q0 + ((xs.map c).sum : Int)) := by
  have main : ∀ (n i : Nat) (q : Int), n = xs.length - i → i ≤ xs.length → ys.drop i = markAll mk c q (xs.drop i) → 0 ≤ q → q + (((xs.drop i).map c).sum : Int) ≤ 4611686018427387904 →
      Ev (fun k => H k q i) (q + (((xs.drop i).map c).sum : Int)) := by
    intro n
    induction n with
    | zero =>
      intro i q hn hi hd h0 h1
      obtain rfl : i = xs.length := by omega
      rw [List.drop_length, List.map_nil, List.sum_nil]
      exact ev_cast (hend q) (by simp)
    | succ n ih =>
      intro i q hn hi hd h0 h1
      have hlt : i < xs.length := by omega
      have hly : ys.length = xs.length := by rw [hys, markAll_length]
      have hlo : i < ys.length := by omega
      have e1 := List.drop_eq_getElem_cons hlt
      have e2 := List.drop_eq_getElem_cons hlo
      rw [hd, e1, markAll] at e2
      injection e2 with e3 e4
      rw [e1, List.map_cons, List.sum_cons] at h1 ⊢
      have hx : ys[i]? = some (mk q xs[i]) := by rw [List.getElem?_eq_getElem hlo, e3]
      refine hstep q i xs[i] _ hlt (List.getElem_mem hlt) hx (fun d => by rw [List.getD_eq_getElem?_getD, hx, Option.getD_some]) h0 (by omega) ?_
      refine ev_cast (ih (i + 1) (q + (c xs[i] : Int)) (by omega) (by omega) e4.symm (by omega) (by omega)) ?_
      omega
  have h := main xs.length 0 q0 (by omega) (by omega) (by simpa using hys) hq hb
  simpa using h
def idxG (p : α → Bool) : Nat → List α → Int
  | _, [] => -1
  | i, x :: r => if p x = true then (i : Int) else idxG p (i + 1) r
theorem idxG_spec (p : α → Bool) : ∀ (l : List α) (i : Nat), (idxG p i l = -1 ∧ ∀ x ∈ l, p x = false) ∨
    ∃ j x, j < l.length ∧ idxG p i l = ((i + j : Nat) : Int) ∧ l[j]? = some x ∧ p x = true ∧ l.find? p = some x ∧ ∀ m y, m < j → l[m]? = some y → p y = false
  | [], i => .inl ⟨rfl, by simp⟩
  | x :: r, i => by
    by_cases h : p x = true
    · exact .inr ⟨0, x, by simp, by simp [idxG, h], rfl, h, by simp [h], fun m y hm => by omega⟩
    · rcases idxG_spec p r (i + 1) with ⟨h1, h2⟩ | ⟨j, y, h1, h2, h3, h4, h5, h6⟩
      · refine .inl ⟨by simp [idxG, h, h1], fun z hz => ?_⟩
        rcases List.mem_cons.1 hz with rfl | hz
        · simpa using h
        · exact h2 z hz
      · refine .inr ⟨j + 1, y, by simp only [List.length_cons]; omega, ?_, by simpa using h3, h4, by simp [h, h5], fun m z hm hz => ?_⟩
        · rw [idxG, if_neg h, h2]; congr 1; omega
        · cases m with
          | zero => simp at hz; subst hz; simpa using h
          | succ m => exact h6 m z (by omega) (by simpa using hz)
theorem idxG_lt (p : α → Bool) (l : List α) (i : Nat) : idxG p i l < 0 ↔ l.any p = false := by
  rcases idxG_spec p l i with ⟨h1, h2⟩ | ⟨j, x, h1, h2, h3, h4, h5, h6⟩
  · rw [h1]
    refine ⟨fun _ => ?_, fun _ => by omega⟩
    rw [List.any_eq_false]; intro x hx; simp [h2 x hx]
  · rw [h2]
    refine ⟨fun h => by omega, fun h => ?_⟩
    rw [List.any_eq_false] at h
    exact absurd h4 (h x (List.mem_of_getElem? h3))
theorem idxG_here {p : α → Bool} {l : List α} {k : Nat} {x : α} (hx : l[k]? = some x) (hp : p x = true) (h : ∀ m y, m < k → l[m]? = some y → p y = false) : idxG p 0 l = (k : Int) := by
  rcases idxG_spec p l 0 with ⟨h1, h2⟩ | ⟨j, y, h1, h2, h3, h4, h5, h6⟩
  · exact absurd hp (by rw [h2 x (List.mem_of_getElem? hx)]; simp)
  · rcases Nat.lt_trichotomy j k with hj | hj | hj
    · rw [h j y hj h3] at h4; cases h4
    · subst hj; rw [h2]; simp
    · rw [h6 k x hj hx] at hp; cases hp
theorem idxG_none {p : α → Bool} {l : List α} (h : ∀ m y, m < l.length → l[m]? = some y → p y = false) : idxG p 0 l = -1 := by
  rcases idxG_spec p l 0 with ⟨h1, h2⟩ | ⟨j, y, h1, h2, h3, h4, h5, h6⟩
  · exact h1
  · rw [h j y h1 h3] at h4; cases h4
theorem idxG_nonneg (p : α → Bool) (l : List α) (i : Nat) : decide (0 ≤ idxG p i l) = l.any p := by
  have h := idxG_lt p l i
  by_cases c : l.any p = true
  · rw [c, decide_eq_true_eq]
    have : ¬ idxG p i l < 0 := fun h' => by rw [h.1 h'] at c; cases c
    omega
  · have c' : l.any p = false := by simpa using c
    rw [c', decide_eq_false_iff_not]
    have := h.2 c'
    omega
theorem ev_all {L : Nat → S → Int → Option R} (n : Nat) (St : Nat → S) (C : Nat → Bool) (F Rn : R) (hend : (∀ j, j < n → C j = true) → Ev (fun k => L k (St n) n) Rn)
    (hs : ∀ i, i < n → (∀ j, j < i → C j = true) → C i = true → ∀ y, Ev (fun k => L k (St (i + 1)) ((i + 1 : Nat) : Int)) y → Ev (fun k => L k (St i) i) y)
    (hf : ∀ i, i < n → (∀ j, j < i → C j = true) → C i = false → Ev (fun k => L k (St i) i) F) : Ev (fun k => L k (St 0) 0) (if (List.range n).all C = true then Rn else F) := by
  have main : ∀ (m i : Nat), m = n - i → i ≤ n → (∀ j, j < i → C j = true) → Ev (fun k => L k (St i) i) (if (List.range n).all C = true then Rn else F) := by
    intro m
    induction m with
    | zero =>
      intro i hm hi hC
      obtain rfl : i = n := by omega
      rw [if_pos (by rw [List.all_eq_true]; intro x hx; exact hC x (List.mem_range.1 hx))]
      exact hend hC
    | succ m ih =>
      intro i hm hi hC
      have hlt : i < n := by omega
      cases hc : C i with
      | true =>
        refine hs i hlt hC hc _ (ih (i + 1) (by omega) (by omega) (fun j hj => ?_))
        by_cases e : j = i
        · rw [e]; exact hc
        · exact hC j (by omega)
      | false =>
        rw [if_neg (by rw [List.all_eq_true]; intro h; rw [h i (List.mem_range.2 hlt)] at hc; cases hc)]
        exact hf i hlt hC hc
  exact main n 0 (by omega) (by omega) (fun j hj => by omega)
theorem ev_all0 {L : Nat → Int → Option R} (n : Nat) (C : Nat → Bool) (F Rn : R) (hend : (∀ j, j < n → C j = true) → Ev (fun k => L k n) Rn)
    (hs : ∀ i, i < n → (∀ j, j < i → C j = true) → C i = true → ∀ y, Ev (fun k => L k ((i + 1 : Nat) : Int)) y → Ev (fun k => L k i) y)
    (hf : ∀ i, i < n → (∀ j, j < i → C j = true) → C i = false → Ev (fun k => L k i) F) : Ev (fun k => L k 0) (if (List.range n).all C = true then Rn else F) :=
  ev_all (L := fun k (_ : Unit) i => L k i) n (fun _ => ()) C F Rn hend hs hf
theorem all_range {n : Nat} {C : Nat → Bool} : (List.range n).all C = true ↔ ∀ i, i < n → C i = true := by
  rw [List.all_eq_true]
  exact ⟨fun h i hi => h i (List.mem_range.2 hi), fun h i hi => h i (List.mem_range.1 hi)⟩
theorem all_range_congr {n : Nat} {C D : Nat → Bool} (h : ∀ i, i < n → (∀ j, j < i → C j = true) → (∀ j, j < i → D j = true) → C i = D i) : (List.range n).all C = (List.range n).all D := by
  have key : ∀ i, i ≤ n → ((∀ j, j < i → C j = true) ↔ (∀ j, j < i → D j = true)) := by
    intro i
    induction i with
    | zero => intro _; exact ⟨fun _ j hj => by omega, fun _ j hj => by omega⟩
    | succ i ih =>
      intro hi
      have ih' := ih (by omega)
      constructor
      · intro hC j hj
        by_cases e : j = i
        · subst e
          have h1 : ∀ m, m < j → C m = true := fun m hm => hC m (by omega)
          rw [← h j (by omega) h1 (ih'.1 h1)]; exact hC j (by omega)
        · exact ih'.1 (fun m hm => hC m (by omega)) j (by omega)
      · intro hD j hj
        by_cases e : j = i
        · subst e
          have h1 : ∀ m, m < j → D m = true := fun m hm => hD m (by omega)
          rw [h j (by omega) (ih'.2 h1) h1]; exact hD j (by omega)
        · exact ih'.2 (fun m hm => hD m (by omega)) j (by omega)
  rw [Bool.eq_iff_iff, all_range, all_range]
  exact key n (Nat.le_refl n)
def sumTo (f : Nat → Int) : Nat → Int
  | 0 => 0
  | n + 1 => sumTo f n + f n
theorem sumTo_bound {f : Nat → Int} {c : Int} : ∀ {n : Nat}, (∀ i, i < n → 0 ≤ f i ∧ f i ≤ c) → 0 ≤ sumTo f n ∧ sumTo f n ≤ c * n
  | 0, _ => by simp [sumTo]
  | n + 1, h => by
    have h1 := sumTo_bound (f := f) (c := c) (n := n) (fun i hi => h i (by omega))
    have h2 := h n (by omega)
    simp only [sumTo]
    have : c * ((n + 1 : Nat) : Int) = c * (n : Int) + c := by rw [Int.natCast_succ, Int.mul_add, Int.mul_one]
    omega
theorem sumTo_congr {f g : Nat → Int} : ∀ {n : Nat}, (∀ i, i < n → f i = g i) → sumTo f n = sumTo g n
  | 0, _ => rfl
  | n + 1, h => by simp only [sumTo]; rw [sumTo_congr (fun i hi => h i (by omega)), h n (by omega)]
theorem sumTo_mono {f : Nat → Int} {m : Nat} : ∀ {n : Nat}, m ≤ n → (∀ i, i < n → 0 ≤ f i) → sumTo f m ≤ sumTo f n
  | 0, h, _ => by obtain rfl : m = 0 := by omega
                  exact Int.le_refl _
  | n + 1, h, hf => by
    by_cases e : m = n + 1
    · rw [e]; exact Int.le_refl _
    · have := sumTo_mono (n := n) (show m ≤ n by omega) (fun i hi => hf i (by omega))
      have := hf n (by omega)
      simp only [sumTo]; omega
theorem getD_in {α : Type} {l : List α} {i : Nat} (h : i < l.length) (d : α) : l.getD i d = l[i] := by rw [List.getD_eq_getElem?_getD, List.getElem?_eq_getElem h, Option.getD_some]
theorem wrap_pred {i : Nat} (h : 0 < i) (hn : i ≤ 9223372036854775807) : wrap64 ((i : Int) - 1) = ((i - 1 : Nat) : Int) := by rw [wrap_id] <;> omega
end Go.Proofs.Ytdbhelhoaciodaa.E
namespace Go.Proofs.Ytdbhelhoaciodaa.X
open Go.RowKit Go.Proofs.YtdbhelhoaciodaaW.PrintWords Go.Proofs.YtdbhelhoaciodaaW.PrintLast Go.Proofs.YtdbhelhoaciodaaW.PrintMore Go.Proofs.Ytdbhelhoaciodaa.E
attribute [local go_sem] max2_int min2_int max_two min_two max_three min_three max_four min_four
set_option linter.unusedVariables false
set_option linter.unusedSimpArgs false
attribute [-simp] ByteArray.size_append ByteArray.size_extract
attribute [-go_sem] ByteArray.size_append'
/-! ### laws_markArchiveBoxS: function 18 -/
def laws_markArchiveBoxS.l0 : Nat → List S80 → Int → Int → Option (Int × List S80)
 | 0, _, _, _ => none
 | k + 1, x0, x1, x5 => if x5 < (x0.length : Int) then (if 0 ≤ x5 then ((laws_markIntS.f k ((rd_T80 x0 x5).f1) (wrap64 (x1 + 1))).bind fun t1 => laws_markArchiveBoxS.l0 k (x0.set x5.toNat (⟨x1, t1.2⟩ : S80)) (t1.1) (wrap64 (x5 + 1))) else none) else some (x1, x0)
def laws_markArchiveBoxS.f (k : Nat) (l0 : List S80) (a1 : Int) : Option (Int × List S80) := laws_markArchiveBoxS.l0 k l0 a1 0
set_option maxHeartbeats 8000000 in
set_option maxRecDepth 100000 in
theorem laws_markArchiveBoxS.calls (k : Nat) (P0_ : Nat → Prop) (u9000_ : Value) (l0 : List (S80)) (a1 : Int) (r1 : Int) (r2 : List (S80)) (w0 w : World) (hB : Below w0.heap.size w0 w) (ho0 : Kd.S k80 80 w w0.heap.size P0_ u9000_ l0) (h : laws_markArchiveBoxS.f k l0 a1 = some (r1, r2)) :
  Calls Try.prog 18 #[u9000_, .int .i64 a1] w fun e w' => e = .returned (.int .i64 r1) ∧ Kd.S k80 80 w' w0.heap.size (fun k_ => (P0_ k_ ∨ w.heap.size ≤ k_)) u9000_ r2 ∧ Below w0.heap.size w0 w' ∧ Kept w w' (fun k_ => P0_ k_) := by
 (have HO := Aside0.mk (Kd.S_mono (ok' := (fun k_ => (P0_ k_ ∨ w.heap.size ≤ k_))) ho0 (fun k_ hk => .inl hk))); (have HK := Aside0.mk (Kept.refl w (fun k_ => P0_ k_))); (have HP0 := Aside0.mk ho0); (have HB := Aside0.mk hB); (have H := Aside0.mk h); clear h hB ho0; (obtain ⟨A_, c_, e_⟩ := Kd.R_slice (Kd.S_R HO.out)); subst e_; (have HN := Aside0.mk (rfl : l0.length = l0.length)); (go_enter Try.func18, Try.ntmps18); (go_wp2); (go_loopg [1, 5] k (fun kq v1 v5 w' => ∃ (x0 : List (S80)) (x1 x5 : Int), v1 = .int .i64 x1 ∧ v5 = .int .i64 x5 ∧ Aside0 (laws_markArchiveBoxS.l0 kq x0 x1 x5 = some (r1, r2)) ∧ Aside0 (kq ≤ k) ∧ Aside0 (x0.length = l0.length) ∧ Aside0 (Kd.S k80 80 w' w0.heap.size (fun k_ => (P0_ k_ ∨ w.heap.size ≤ k_)) (.slice A_ l0.length c_) x0) ∧ Aside0 (Kept w w' (fun k_ => P0_ k_)) ∧ Aside0 (Below w0.heap.size w0 w')))
 case atStart => exact ⟨l0, a1, 0, rfl, rfl, H, ⟨Nat.le_refl _⟩, ⟨rfl⟩, HO, HK, HB⟩
 case round =>
  obtain ⟨x0, x1, x5, rfl, rfl, HA, HK1, HN1, HO, HK, HB⟩ := hrel
  cases gk with
  | zero => exact absurd HA.out (by simp [laws_markArchiveBoxS.l0])
  | succ k1 =>
   (have H := HA.out); clear HA; (simp only [laws_markArchiveBoxS.l0] at H); (have hn := HN1.out); (by_cases c3 : x5 < (x0.length : Int))
   ·rw [if_pos c3] at H
    by_cases c5 : 0 ≤ x5
    ·rw [if_pos c5] at H
     (obtain ⟨⟨t1a, t1b⟩, A0, H⟩ := obS H); (have H' := Aside0.mk H); clear H
     have hA : ∃ g, A_ = some ⟨g, 0, none⟩ := by
      (obtain ⟨g, cap, e, _⟩ := Kd.R_form (Kd.S_R HO.out) (by omega)); (injection e with e _ _); (exact ⟨g, e⟩)
     (obtain ⟨g, rfl⟩ := hA); (have HG := Aside0.mk (show P0_ g from HP0.out.elim (fun f hf => hf.1 g (by simp [Value.ownBlock])))); (have HGW := Aside0.mk (Kd.S_base HO.out g (by simp [Value.ownBlock]))); (have hln : (l0.length : Int) = (x0.length : Int) := by omega); (have HI := Aside0.mk (show 0 ≤ x5 ∧ x5 < x0.length ∧ x5 < l0.length from ⟨c5, c3, by omega⟩)); (have HNW := Aside0.mk HK.out.1); (have HX := Aside0.mk (show Kd.S k80 80 wr w0.heap.size (fun k_ => (P0_ k_ ∨ w.heap.size ≤ k_)) (.slice (some ⟨g, 0, none⟩) l0.length c_) (x0.set x5.toNat (rd_T80 x0 x5)) from by unfold rd_T80; rw [set_getD _ _ _ (by omega)]; exact HO.out)); (have p1 : decide (x5 < (l0.length : Int)) = true := decide_eq_true (by omega)); (have p2 : (0 ≤ x5) = True := eq_true c5); (have p3 : (x5 < (l0.length : Int)) = True := eq_true (by omega)); clear c3 c5 hn hln HO; (go_wp2_with (first | ((with_reducible refine gate_store (t := 3) (p := 16) rfl ?_); have hx := S_at HX.out HI.out.1 HI.out.2.1 (show (k80).sz = 2 from rfl); obtain ⟨okj, cj, _, hMj, hcj, hfj, _⟩ := hx; obtain ⟨v4, ec, _⟩ := k80_openM hMj; subst ec; have hx1 := hcj 0 _ rfl; have hf1 := hfj 0; clear hMj hcj hfj; rw [Nat.add_zero] at hx1 hf1; refine store_event (t := 3) (p := 16) (v := ?vo16) (w1 := wr.setCell ⟨g, x5.toNat * 2, none⟩ (.int .i64 (x1))) ?hg ?ho ?hn ?hr ?_; (case ho => rfl); (case hg => rfl); (case hn => rfl); (case hr => first | (go_simp; done) | (go_simp; rfl)); intro w1_ hw; clear hx1 hf1; have HP := S_fld HX.out HI.out.1 HI.out.2.1 (show (k80).sz = 2 from rfl) 0 (by decide) (⟨x1, (rd_T80 x0 x5).f1⟩ : S80) (.int .i64 (x1)) (fun oki c hM => by obtain ⟨v4, rfl, hr⟩ := k80_openM hM; exact k80_mkM _ _ _ (⟨x1, (rd_T80 x0 x5).f1⟩ : S80) hr); have n0_ := Aside0.mk (show Kd.S k80 80 w1_ w0.heap.size (fun k_ => (P0_ k_ ∨ w.heap.size ≤ k_)) (.slice (some ⟨g, 0, none⟩) l0.length c_) (x0.set x5.toNat (⟨x1, (rd_T80 x0 x5).f1⟩ : S80)) from by rw [hw]; exact HP.1); have n1_ := Aside0.mk (show Kept w w1_ (fun k_ => P0_ k_) from by rw [hw]; exact Kept.of_grown HP.2 HK.out (fun k_ hk => by injection hk with hk; subst hk; exact Or.inl HG.out)); have n2_ := Aside0.mk (show Below w0.heap.size w0 w1_ from by rw [hw]; exact below_set HB.out HGW.out); clear HX HK HB hw HP; have HX := n0_; have HK := n1_; have HB := n2_; clear n0_ n1_ n2_) | ((with_reducible refine gate_dst (N := 23) rfl ?_); obtain ⟨oki, ce, hcl, hM, hcc, hoki, hback⟩ := S_in HX.out HI.out.1 HI.out.2.1 (show (k80).sz = 2 from rfl) (fun k_ hk => Or.inr (Nat.le_trans HK.out.1 hk)); obtain ⟨v4, ec, hr4⟩ := k80_openM hM; subst ec; obtain ⟨A4, c4, e4⟩ := Kd.R_slice hr4; subst e4; have hx4 := hcc 1 _ rfl; have HR4 := Aside0.mk hr4; have HBK := Aside0.mk (@hback); have HOK := Aside0.mk hoki; clear hcl hM hcc hback hoki hr4; refine Go.wpList_plain rfl fun K hK => ?_; go_simp; refine hK _ _ ?_) | ((with_reducible refine gate_callee (f := 19) rfl ?_); refine gL (some 25) Try.func19 #[.slice A4 ((rd_T80 x0 x5).f1).length c4, .int .i64 (wrap64 (x1 + 1))] ?_; (with_reducible refine (laws_markIntS.calls k1 oki _ _ (wrap64 (x1 + 1)) t1a t1b w0 _ HB.out HR4.out A0.out).mono ?_); rintro e w2_ ⟨rfl, hr5, hb, hk⟩; refine ⟨_, rfl, ?_⟩; have n0_ := Aside0.mk (HBK.out w2_ (⟨x1, t1b⟩ : S80) hk (k80_mkM _ _ _ (⟨x1, t1b⟩ : S80) hr5)); have n1_ := Aside0.mk (HK.out.then_ hk (fun k_ h_ => (HOK.out k_ h_).1)); have n2_ := Aside0.mk hb; clear HX HK HB HBK HOK HR4 hb hk hr5 hx4; have HX := n0_; have HK := n1_; have HB := n2_; clear n0_ n1_ n2_))); go_roundg k1
     case measure => have := HK1.out; omega
     case rel => exact ⟨_, _, _, rfl, rfl, H', ⟨Q7⟩, ⟨by rw [List.length_set]; exact HN1.out⟩, HX, HK, HB⟩
    ·rw [if_neg c5] at H
     exact Q8
   ·rw [if_neg c3] at H
    (simp only [Option.some.injEq, Prod.mk.injEq] at H); (obtain ⟨rfl, rfl⟩ := H); (have p1 : decide (x5 < (l0.length : Int)) = false := decide_eq_false (by omega)); clear c3 hn; (go_wp2); go_ret; (exact ⟨rfl, HO.out, HB.out, HK.out⟩)
end Go.Proofs.Ytdbhelhoaciodaa.X
namespace Go.Proofs.Ytdbhelhoaciodaa.X
open Go.RowKit Go.Proofs.YtdbhelhoaciodaaW.PrintWords Go.Proofs.YtdbhelhoaciodaaW.PrintLast Go.Proofs.YtdbhelhoaciodaaW.PrintMore
attribute [local go_sem] max2_int min2_int max_two min_two max_three min_three max_four min_four
set_option linter.unusedVariables false
set_option linter.unusedSimpArgs false
attribute [-simp] ByteArray.size_append ByteArray.size_extract
attribute [-go_sem] ByteArray.size_append'
/-! ### spec_l26Find: function 46 -/
def spec_l26Find.l0 : Nat → List (S83) → Int → Int → Option (Int)
 | 0, _, _, _ => none
 | k + 1, x0, x1, x5 => if x5 < (x0.length : Int) then (if 0 ≤ x5 then (if ((rd_T83 x0 x5).f0) = x1 then (some x5) else (spec_l26Find.l0 k x0 x1 (wrap64 (x5 + 1)))) else (none)) else (some (-1))
def spec_l26Find.f (k : Nat) (l0 : List (S83)) (a1 : Int) : Option (Int) := spec_l26Find.l0 k l0 a1 0
set_option maxHeartbeats 8000000 in
set_option maxRecDepth 100000 in
theorem spec_l26Find.calls (k : Nat) (A0 : Option Addr) (c0 : Nat) (l0 : List (S83)) (a1 : Int) (r : Int) (w : World) (hr0 : Kd.C k83 w A0 l0.length l0) (hc0 : l0.length ≤ c0) (h : spec_l26Find.f k l0 a1 = some r) :
  Calls Try.prog 46 #[.slice A0 l0.length c0, .int .i64 a1] w fun e w' => e = .returned (.int .i64 r) ∧ Drawn0 w w' := by
 (have HR0 := Aside0.mk hr0); (have HC0 := Aside0.mk hc0); clear hr0 hc0; (unfold spec_l26Find.f at h); (have H := h); clear h; (have H' := Aside0.mk H); clear H; (go_enter Try.func46, Try.ntmps46); (go_wp2); (go_loopg [5] k (fun kq v5 w' => ∃ (x5_1 : Int), v5 = .int .i64 x5_1 ∧ Aside0 (spec_l26Find.l0 kq l0 a1 x5_1 = some r) ∧ Aside0 (kq ≤ k) ∧ Drawn0 w w'))
 case atStart => exact Q23
 case round =>
  (clear H'); (try clear p2); (obtain ⟨x5_1, rfl, HA, HK1, ⟨m1, rfl⟩⟩ := hrel)
  cases gk with
  | zero => exact absurd HA.out (by simp [spec_l26Find.l0])
  | succ k1 =>
   (have H := HA.out); clear HA; (simp only [spec_l26Find.l0] at H); (by_cases c3 : x5_1 < (l0.length : Int))
   ·rw [if_pos c3] at H
    (have c3b0 := decide_eq_true c3); clear c3; (by_cases c4 : 0 ≤ x5_1)
    ·rw [if_pos c4] at H
     (have c4b0 := decide_eq_true c4); clear c4; (by_cases c5 : ((rd_T83 l0 x5_1).f0) = a1)
     ·rw [if_pos c5] at H
      (have c5b0 : (((rd_T83 l0 x5_1).f0) == a1) = true := beq_iff_eq.mpr c5); (have c5b1 : (((rd_T83 l0 x5_1).f0) != a1) = false := bne_eq_false_iff_eq.mpr c5); clear c5; (obtain rfl := Option.some.inj H); (have p101 : 0 ≤ (x5_1 : Int) := odt); (have q101 : x5_1 < (l0.length : Int) := odt); (obtain ⟨ad101, e101, hx101_0, hx101_1, hx101_2⟩ := at_T83 HR0.out x5_1 p101 q101); (cases e101); (replace p101 := eq_true p101); (replace q101 := eq_true q101); (go_wp2); go_ret; (exact Q25)
     ·rw [if_neg c5] at H
      (have c5b0 : (((rd_T83 l0 x5_1).f0) == a1) = false := beq_eq_false_iff_ne.mpr c5); (have c5b1 : (((rd_T83 l0 x5_1).f0) != a1) = true := bne_iff_ne.mpr c5); (have H' := Aside0.mk H); clear H; (have p101 : 0 ≤ (x5_1 : Int) := odt); (have q101 : x5_1 < (l0.length : Int) := odt); (obtain ⟨ad101, e101, hx101_0, hx101_1, hx101_2⟩ := at_T83 HR0.out x5_1 p101 q101); (cases e101); (replace p101 := eq_true p101); (replace q101 := eq_true q101); (go_wp2); go_roundg k1
      case measure => have := HK1.out; omega
      case rel => exact Q24
    ·rw [if_neg c4] at H
     exact Q8
   ·rw [if_neg c3] at H
    (have c3b0 := decide_eq_false c3); clear c3; (obtain rfl := Option.some.inj H); (go_wp2); go_ret; (exact Q25)
/-! ### spec_l1Put: function 47 -/
def spec_l1Put.l0 : Nat → List Int → Int → Int → Option (List Int)
 | 0, _, _, _ => none
 | k + 1, x0, x1, x5 => if x5 < (x0.length : Int) then (if 0 ≤ x5 then (if (rd x0 x5) < x1 then (spec_l1Put.l0 k x0 x1 (wrap64 (x5 + 1))) else (if (rd x0 x5) = x1 then (some x0) else ((some (([] : List Int) : List Int)).bind fun y103 => (if x5 ≤ (x0.length : Int) then ((some (x0.take (x5 : Int).toNat : List Int)).bind fun y106 => (if y103.length + y106.length < 17592186044416 then ((some (y103 ++ y106 : List Int)).bind fun y110 => ((some (([x1] : List Int) : List Int)).bind fun y113 => (if y110.length + y113.length < 17592186044416 then ((some (y110 ++ y113 : List Int)).bind fun y116 => ((some (x0.drop (x5 : Int).toNat : List Int)).bind fun y119 => (if y116.length + y119.length < 17592186044416 then (some (y116 ++ y119)) else (none)))) else (none)))) else (none))) else (none))))) else (none)) else ((some (([] : List Int) : List Int)).bind fun y126 => (if 0 ≤ x5 then (if x5 ≤ (x0.length : Int) then ((some (x0.take (x5 : Int).toNat : List Int)).bind fun y129 => (if y126.length + y129.length < 17592186044416 then ((some (y126 ++ y129 : List Int)).bind fun y133 => ((some (([x1] : List Int) : List Int)).bind fun y136 => (if y133.length + y136.length < 17592186044416 then ((some (y133 ++ y136 : List Int)).bind fun y139 => ((some (x0.drop (x5 : Int).toNat : List Int)).bind fun y142 => (if y139.length + y142.length < 17592186044416 then (some (y139 ++ y142)) else (none)))) else (none)))) else (none))) else (none)) else (none)))
def spec_l1Put.f (k : Nat) (l0 : List Int) (a1 : Int) : Option (List Int) := spec_l1Put.l0 k l0 a1 0
def spec_l1Put.T6 : Bool × List (List Nat × List Nat) := (true, [([], []), ([], []), ([], []), ([1, 2], [1, 2]), ([0, 3], [0, 3]), ([], []), ([5], [5]), ([4, 6, 4], [4, 6]), ([], []), ([], []), ([8, 9], [8, 9]), ([7, 10, 7], [7, 10]), ([11, 11, 0, 1, 2, 3, 4, 5, 6, 7, 8, 9, 10, 11], [11])])
def spec_l1Put.B6 : List Nat := [0, 0, 0, 6, 15, 0, 32, 127, 0, 0, 768, 2047, 4095]
theorem spec_l1Put.tab6 : rtab .any (opsOf Try.f47 6) = spec_l1Put.T6 := by kernel_rfl
theorem spec_l1Put.bits6 : waitsOk spec_l1Put.T6.2 spec_l1Put.B6 = true := by kernel_rfl
set_option maxHeartbeats 8000000 in
set_option maxRecDepth 100000 in
theorem spec_l1Put.calls (k : Nat) (P0_ : Nat → Prop) (u9000_ : Value) (l0 : List Int) (a1 : Int) (r : List Int) (w0 w : World) (hB : Below w0.heap.size w0 w) (ho0 : Kd.R (Kd.int .i64) 3 w w0.heap.size P0_ u9000_ l0) (h : spec_l1Put.f k l0 a1 = some r) :
  Calls Try.prog 47 #[u9000_, .int .i64 a1] w fun e w' => ∃ v0_ : Value, e = .returned (v0_) ∧ Kd.R (Kd.int .i64) 3 w' w0.heap.size (fun k_ => (P0_ k_ ∨ w.heap.size ≤ k_)) v0_ r ∧ Below w0.heap.size w0 w' ∧ Kept w w' (fun k_ => P0_ k_) := by
 (have HO0 := Aside0.mk (show Kd.R (Kd.int .i64) 3 w w0.heap.size (fun k_ => (P0_ k_ ∨ w.heap.size ≤ k_)) u9000_ l0 from Kd.R_mono ho0 (fun k_ hk => (.inl hk)))); (have HK := Aside0.mk (Kept.refl w (fun k_ => P0_ k_))); (have HW0 := Aside0.mk hB.size); (have HB := Aside0.mk hB); clear hB; (have H : (spec_l1Put.l0 k l0 a1 0) = some r := h); clear h; (have H' := Aside0.mk H); clear H; (go_enter Try.func47, Try.ntmps47); (go_wp2); (go_loopg [5] k (fun kq v5 w' => ∃ (x5_1 : Int), v5 = .int .i64 x5_1 ∧ Aside0 (spec_l1Put.l0 kq l0 a1 x5_1 = some r) ∧ Aside0 (kq ≤ k) ∧ Aside0 (Kd.R (Kd.int .i64) 3 w' w0.heap.size (fun k_ => (P0_ k_ ∨ w.heap.size ≤ k_)) u9000_ l0) ∧ Aside0 (Kept w w' (fun k_ => P0_ k_)) ∧ Aside0 (Below w0.heap.size w0 w')))
 case atStart => exact ⟨(0), Q6, H', ⟨Nat.le_refl _⟩, ⟨by (with_reducible repeat (first | apply rA | apply rN | apply rD)); exact HO0.out⟩, ⟨Q33⟩, ⟨Q10⟩⟩
 case round =>
  (clear H'); (try clear p2); (obtain ⟨x5_1, rfl, HA, HK1, HO_0, HK, HB⟩ := hrel)
  cases gk with
  | zero => exact absurd HA.out (by simp [spec_l1Put.l0])
  | succ k1 =>
   (have H := HA.out); clear HA; (simp only [spec_l1Put.l0] at H); (by_cases c3 : x5_1 < (l0.length : Int))
   ·rw [if_pos c3] at H
    (have c3b0 : decide (x5_1 < (l0.length : Int)) = true := decide_eq_true c3); clear c3; (by_cases c4 : 0 ≤ x5_1)
    ·rw [if_pos c4] at H
     (have c4b0 : decide (0 ≤ x5_1) = true := decide_eq_true c4); clear c4; (by_cases c5 : (rd l0 x5_1) < a1)
     ·rw [if_pos c5] at H
      (have c5b0 : decide ((rd l0 x5_1) < a1) = true := decide_eq_true c5); clear c5; (have H' := Aside0.mk H); clear H; (obtain ⟨Ao6, co6, eo6⟩ := Kd.R_slice HO_0.out); subst eo6; (have p101 : 0 ≤ (x5_1 : Int) := of_decide_eq_true Q35); (have q101 : x5_1 < (l0.length : Int) := of_decide_eq_true Q35); (obtain ⟨ad101, e101, hx101_0⟩ := Kd.at_int (Kd.R_reads' HO_0.out).2.2 x5_1 p101 q101); (cases e101); (replace p101 := eq_true p101); (replace q101 := eq_true q101); (go_wp2); go_roundg k1
      case measure => have := HK1.out; omega
      case rel => exact ⟨(wrap64 (x5_1 + 1)), Q6, H', ⟨Q7⟩, ⟨Q36⟩, ⟨Q33⟩, ⟨Q10⟩⟩
     ·rw [if_neg c5] at H
      (have c5b0 : decide ((rd l0 x5_1) < a1) = false := decide_eq_false c5); clear c5; (by_cases c7 : (rd l0 x5_1) = a1)
      ·rw [if_pos c7] at H
       (have c7b0 : ((rd l0 x5_1) == a1) = true := beq_iff_eq.mpr c7); (have c7b1 : ((rd l0 x5_1) != a1) = false := bne_eq_false_iff_eq.mpr c7); clear c7; (obtain rfl := Option.some.inj H); (obtain ⟨Ao8, co8, eo8⟩ := Kd.R_slice HO_0.out); subst eo8; (have p101 : 0 ≤ (x5_1 : Int) := of_decide_eq_true Q35); (have q101 : x5_1 < (l0.length : Int) := of_decide_eq_true Q35); (obtain ⟨ad101, e101, hx101_0⟩ := Kd.at_int (Kd.R_reads' HO_0.out).2.2 x5_1 p101 q101); (cases e101); (replace p101 := eq_true p101); (replace q101 := eq_true q101); (have p102 : 0 ≤ (x5_1 : Int) := of_decide_eq_true Q35); (have q102 : x5_1 < (l0.length : Int) := of_decide_eq_true Q35); (obtain ⟨ad102, e102, hx102_0⟩ := Kd.at_int (Kd.R_reads' HO_0.out).2.2 x5_1 p102 q102); (obtain rfl : ad101 = ad102 := Q37); (replace p102 := eq_true p102); (replace q102 := eq_true q102); (go_wp2); go_ret; (exact ⟨_, Q1, Q36, Q10, Q33⟩)
      ·rw [if_neg c7] at H
       (have c7b0 : ((rd l0 x5_1) == a1) = false := beq_eq_false_iff_ne.mpr c7); (have c7b1 : ((rd l0 x5_1) != a1) = true := bne_iff_ne.mpr c7); (obtain ⟨y103, hy103⟩ : ∃ y_ : List Int, y_ = (([] : List Int)) := ⟨_, rfl⟩); (replace H : (if x5_1 ≤ (l0.length : Int) then ((some (l0.take (x5_1 : Int).toNat : List Int)).bind fun y106 => (if y103.length + y106.length < 17592186044416 then ((some (y103 ++ y106 : List Int)).bind fun y110 => ((some (([a1] : List Int) : List Int)).bind fun y113 => (if y110.length + y113.length < 17592186044416 then ((some (y110 ++ y113 : List Int)).bind fun y116 => ((some (l0.drop (x5_1 : Int).toNat : List Int)).bind fun y119 => (if y116.length + y119.length < 17592186044416 then (some (y116 ++ y119)) else (none)))) else (none)))) else (none))) else (none)) = some r := Q30); (have Ny103 := Aside0.mk hy103); clear hy103; (have c9b0 := eq_true (of_decide_eq_true Q35 : 0 ≤ x5_1)); (by_cases c10 : x5_1 ≤ (l0.length : Int))
       ·rw [if_pos c10] at H
        (have c10b0 := eq_true c10); (have c10b1 : decide (x5_1 ≤ (l0.length : Int)) = true := decide_eq_true c10); clear c10; (obtain ⟨y106, hy106⟩ : ∃ y_ : List Int, y_ = (l0.take (x5_1 : Int).toNat) := ⟨_, rfl⟩); (replace H : (if y103.length + y106.length < 17592186044416 then ((some (y103 ++ y106 : List Int)).bind fun y110 => ((some (([a1] : List Int) : List Int)).bind fun y113 => (if y110.length + y113.length < 17592186044416 then ((some (y110 ++ y113 : List Int)).bind fun y116 => ((some (l0.drop (x5_1 : Int).toNat : List Int)).bind fun y119 => (if y116.length + y119.length < 17592186044416 then (some (y116 ++ y119)) else (none)))) else (none)))) else (none)) = some r := Q38); (have Ny106 := Aside0.mk hy106); clear hy106; (by_cases c11 : y103.length + y106.length < 17592186044416)
        ·rw [if_pos c11] at H
         (have LMc11 := Aside0.mk c11); clear c11; (obtain ⟨y110, hy110⟩ : ∃ y_ : List Int, y_ = (y103 ++ y106) := ⟨_, rfl⟩); (replace H : ((some (([a1] : List Int) : List Int)).bind fun y113 => (if y110.length + y113.length < 17592186044416 then ((some (y110 ++ y113 : List Int)).bind fun y116 => ((some (l0.drop (x5_1 : Int).toNat : List Int)).bind fun y119 => (if y116.length + y119.length < 17592186044416 then (some (y116 ++ y119)) else (none)))) else (none))) = some r := Q39); (have Ny110 := Aside0.mk hy110); clear hy110; (obtain ⟨y113, hy113⟩ : ∃ y_ : List Int, y_ = (([a1] : List Int)) := ⟨_, rfl⟩); (replace H : (if y110.length + y113.length < 17592186044416 then ((some (y110 ++ y113 : List Int)).bind fun y116 => ((some (l0.drop (x5_1 : Int).toNat : List Int)).bind fun y119 => (if y116.length + y119.length < 17592186044416 then (some (y116 ++ y119)) else (none)))) else (none)) = some r := Q40); (have Ny113 := Aside0.mk hy113); clear hy113; (by_cases c12 : y110.length + y113.length < 17592186044416)
         ·rw [if_pos c12] at H
          (have LMc12 := Aside0.mk c12); clear c12; (obtain ⟨y116, hy116⟩ : ∃ y_ : List Int, y_ = (y110 ++ y113) := ⟨_, rfl⟩); (replace H : ((some (l0.drop (x5_1 : Int).toNat : List Int)).bind fun y119 => (if y116.length + y119.length < 17592186044416 then (some (y116 ++ y119)) else (none))) = some r := by first | (rw [hy116]; with_reducible exact H) | (have H2_ := (Option.bind_some _ _).symm.trans H; rw [hy116]; with_reducible exact H2_) | (have H2_ := (Option.bind_some _ _).symm.trans H; with_reducible exact H2_) | with_reducible exact H | (rw [hy116]; exact H) | exact H); (have Ny116 := Aside0.mk hy116); clear hy116; (have c13b0 := eq_true (of_decide_eq_true Q35 : 0 ≤ x5_1)); (have c14b0 := eq_true (of_decide_eq_true Q35 : x5_1 ≤ (l0.length : Int))); (obtain ⟨y119, hy119⟩ : ∃ y_ : List Int, y_ = (l0.drop (x5_1 : Int).toNat) := ⟨_, rfl⟩); (replace H : (if y116.length + y119.length < 17592186044416 then (some (y116 ++ y119)) else (none)) = some r := Q41); (have Ny119 := Aside0.mk hy119); clear hy119; (by_cases c15 : y116.length + y119.length < 17592186044416)
          ·rw [if_pos c15] at H
           (have LMc15 := Aside0.mk c15); clear c15; (obtain ⟨y123, hy123⟩ : ∃ y_ : List Int, y_ = (y116 ++ y119) := ⟨_, rfl⟩); (replace H : (some y123) = some r := Q42); (have Ny123 := Aside0.mk hy123); clear hy123; (obtain rfl := Option.some.inj H); (obtain ⟨Ao16, co16, eo16⟩ := Kd.R_slice HO_0.out); subst eo16; (have p101 : 0 ≤ (x5_1 : Int) := of_decide_eq_true Q35); (have q101 : x5_1 < (l0.length : Int) := of_decide_eq_true Q35); (obtain ⟨ad101, e101, hx101_0⟩ := Kd.at_int (Kd.R_reads' HO_0.out).2.2 x5_1 p101 q101); (cases e101); (replace p101 := eq_true p101); (replace q101 := eq_true q101); (have p102 : 0 ≤ (x5_1 : Int) := of_decide_eq_true Q35); (have q102 : x5_1 < (l0.length : Int) := of_decide_eq_true Q35); (obtain ⟨ad102, e102, hx102_0⟩ := Kd.at_int (Kd.R_reads' HO_0.out).2.2 x5_1 p102 q102); (obtain rfl : ad101 = ad102 := Q37); (replace p102 := eq_true p102); (replace q102 := eq_true q102); (try go_wp2); (have n0_ := Aside0.mk (Kd.R_drew HO_0.out)); (have n1_ := Aside0.mk (Kept.drew HK.out)); (have n2_ := Aside0.mk (below_drew1 HB.out)); clear HO_0 HK HB; (have HO_0 := n0_); (have HK := n1_); (have HB := n2_); clear n0_ n1_ n2_; (have q18 : (x5_1 : Int) ≤ ((l0.length : Int) : Int) := of_decide_eq_true Q35); (obtain ⟨i018, hi018, _, hsz18, _⟩ := info_parts info3); (have hroom18 : l0.length ≤ co16 := (Kd.R_reads' HO_0.out).2.1); (have hC18 : Kd.C (Kd.int .i64) _ (some ad101) l0.length l0 := (Kd.R_reads' HO_0.out).2.2); (have hcut18 := cut_to (P := Try.prog) 26 3 .i64 Try.underlying26 hi018 (some ad101) l0.length co16 x5_1 (of_decide_eq_true Q35) q18 hroom18); (have hr18 := Kd.C_take (m := (x5_1 : Int).toNat) hC18 (by omega)); (have hy18 : y106.length = (x5_1 : Int).toNat := (by rw [Ny106.out, List.length_take]; omega)); (rw [← Ny106.out] at hr18); (rw [← hy18] at hcut18); (have HR109 := Aside0.mk hr18); (have HC109 := Aside0.mk (show y106.length ≤ co16 from by omega)); clear hr18 hC18 hroom18 hi018 hsz18; (have KY18 := Aside0.mk hy18); clear hy18; (have KL18 := Aside0.mk (show (x5_1 : Int).toNat ≤ l0.length from by omega)); (replace q18 := eq_true q18); (have q19 : (x5_1 : Int) ≤ ((l0.length : Int) : Int) := of_decide_eq_true Q35); (obtain ⟨i019, hi019, _, hsz19, _⟩ := info_parts info3); (have hroom19 : l0.length ≤ co16 := (Kd.R_reads' HO_0.out).2.1); (have hC19 : Kd.C (Kd.int .i64) _ (some ad101) l0.length l0 := (Kd.R_reads' HO_0.out).2.2); (have q019 : (0 : Int) ≤ (x5_1 : Int) := of_decide_eq_true Q35); (have hcut19 := cut_from (P := Try.prog) 26 3 .i64 Try.underlying26 hi019 1 hsz19 (some ad101) l0.length co16 x5_1 q019 q19); (have hr19 := Kd.C_drop (m := (x5_1 : Int).toNat) (c := co16) hC19 (by omega) hroom19); (obtain ⟨A19, hA19⟩ : ∃ A1, A1 = (if co16 = (x5_1 : Int).toNat then (some ad101) else ((some ad101) : Option Addr).map (·.add ((x5_1 : Int).toNat * 1))) := ⟨_, rfl⟩); (obtain ⟨c19, hc19⟩ : ∃ c1, c1 = co16 - (x5_1 : Int).toNat := ⟨_, rfl⟩); (have hy19 : y119.length = l0.length - (x5_1 : Int).toNat := (by rw [Ny119.out, List.length_drop] <;> omega)); (rw [show (l0).drop (x5_1 : Int).toNat = y119 from Ny119.out.symm] at hr19); (replace hr19 : Kd.C (Kd.int .i64) _ A19 y119.length y119 := (by rw [hA19]; exact hr19)); (rw [← hy19, ← hA19, ← hc19] at hcut19); (have HR122 := Aside0.mk hr19); (have HC122 := Aside0.mk (show y119.length ≤ c19 from by rw [hy19, hc19]; exact Nat.sub_le_sub_right hroom19 _)); clear hr19 hC19 hroom19 hi019 hsz19 hc19; (have KY19 := Aside0.mk hy19); (have KA19 := Aside0.mk hA19); clear hy19 hA19; (have KL19 := Aside0.mk (show (x5_1 : Int).toNat ≤ l0.length from by omega)); (replace q19 := eq_true q19); (refine start_ (n := 13) (S := fun w' => True) (ds := []) (cn 13 0) (by kernel_rfl) rfl (by kernel_rfl) trivial (fun hHeld => ?_); refine with_tabW spec_l1Put.tab6 spec_l1Put.bits6 (fun HT_ HW_ => ?_)); (generalize wr.drew = w17 at HO_0 HK HB HR109 HR122 hHeld ⊢); (refine pB 1 (cb 13 2) (some 34) HT_ (h := ?_)); (refine pB 2 (cb 13 6) (some 35) HT_ (h := ?_)); (refine pB 3 (cb 13 14) (some 36) HT_ (h := ?_)); (refine pB 5 (cb 13 46) (some 38) HT_ (h := ?_)); (refine pA 8 (cb 13 302) (some 41) HT_ (v := ?_) (a' := ?_) rfl rfl (by kernel_rfl) (fun _ _ _ h => h) (Or.inl ⟨by rfl, ?_⟩) ?_ ?_); rotate_left
           (· intro w'; go_simp; with_reducible rfl); rotate_left; (· (simp only [Act.put, aS1, aS2, aS3, i64_w, i32_w]); rfl); (refine pB 9 (cb 13 814) (some 42) HT_ (h := ?_)); (refine pB 10 (cb 13 1838) (some 43) HT_ (h := ?_)); (refine join_ (σ := Value × Value × Value) 3 (cb 13 1919) (fun s_ => [(33, s_.1), (37, s_.2.1), (39, s_.2.2)]) (fun s_ w' => (Kd.R (Kd.int .i64) 3 w' w0.heap.size (fun k_ => (P0_ k_ ∨ w.heap.size ≤ k_) ∧ some k_ ≠ (s_.2.2 : Value).ownBlock ∧ some k_ ≠ (.slice (some ad101) l0.length co16 : Value).ownBlock) s_.2.1 y110) ∧ (Kd.R (Kd.int .i64) 3 w' w0.heap.size (fun k_ => (P0_ k_ ∨ w.heap.size ≤ k_) ∧ some k_ ≠ (s_.2.1 : Value).ownBlock ∧ some k_ ≠ (.slice (some ad101) l0.length co16 : Value).ownBlock) s_.2.2 y113) ∧ (Kd.R (Kd.int .i64) 3 w' w0.heap.size (fun k_ => (P0_ k_ ∨ w.heap.size ≤ k_) ∧ some k_ ≠ (s_.2.1 : Value).ownBlock ∧ some k_ ≠ (s_.2.2 : Value).ownBlock) (.slice (some ad101) l0.length co16) l0) ∧ (Kept w w' (fun k_ => P0_ k_)) ∧ (Below w0.heap.size w0 w')) ?_ ?_); rotate_left
           ·intro hCont
            refine two_ (i := 0) (j := 6) (Ni := some 33) (Nj := some 39) (cb 13 1839) (cb 13 1902) rfl rfl rfl rfl (two_of HT_.out (by kernel_rfl)) (by decide) (by decide) (fun K hK => ?_) (fun K hK => ?_)
            ·skip
             (refine Kd.R_lit_step (Kd.int .i64) _ 3 ?hg (N := 33) ?hd (xs := ([] : List Int)) (inner := []) (ok := fun _ => True) (okp := fun _ => True) ?hr ?hp (fun _ hk => hk) trivial (Below.refl _ _) (Nat.le_refl _) (by simp) ?_; (case hd => rfl); (case hg => rfl); (case hr => first | (go_simp; done) | (go_simp; rfl)); (case hp => exact Q43)); intro v104 w20 ho21 hb hg_ hnew_; clear hg_ hnew_; ((first | rw [← Ny103.out] at ho21 | (simp only [Int.reduceToNat] at ho21; rw [← Ny103.out] at ho21))); (have n0_ := Aside0.mk (Kd.R_elder' Q36 (Kd.R_base ho21) hb)); (have n1_ := Aside0.mk (Kd.R_lower (Kd.R_new' (Kd.R_newM (M := fun k_ => (P0_ k_ ∨ w.heap.size ≤ k_)) ho21 Q44 (fun k_ h_ => .inr h_)) (Kd.R_lt Q36)) (below_size Q10))); (have n2_ := Aside0.mk (Kd.C_below Q45 hb)); (have n3_ := Aside0.mk (Kd.C_below Q46 hb)); (have n4_ := Aside0.mk (Kept.below (S := (fun k_ => P0_ k_)) Q33 hb)); (have n5_ := Aside0.mk (below_step Q10 hb)); clear HO_0 HR109 HR122 HK HB; (have HO_0 := n0_); (have HO105 := n1_); (have HR109 := n2_); (have HR122 := n3_); (have HK := n4_); (have HB := n5_); clear n0_ n1_ n2_ n3_ n4_ n5_ hb ho21; (refine hK.out _ _ trivial (fun hHeld => ?_)); clear hK K; (refine norm_ (a' := ?_) ?_ ?_); rotate_left; (· (show Act.put _ (some 33) _ = _); (simp only [Act.put, aS1, aS2, aS3, i64_w, i32_w]); rfl); (refine two_ (i := 4) (j := 6) (Ni := some 37) (Nj := some 39) (cb 13 1855) (cb 13 1903) rfl rfl rfl rfl (two_of HT_.out (by kernel_rfl)) (by decide) (by decide) (fun K hK => ?_) (fun K hK => ?_))
             ·skip
              (refine Kd.R_append_rows_step (Kd.int .i64) (w0 := w0) w0.heap.size (by rfl) (.tmp 33) (.tmp 36) 26 3 (.int .i64 0) 8 rfl Try.underlying26 info3 rfl (by decide) (by omega) v104 y103 y106 _ _ _ (fun k_ => (P0_ k_ ∨ w.heap.size ≤ k_) ∧ some k_ ≠ (.slice (some ad101) l0.length co16 : Value).ownBlock) (fun _ => False) rfl rfl ?aO ?aR (fun _ _ h => h) (fun _ h => h.elim) ?aF ?aB ?aS ?aL ?_); ((case aR => repeat (first | exact Q47 | (with_reducible first | refine cA ?_ _ | refine cN ?_ _ | refine cD ?_)))); ((case aB => exact Q48)); ((case aF => exact Q49)); ((case aO => exact (by (with_reducible repeat (first | apply rA | apply rN | apply rD)); exact Kd.R_mono HO105.out (fun _ hk => ⟨hk.1.1, hk.2⟩)))); ((case aS => exact Q50)); ((case aL => have := LMc11.out; omega)); intro v111 w22 ho hb hg hat; (rw [← Ny110.out] at ho); (have n0_ := Aside0.mk (Kd.R_after (ok := (fun k_ => (P0_ k_ ∨ w.heap.size ≤ k_))) Q36 hg hat)); (have n1_ := Aside0.mk (hb)); (have n2_ := Aside0.mk (Kept.of_grown (S := (fun k_ => P0_ k_)) hg Q33 (fun k_ e_ => (HO105.out.1 k_ e_).1.1))); (have n3_ := Aside0.mk ((show Kd.C (Kd.int .i64) w22 (some ad101) y106.length y106 from by rw [Ny106.out]; exact Kd.C_take (m := (x5_1 : Int).toNat) ((Kd.R_reads' (Kd.R_after (ok := (fun k_ => (P0_ k_ ∨ w.heap.size ≤ k_))) Q36 hg hat)).2.2) KL18.out))); (have n4_ := Aside0.mk ((show Kd.C (Kd.int .i64) w22 A19 y119.length y119 from by rw [Ny119.out, KA19.out]; exact Kd.C_drop (m := (x5_1 : Int).toNat) (c := co16) ((Kd.R_reads' (Kd.R_after (ok := (fun k_ => (P0_ k_ ∨ w.heap.size ≤ k_))) Q36 hg hat)).2.2) KL19.out ((Kd.R_reads' (Kd.R_after (ok := (fun k_ => (P0_ k_ ∨ w.heap.size ≤ k_))) Q36 hg hat)).2.1)))); (have n5_ := Aside0.mk (ho)); clear HO_0 HB HK HR109 HR122 HO105; (have HO_0 := n0_); (have HB := n1_); (have HK := n2_); (have HR109 := n3_); (have HR122 := n4_); (have HO112 := n5_); clear n0_ n1_ n2_ n3_ n4_ n5_ ho hb hg hat; (refine hK.out _ _ trivial (fun hHeld => ?_)); clear hK K; (refine norm_ (a' := ?_) ?_ ?_); rotate_left; (· (show Act.put _ (some 37) _ = _); (simp only [Act.put, aS1, aS2, aS3, i64_w, i32_w]); rfl); (refine one_ (i := 6) (N := some 39) (cb 13 1919) rfl rfl (one_of HT_.out (by kernel_rfl)) (by decide) (fun K hK => ?_)); (refine Kd.R_lit_step (Kd.int .i64) _ 3 ?hg (N := 39) ?hd (xs := ([a1] : List Int)) (inner := [.int .i64 a1]) (ok := fun _ => True) (okp := fun _ => True) ?hr ?hp (fun _ hk => hk) trivial (Below.refl _ _) (Nat.le_refl _) (by simp) ?_; (case hd => rfl); (case hg => rfl); (case hr => first | (go_simp; done) | (go_simp; rfl)); (case hp => exact Q51)); intro v114 w23 ho24 hb hg_ hnew_; clear hg_ hnew_; ((first | rw [← Ny113.out] at ho24 | (simp only [Int.reduceToNat] at ho24; rw [← Ny113.out] at ho24))); (have n0_ := Aside0.mk (Kd.R_elder' Q36 (Kd.R_base ho24) hb)); (have n1_ := Aside0.mk (Kd.R_elder' Q52 (Kd.R_base ho24) hb)); (have n2_ := Aside0.mk (Kd.R_lower (Kd.R_new' (Kd.R_new' (Kd.R_newM (M := fun k_ => (P0_ k_ ∨ w.heap.size ≤ k_)) ho24 Q44 (fun k_ h_ => .inr h_)) (Kd.R_lt Q36)) (Kd.R_lt Q52)) (below_size Q10))); (have n3_ := Aside0.mk (Kd.C_below Q45 hb)); (have n4_ := Aside0.mk (Kd.C_below Q46 hb))
              (have n5_ := Aside0.mk (Kept.below (S := (fun k_ => P0_ k_)) Q33 hb)); (have n6_ := Aside0.mk (below_step Q10 hb)); clear HO_0 HO112 HR109 HR122 HK HB; (have HO_0 := n0_); (have HO112 := n1_); (have HO115 := n2_); (have HR109 := n3_); (have HR122 := n4_); (have HK := n5_); (have HB := n6_); clear n0_ n1_ n2_ n3_ n4_ n5_ n6_ hb ho24; (refine hK.out _ _ trivial (fun hHeld => ?_)); clear hK K; (refine norm_ (a' := ?_) ?_ ?_); rotate_left; (· (show Act.put _ (some 39) _ = _); (simp only [Act.put, aS1, aS2, aS3, i64_w, i32_w]); rfl); (exact norm_ Q53 (hCont (v104, v111, v114) _ ⟨(by (with_reducible repeat (first | apply rA | apply rN | apply rD)); exact Kd.R_mono HO112.out (fun _ hk => ⟨hk.1.1, ⟨hk.2, hk.1.2⟩⟩)), (by (with_reducible repeat (first | apply rA | apply rN | apply rD)); exact Kd.R_mono HO115.out (fun _ hk => ⟨hk.1.1.1, ⟨hk.2, hk.1.2⟩⟩)), Q54, Q33, Q10⟩))
             ·skip
              (refine Kd.R_lit_step (Kd.int .i64) _ 3 ?hg (N := 39) ?hd (xs := ([a1] : List Int)) (inner := [.int .i64 a1]) (ok := fun _ => True) (okp := fun _ => True) ?hr ?hp (fun _ hk => hk) trivial (Below.refl _ _) (Nat.le_refl _) (by simp) ?_; (case hd => rfl); (case hg => rfl); (case hr => first | (go_simp; done) | (go_simp; rfl)); (case hp => exact Q51)); intro v114 w22 ho23 hb hg_ hnew_; clear hg_ hnew_; ((first | rw [← Ny113.out] at ho23 | (simp only [Int.reduceToNat] at ho23; rw [← Ny113.out] at ho23))); (have n0_ := Aside0.mk (Kd.R_elder' Q36 (Kd.R_base ho23) hb)); (have n1_ := Aside0.mk (Kd.R_elder' Q55 (Kd.R_base ho23) hb)); (have n2_ := Aside0.mk (Kd.R_lower (Kd.R_new' (Kd.R_new' (Kd.R_newM (M := fun k_ => (P0_ k_ ∨ w.heap.size ≤ k_)) ho23 Q44 (fun k_ h_ => .inr h_)) (Kd.R_lt Q36)) (Kd.R_lt Q55)) (below_size Q10))); (have n3_ := Aside0.mk (Kd.C_below Q45 hb)); (have n4_ := Aside0.mk (Kd.C_below Q46 hb)); (have n5_ := Aside0.mk (Kept.below (S := (fun k_ => P0_ k_)) Q33 hb)); (have n6_ := Aside0.mk (below_step Q10 hb)); clear HO_0 HO105 HR109 HR122 HK HB; (have HO_0 := n0_); (have HO105 := n1_); (have HO115 := n2_); (have HR109 := n3_); (have HR122 := n4_); (have HK := n5_); (have HB := n6_); clear n0_ n1_ n2_ n3_ n4_ n5_ n6_ hb ho23; (refine hK.out _ _ trivial (fun hHeld => ?_)); clear hK K; (refine norm_ (a' := ?_) ?_ ?_); rotate_left; (· (show Act.put _ (some 39) _ = _); (simp only [Act.put, aS1, aS2, aS3, i64_w, i32_w]); rfl); (refine one_ (i := 4) (N := some 37) (cb 13 1919) rfl rfl (one_of HT_.out (by kernel_rfl)) (by decide) (fun K hK => ?_)); (refine Kd.R_append_rows_step (Kd.int .i64) (w0 := w0) w0.heap.size (by rfl) (.tmp 33) (.tmp 36) 26 3 (.int .i64 0) 8 rfl Try.underlying26 info3 rfl (by decide) (by omega) v104 y103 y106 _ _ _ (fun k_ => (P0_ k_ ∨ w.heap.size ≤ k_) ∧ some k_ ≠ (.slice (some ad101) l0.length co16 : Value).ownBlock ∧ some k_ ≠ (v114 : Value).ownBlock) (fun _ => False) rfl rfl ?aO ?aR (fun _ _ h => h) (fun _ h => h.elim) ?aF ?aB ?aS ?aL ?_); ((case aR => repeat (first | exact Q47 | (with_reducible first | refine cA ?_ _ | refine cN ?_ _ | refine cD ?_)))); ((case aB => exact Q48)); ((case aF => exact Q56)); ((case aO => exact Q57)); ((case aS => exact Q50)); ((case aL => have := LMc11.out; omega)); intro v111 w24 ho hb hg hat; (rw [← Ny110.out] at ho); (have n0_ := Aside0.mk (Kd.R_after (ok := (fun k_ => (P0_ k_ ∨ w.heap.size ≤ k_) ∧ some k_ ≠ (v114 : Value).ownBlock)) Q58 hg hat)); (have n1_ := Aside0.mk (Kd.R_after (ok := (fun k_ => (P0_ k_ ∨ w.heap.size ≤ k_) ∧ some k_ ≠ (.slice (some ad101) l0.length co16 : Value).ownBlock)) Q59 hg hat)); (have n2_ := Aside0.mk (hb)); (have n3_ := Aside0.mk (Kept.of_grown (S := (fun k_ => P0_ k_)) hg Q33 (fun k_ e_ => (HO105.out.1 k_ e_).1.1.1)))
              (have n4_ := Aside0.mk ((show Kd.C (Kd.int .i64) w24 (some ad101) y106.length y106 from by rw [Ny106.out]; exact Kd.C_take (m := (x5_1 : Int).toNat) ((Kd.R_reads' (Kd.R_after (ok := (fun k_ => (P0_ k_ ∨ w.heap.size ≤ k_) ∧ some k_ ≠ (v114 : Value).ownBlock)) Q58 hg hat)).2.2) KL18.out))); (have n5_ := Aside0.mk ((show Kd.C (Kd.int .i64) w24 A19 y119.length y119 from by rw [Ny119.out, KA19.out]; exact Kd.C_drop (m := (x5_1 : Int).toNat) (c := co16) ((Kd.R_reads' (Kd.R_after (ok := (fun k_ => (P0_ k_ ∨ w.heap.size ≤ k_) ∧ some k_ ≠ (v114 : Value).ownBlock)) Q58 hg hat)).2.2) KL19.out ((Kd.R_reads' (Kd.R_after (ok := (fun k_ => (P0_ k_ ∨ w.heap.size ≤ k_) ∧ some k_ ≠ (v114 : Value).ownBlock)) Q58 hg hat)).2.1)))); (have n6_ := Aside0.mk (ho)); clear HO_0 HO115 HB HK HR109 HR122 HO105; (have HO_0 := n0_); (have HO115 := n1_); (have HB := n2_); (have HK := n3_); (have HR109 := n4_); (have HR122 := n5_); (have HO112 := n6_); clear n0_ n1_ n2_ n3_ n4_ n5_ n6_ ho hb hg hat; (refine hK.out _ _ trivial (fun hHeld => ?_)); clear hK K; (refine norm_ (a' := ?_) ?_ ?_); rotate_left; (· (show Act.put _ (some 37) _ = _); (simp only [Act.put, aS1, aS2, aS3, i64_w, i32_w]); rfl); (exact Q60)
            ·skip
             (refine Kd.R_lit_step (Kd.int .i64) _ 3 ?hg (N := 39) ?hd (xs := ([a1] : List Int)) (inner := [.int .i64 a1]) (ok := fun _ => True) (okp := fun _ => True) ?hr ?hp (fun _ hk => hk) trivial (Below.refl _ _) (Nat.le_refl _) (by simp) ?_; (case hd => rfl); (case hg => rfl); (case hr => first | (go_simp; done) | (go_simp; rfl)); (case hp => exact Q51)); intro v114 w20 ho21 hb hg_ hnew_; clear hg_ hnew_; ((first | rw [← Ny113.out] at ho21 | (simp only [Int.reduceToNat] at ho21; rw [← Ny113.out] at ho21))); (have n0_ := Aside0.mk (Kd.R_elder' Q36 (Kd.R_base ho21) hb)); (have n1_ := Aside0.mk (Kd.R_lower (Kd.R_new' (Kd.R_newM (M := fun k_ => (P0_ k_ ∨ w.heap.size ≤ k_)) ho21 Q44 (fun k_ h_ => .inr h_)) (Kd.R_lt Q36)) (below_size Q10))); (have n2_ := Aside0.mk (Kd.C_below Q45 hb)); (have n3_ := Aside0.mk (Kd.C_below Q46 hb)); (have n4_ := Aside0.mk (Kept.below (S := (fun k_ => P0_ k_)) Q33 hb)); (have n5_ := Aside0.mk (below_step Q10 hb)); clear HO_0 HR109 HR122 HK HB; (have HO_0 := n0_); (have HO115 := n1_); (have HR109 := n2_); (have HR122 := n3_); (have HK := n4_); (have HB := n5_); clear n0_ n1_ n2_ n3_ n4_ n5_ hb ho21; (refine hK.out _ _ trivial (fun hHeld => ?_)); clear hK K; (refine norm_ (a' := ?_) ?_ ?_); rotate_left; (· (show Act.put _ (some 39) _ = _); (simp only [Act.put, aS1, aS2, aS3, i64_w, i32_w]); rfl); (refine one_ (i := 0) (N := some 33) (cb 13 1903) rfl rfl (one_of HT_.out (by kernel_rfl)) (by decide) (fun K hK => ?_)); (refine Kd.R_lit_step (Kd.int .i64) _ 3 ?hg (N := 33) ?hd (xs := ([] : List Int)) (inner := []) (ok := fun _ => True) (okp := fun _ => True) ?hr ?hp (fun _ hk => hk) trivial (Below.refl _ _) (Nat.le_refl _) (by simp) ?_; (case hd => rfl); (case hg => rfl); (case hr => first | (go_simp; done) | (go_simp; rfl)); (case hp => exact Q43)); intro v104 w22 ho23 hb hg_ hnew_; clear hg_ hnew_; ((first | rw [← Ny103.out] at ho23 | (simp only [Int.reduceToNat] at ho23; rw [← Ny103.out] at ho23))); (have n0_ := Aside0.mk (Kd.R_elder' Q36 (Kd.R_base ho23) hb)); (have n1_ := Aside0.mk (Kd.R_elder' Q61 (Kd.R_base ho23) hb)); (have n2_ := Aside0.mk (Kd.R_lower (Kd.R_new' (Kd.R_new' (Kd.R_newM (M := fun k_ => (P0_ k_ ∨ w.heap.size ≤ k_)) ho23 Q44 (fun k_ h_ => .inr h_)) (Kd.R_lt Q36)) (Kd.R_lt Q61)) (below_size Q10))); (have n3_ := Aside0.mk (Kd.C_below Q45 hb)); (have n4_ := Aside0.mk (Kd.C_below Q46 hb)); (have n5_ := Aside0.mk (Kept.below (S := (fun k_ => P0_ k_)) Q33 hb)); (have n6_ := Aside0.mk (below_step Q10 hb)); clear HO_0 HO115 HR109 HR122 HK HB; (have HO_0 := n0_); (have HO115 := n1_); (have HO105 := n2_); (have HR109 := n3_); (have HR122 := n4_); (have HK := n5_); (have HB := n6_); clear n0_ n1_ n2_ n3_ n4_ n5_ n6_ hb ho23; (refine hK.out _ _ trivial (fun hHeld => ?_)); clear hK K; (refine norm_ (a' := ?_) ?_ ?_); rotate_left; (· (show Act.put _ (some 33) _ = _); (simp only [Act.put, aS1, aS2, aS3, i64_w, i32_w]); rfl); (refine one_ (i := 4) (N := some 37) (cb 13 1919) rfl rfl (one_of HT_.out (by kernel_rfl)) (by decide) (fun K hK => ?_))
             (refine Kd.R_append_rows_step (Kd.int .i64) (w0 := w0) w0.heap.size (by rfl) (.tmp 33) (.tmp 36) 26 3 (.int .i64 0) 8 rfl Try.underlying26 info3 rfl (by decide) (by omega) v104 y103 y106 _ _ _ (fun k_ => (P0_ k_ ∨ w.heap.size ≤ k_) ∧ some k_ ≠ (.slice (some ad101) l0.length co16 : Value).ownBlock ∧ some k_ ≠ (v114 : Value).ownBlock) (fun _ => False) rfl rfl ?aO ?aR (fun _ _ h => h) (fun _ h => h.elim) ?aF ?aB ?aS ?aL ?_); ((case aR => repeat (first | exact Q47 | (with_reducible first | refine cA ?_ _ | refine cN ?_ _ | refine cD ?_)))); ((case aB => exact Q48)); ((case aF => exact Q56)); ((case aO => exact Q57)); ((case aS => exact Q50)); ((case aL => have := LMc11.out; omega)); intro v111 w24 ho hb hg hat; (rw [← Ny110.out] at ho); (have n0_ := Aside0.mk (Kd.R_after (ok := (fun k_ => (P0_ k_ ∨ w.heap.size ≤ k_) ∧ some k_ ≠ (v114 : Value).ownBlock)) Q36 hg hat)); (have n1_ := Aside0.mk (Kd.R_after (ok := (fun k_ => (P0_ k_ ∨ w.heap.size ≤ k_) ∧ some k_ ≠ (.slice (some ad101) l0.length co16 : Value).ownBlock)) Q59 hg hat)); (have n2_ := Aside0.mk (hb)); (have n3_ := Aside0.mk (Kept.of_grown (S := (fun k_ => P0_ k_)) hg Q33 (fun k_ e_ => (HO105.out.1 k_ e_).1.1.1))); (have n4_ := Aside0.mk ((show Kd.C (Kd.int .i64) w24 (some ad101) y106.length y106 from by rw [Ny106.out]; exact Kd.C_take (m := (x5_1 : Int).toNat) ((Kd.R_reads' (Kd.R_after (ok := (fun k_ => (P0_ k_ ∨ w.heap.size ≤ k_) ∧ some k_ ≠ (v114 : Value).ownBlock)) Q36 hg hat)).2.2) KL18.out))); (have n5_ := Aside0.mk ((show Kd.C (Kd.int .i64) w24 A19 y119.length y119 from by rw [Ny119.out, KA19.out]; exact Kd.C_drop (m := (x5_1 : Int).toNat) (c := co16) ((Kd.R_reads' (Kd.R_after (ok := (fun k_ => (P0_ k_ ∨ w.heap.size ≤ k_) ∧ some k_ ≠ (v114 : Value).ownBlock)) Q36 hg hat)).2.2) KL19.out ((Kd.R_reads' (Kd.R_after (ok := (fun k_ => (P0_ k_ ∨ w.heap.size ≤ k_) ∧ some k_ ≠ (v114 : Value).ownBlock)) Q36 hg hat)).2.1)))); (have n6_ := Aside0.mk (ho)); clear HO_0 HO115 HB HK HR109 HR122 HO105; (have HO_0 := n0_); (have HO115 := n1_); (have HB := n2_); (have HK := n3_); (have HR109 := n4_); (have HR122 := n5_); (have HO112 := n6_); clear n0_ n1_ n2_ n3_ n4_ n5_ n6_ ho hb hg hat; (refine hK.out _ _ trivial (fun hHeld => ?_)); clear hK K; (refine norm_ (a' := ?_) ?_ ?_); rotate_left; (· (show Act.put _ (some 37) _ = _); (simp only [Act.put, aS1, aS2, aS3, i64_w, i32_w]); rfl); (exact Q60)
           (rintro ⟨v104, v111, v114⟩ w25 ⟨h0_, h1_, h2_, h3_, h4_⟩); (have n0_ : Aside0 (Kd.R (Kd.int .i64) 3 w25 w0.heap.size (fun k_ => (P0_ k_ ∨ w.heap.size ≤ k_) ∧ some k_ ≠ (v114 : Value).ownBlock ∧ some k_ ≠ (.slice (some ad101) l0.length co16 : Value).ownBlock) v111 y110) := ⟨h0_⟩); (have n1_ : Aside0 (Kd.R (Kd.int .i64) 3 w25 w0.heap.size (fun k_ => (P0_ k_ ∨ w.heap.size ≤ k_) ∧ some k_ ≠ (v111 : Value).ownBlock ∧ some k_ ≠ (.slice (some ad101) l0.length co16 : Value).ownBlock) v114 y113) := ⟨h1_⟩); (have n2_ : Aside0 (Kd.R (Kd.int .i64) 3 w25 w0.heap.size (fun k_ => (P0_ k_ ∨ w.heap.size ≤ k_) ∧ some k_ ≠ (v111 : Value).ownBlock ∧ some k_ ≠ (v114 : Value).ownBlock) (.slice (some ad101) l0.length co16) l0) := ⟨h2_⟩); (have n3_ : Aside0 (Kept w w25 (fun k_ => P0_ k_)) := ⟨h3_⟩); (have n4_ : Aside0 (Below w0.heap.size w0 w25) := ⟨h4_⟩); clear HO_0 HK HB h0_ h1_ h2_ h3_ h4_; (have HO112 := n0_); (have HO115 := n1_); (have HO_0 := n2_); (have HK := n3_); (have HB := n4_); clear n0_ n1_ n2_ n3_ n4_; (have hHeld := trivial); (obtain ⟨Ao27, co27, eo27⟩ := Kd.R_slice HO115.out); ((first | subst eo27 | (injection eo27 with f1_ f2_ f3_; have f4_ := f1_.symm; have f5_ := f3_.symm; clear f1_ f2_ f3_; subst f4_; subst f5_))); (refine norm_ (a' := ?_) ?_ ?_); rotate_left; (· (simp only [putAll, Act.put, aS1, aS2, aS3]); rfl); (refine one_ (i := 7) (N := some 40) (cn 13 11) rfl rfl (one_of HT_.out (by kernel_rfl)) (by decide) (fun K hK => ?_)); (refine Kd.R_append_rows_step (Kd.int .i64) (w0 := w0) w0.heap.size (by rfl) (.tmp 37) (.tmp 39) 26 3 (.int .i64 0) 8 rfl Try.underlying26 info3 rfl (by decide) (by omega) v111 y110 y113 _ _ _ (fun k_ => (P0_ k_ ∨ w.heap.size ≤ k_) ∧ some k_ ≠ (.slice (some ad101) l0.length co16 : Value).ownBlock ∧ some k_ ≠ (.slice Ao27 y113.length co27 : Value).ownBlock) (fun _ => False) rfl rfl ?aO ?aR (fun _ _ h => h) (fun _ h => h.elim) ?aF ?aB ?aS ?aL ?_); ((case aR => repeat (first | exact (Kd.R_reads' HO115.out).2.2 | (with_reducible first | refine cA ?_ _ | refine cN ?_ _ | refine cD ?_)))); ((case aB => exact Q48)); ((case aF => exact Q56)); ((case aO => exact Q62)); ((case aS => exact Q50)); ((case aL => have := LMc12.out; omega)); intro v117 w26 ho hb hg hat; (rw [← Ny116.out] at ho); (have n0_ := Aside0.mk (Kd.R_after (ok := (fun k_ => (P0_ k_ ∨ w.heap.size ≤ k_) ∧ some k_ ≠ (.slice Ao27 y113.length co27 : Value).ownBlock)) Q63 hg hat)); (have n1_ := Aside0.mk (Kd.R_after (ok := (fun k_ => (P0_ k_ ∨ w.heap.size ≤ k_) ∧ some k_ ≠ (.slice (some ad101) l0.length co16 : Value).ownBlock)) (by (with_reducible repeat (first | apply rA | apply rN | apply rD)); exact Kd.R_mono HO115.out (fun _ hk => ⟨⟨hk.1, hk.2.2⟩, hk.2.1⟩)) hg hat)); (have n2_ := Aside0.mk (hb)); (have n3_ := Aside0.mk (Kept.of_grown (S := (fun k_ => P0_ k_)) hg Q33 (fun k_ e_ => (HO112.out.1 k_ e_).1))); (have n4_ := Aside0.mk (ho)); clear HO_0 HO115 HB HK HO112; (have HO_0 := n0_); (have HO115 := n1_); (have HB := n2_); (have HK := n3_); (have HO118 := n4_); clear n0_ n1_ n2_ n3_ n4_ ho hb hg hat; (refine hK.out _ _ trivial (fun hHeld => ?_)); clear hK K; (refine norm_ (a' := ?_) ?_ ?_); rotate_left; (· (show Act.put _ (some 40) _ = _); (simp only [Act.put, aS1, aS2, aS3, i64_w, i32_w]); rfl); (refine one_ (i := 11) (N := some 44) (cn 13 12) rfl rfl (one_of HT_.out (by kernel_rfl)) (by decide) (fun K hK => ?_)); (refine Kd.R_append_rows_step (Kd.int .i64) (w0 := w0) w0.heap.size (by rfl) (.tmp 40) (.tmp 43) 26 3 (.int .i64 0) 8 rfl Try.underlying26 info3 rfl (by decide) (by omega) v117 y116 y119 _ _ _ (fun k_ => (P0_ k_ ∨ w.heap.size ≤ k_) ∧ some k_ ≠ (.slice (some ad101) l0.length co16 : Value).ownBlock ∧ some k_ ≠ (.slice Ao27 y113.length co27 : Value).ownBlock) (fun _ => False) rfl rfl ?aO ?aR (fun _ _ h => h) (fun _ h => h.elim) ?aF ?aB ?aS ?aL ?_); ((case aR => (have hc_ := Kd.R_reads' HO_0.out; rw [Ny119.out, KA19.out]; repeat (first | exact Kd.C_drop (m := (x5_1 : Int).toNat) (c := co16) hc_.2.2 KL19.out hc_.2.1 | (with_reducible first | refine cA ?_ _ | refine cN ?_ _ | refine cD ?_))))); ((case aB => exact Q48))
           ((case aF => exact Q56)); ((case aO => exact (by (with_reducible repeat (first | apply rA | apply rN | apply rD)); exact HO118.out))); ((case aS => exact Q50)); ((case aL => have := LMc15.out; omega)); intro v124 w28 ho hb hg hat; (rw [← Ny123.out] at ho); (have n0_ := Aside0.mk (Kd.R_after (ok := (fun k_ => (P0_ k_ ∨ w.heap.size ≤ k_) ∧ some k_ ≠ (.slice Ao27 y113.length co27 : Value).ownBlock)) Q36 hg hat)); (have n1_ := Aside0.mk (Kd.R_after (ok := (fun k_ => (P0_ k_ ∨ w.heap.size ≤ k_) ∧ some k_ ≠ (.slice (some ad101) l0.length co16 : Value).ownBlock)) Q61 hg hat)); (have n2_ := Aside0.mk (hb)); (have n3_ := Aside0.mk (Kept.of_grown (S := (fun k_ => P0_ k_)) hg Q33 (fun k_ e_ => (HO118.out.1 k_ e_).1))); (have n4_ := Aside0.mk (ho)); clear HO_0 HO115 HB HK HO118; (have HO_0 := n0_); (have HO115 := n1_); (have HB := n2_); (have HK := n3_); (have HO125 := n4_); clear n0_ n1_ n2_ n3_ n4_ ho hb hg hat; (refine hK.out _ _ trivial (fun hHeld => ?_)); clear hK K; (refine norm_ (a' := ?_) ?_ ?_); rotate_left; (· (show Act.put _ (some 44) _ = _); (simp only [Act.put, aS1, aS2, aS3, i64_w, i32_w]); rfl); (refine pB 12 (cn 13 13) (some 4) HT_ (h := ?_)); (refine done_ (done_of HT_.out (by kernel_rfl)) ?_); (try go_wp2); go_ret; (exact ⟨_, Q1, by (with_reducible repeat (first | apply rA | apply rN | apply rD)); exact Kd.R_mono HO125.out (fun _ hk => hk.1), Q10, Q33⟩)
          ·rw [if_neg c15] at H
           exact Q8
         ·rw [if_neg c12] at H
          exact Q8
        ·rw [if_neg c11] at H
         exact Q8
       ·rw [if_neg c10] at H
        exact Q8
    ·rw [if_neg c4] at H
     exact Q8
   ·rw [if_neg c3] at H
    (have c3b0 : decide (x5_1 < (l0.length : Int)) = false := decide_eq_false c3); clear c3; (obtain ⟨y126, hy126⟩ : ∃ y_ : List Int, y_ = (([] : List Int)) := ⟨_, rfl⟩); (replace H : (if 0 ≤ x5_1 then (if x5_1 ≤ (l0.length : Int) then ((some (l0.take (x5_1 : Int).toNat : List Int)).bind fun y129 => (if y126.length + y129.length < 17592186044416 then ((some (y126 ++ y129 : List Int)).bind fun y133 => ((some (([a1] : List Int) : List Int)).bind fun y136 => (if y133.length + y136.length < 17592186044416 then ((some (y133 ++ y136 : List Int)).bind fun y139 => ((some (l0.drop (x5_1 : Int).toNat : List Int)).bind fun y142 => (if y139.length + y142.length < 17592186044416 then (some (y139 ++ y142)) else (none)))) else (none)))) else (none))) else (none)) else (none)) = some r := by first | (rw [hy126]; with_reducible exact H) | (have H2_ := (Option.bind_some _ _).symm.trans H; rw [hy126]; with_reducible exact H2_) | (have H2_ := (Option.bind_some _ _).symm.trans H; with_reducible exact H2_) | with_reducible exact H | (rw [hy126]; exact H) | exact H); (have Ny126 := Aside0.mk hy126); clear hy126; (by_cases c29 : 0 ≤ x5_1)
    ·rw [if_pos c29] at H
     (have c29b0 := eq_true c29); (have c29b1 : decide (0 ≤ x5_1) = true := decide_eq_true c29); clear c29; (by_cases c30 : x5_1 ≤ (l0.length : Int))
     ·rw [if_pos c30] at H
      (have c30b0 := eq_true c30); (have c30b1 : decide (x5_1 ≤ (l0.length : Int)) = true := decide_eq_true c30); clear c30; (obtain ⟨y129, hy129⟩ : ∃ y_ : List Int, y_ = (l0.take (x5_1 : Int).toNat) := ⟨_, rfl⟩); (replace H : (if y126.length + y129.length < 17592186044416 then ((some (y126 ++ y129 : List Int)).bind fun y133 => ((some (([a1] : List Int) : List Int)).bind fun y136 => (if y133.length + y136.length < 17592186044416 then ((some (y133 ++ y136 : List Int)).bind fun y139 => ((some (l0.drop (x5_1 : Int).toNat : List Int)).bind fun y142 => (if y139.length + y142.length < 17592186044416 then (some (y139 ++ y142)) else (none)))) else (none)))) else (none)) = some r := Q64); (have Ny129 := Aside0.mk hy129); clear hy129; (by_cases c31 : y126.length + y129.length < 17592186044416)
      ·rw [if_pos c31] at H
       (have LMc31 := Aside0.mk c31); clear c31; (obtain ⟨y133, hy133⟩ : ∃ y_ : List Int, y_ = (y126 ++ y129) := ⟨_, rfl⟩); (replace H : ((some (([a1] : List Int) : List Int)).bind fun y136 => (if y133.length + y136.length < 17592186044416 then ((some (y133 ++ y136 : List Int)).bind fun y139 => ((some (l0.drop (x5_1 : Int).toNat : List Int)).bind fun y142 => (if y139.length + y142.length < 17592186044416 then (some (y139 ++ y142)) else (none)))) else (none))) = some r := Q65); (have Ny133 := Aside0.mk hy133); clear hy133; (obtain ⟨y136, hy136⟩ : ∃ y_ : List Int, y_ = (([a1] : List Int)) := ⟨_, rfl⟩); (replace H : (if y133.length + y136.length < 17592186044416 then ((some (y133 ++ y136 : List Int)).bind fun y139 => ((some (l0.drop (x5_1 : Int).toNat : List Int)).bind fun y142 => (if y139.length + y142.length < 17592186044416 then (some (y139 ++ y142)) else (none)))) else (none)) = some r := by first | (rw [hy136]; with_reducible exact H) | (have H2_ := (Option.bind_some _ _).symm.trans H; rw [hy136]; with_reducible exact H2_) | (have H2_ := (Option.bind_some _ _).symm.trans H; with_reducible exact H2_) | with_reducible exact H | (rw [hy136]; exact H) | exact H); (have Ny136 := Aside0.mk hy136); clear hy136; (by_cases c32 : y133.length + y136.length < 17592186044416)
       ·rw [if_pos c32] at H
        (have LMc32 := Aside0.mk c32); clear c32; (obtain ⟨y139, hy139⟩ : ∃ y_ : List Int, y_ = (y133 ++ y136) := ⟨_, rfl⟩); (replace H : ((some (l0.drop (x5_1 : Int).toNat : List Int)).bind fun y142 => (if y139.length + y142.length < 17592186044416 then (some (y139 ++ y142)) else (none))) = some r := by first | (rw [hy139]; with_reducible exact H) | (have H2_ := (Option.bind_some _ _).symm.trans H; rw [hy139]; with_reducible exact H2_) | (have H2_ := (Option.bind_some _ _).symm.trans H; with_reducible exact H2_) | with_reducible exact H | (rw [hy139]; exact H) | exact H); (have Ny139 := Aside0.mk hy139); clear hy139; (have c33b0 := eq_true (of_decide_eq_true Q35 : 0 ≤ x5_1)); (have c34b0 := eq_true (of_decide_eq_true Q35 : x5_1 ≤ (l0.length : Int))); (obtain ⟨y142, hy142⟩ : ∃ y_ : List Int, y_ = (l0.drop (x5_1 : Int).toNat) := ⟨_, rfl⟩); (replace H : (if y139.length + y142.length < 17592186044416 then (some (y139 ++ y142)) else (none)) = some r := by first | (rw [hy142]; with_reducible exact H) | (have H2_ := (Option.bind_some _ _).symm.trans H; rw [hy142]; with_reducible exact H2_) | (have H2_ := (Option.bind_some _ _).symm.trans H; with_reducible exact H2_) | with_reducible exact H | (rw [hy142]; exact H) | exact H); (have Ny142 := Aside0.mk hy142); clear hy142; (by_cases c35 : y139.length + y142.length < 17592186044416)
        ·rw [if_pos c35] at H
         (have LMc35 := Aside0.mk c35); clear c35; (obtain ⟨y146, hy146⟩ : ∃ y_ : List Int, y_ = (y139 ++ y142) := ⟨_, rfl⟩); (replace H : (some y146) = some r := by first | (rw [hy146]; with_reducible exact H) | (have H2_ := (Option.bind_some _ _).symm.trans H; rw [hy146]; with_reducible exact H2_) | (have H2_ := (Option.bind_some _ _).symm.trans H; with_reducible exact H2_) | with_reducible exact H | (rw [hy146]; exact H) | exact H); (have Ny146 := Aside0.mk hy146); clear hy146; (obtain rfl := Option.some.inj H); (obtain ⟨Ao36, co36, eo36⟩ := Kd.R_slice HO_0.out); subst eo36; (try go_wp2); (have n0_ := Aside0.mk (Kd.R_drew HO_0.out)); (have n1_ := Aside0.mk (Kept.drew HK.out)); (have n2_ := Aside0.mk (below_drew1 HB.out)); clear HO_0 HK HB; (have HO_0 := n0_); (have HK := n1_); (have HB := n2_); clear n0_ n1_ n2_; (have q38 : (x5_1 : Int) ≤ ((l0.length : Int) : Int) := of_decide_eq_true Q35); (obtain ⟨i038, hi038, _, hsz38, _⟩ := info_parts info3); (have hroom38 : l0.length ≤ co36 := (Kd.R_reads' HO_0.out).2.1); (have hC38 : Kd.C (Kd.int .i64) _ Ao36 l0.length l0 := (Kd.R_reads' HO_0.out).2.2); (have hcut38 := cut_to (P := Try.prog) 26 3 .i64 Try.underlying26 hi038 Ao36 l0.length co36 x5_1 (of_decide_eq_true Q35) q38 hroom38); (have hr38 := Kd.C_take (m := (x5_1 : Int).toNat) hC38 (by omega)); (have hy38 : y129.length = (x5_1 : Int).toNat := (by rw [Ny129.out, List.length_take]; omega)); (rw [← Ny129.out] at hr38); (rw [← hy38] at hcut38); (have HR132 := Aside0.mk hr38); (have HC132 := Aside0.mk (show y129.length ≤ co36 from by omega)); clear hr38 hC38 hroom38 hi038 hsz38; (have KY38 := Aside0.mk hy38); clear hy38; (have KL38 := Aside0.mk (show (x5_1 : Int).toNat ≤ l0.length from by omega)); (replace q38 := eq_true q38); (have q39 : (x5_1 : Int) ≤ ((l0.length : Int) : Int) := of_decide_eq_true Q35); (obtain ⟨i039, hi039, _, hsz39, _⟩ := info_parts info3); (have hroom39 : l0.length ≤ co36 := (Kd.R_reads' HO_0.out).2.1); (have hC39 : Kd.C (Kd.int .i64) _ Ao36 l0.length l0 := (Kd.R_reads' HO_0.out).2.2); (have q039 : (0 : Int) ≤ (x5_1 : Int) := of_decide_eq_true Q35); (have hcut39 := cut_from (P := Try.prog) 26 3 .i64 Try.underlying26 hi039 1 hsz39 Ao36 l0.length co36 x5_1 q039 q39); (have hr39 := Kd.C_drop (m := (x5_1 : Int).toNat) (c := co36) hC39 (by omega) hroom39); (obtain ⟨A39, hA39⟩ : ∃ A1, A1 = (if co36 = (x5_1 : Int).toNat then Ao36 else (Ao36 : Option Addr).map (·.add ((x5_1 : Int).toNat * 1))) := ⟨_, rfl⟩); (obtain ⟨c39, hc39⟩ : ∃ c1, c1 = co36 - (x5_1 : Int).toNat := ⟨_, rfl⟩); (have hy39 : y142.length = l0.length - (x5_1 : Int).toNat := (by rw [Ny142.out, List.length_drop] <;> omega)); (rw [show (l0).drop (x5_1 : Int).toNat = y142 from Ny142.out.symm] at hr39); (replace hr39 : Kd.C (Kd.int .i64) _ A39 y142.length y142 := (by rw [hA39]; exact hr39)); (rw [← hy39, ← hA39, ← hc39] at hcut39); (have HR145 := Aside0.mk hr39); (have HC145 := Aside0.mk (show y142.length ≤ c39 from by rw [hy39, hc39]; exact Nat.sub_le_sub_right hroom39 _)); clear hr39 hC39 hroom39 hi039 hsz39 hc39; (have KY39 := Aside0.mk hy39); (have KA39 := Aside0.mk hA39); clear hy39 hA39; (have KL39 := Aside0.mk (show (x5_1 : Int).toNat ≤ l0.length from by omega)); (replace q39 := eq_true q39); (refine start_ (n := 13) (S := fun w' => True) (ds := []) (cn 13 0) (by kernel_rfl) rfl (by kernel_rfl) trivial (fun hHeld => ?_); refine with_tabW spec_l1Put.tab6 spec_l1Put.bits6 (fun HT_ HW_ => ?_)); (generalize wr.drew = w37 at HO_0 HK HB HR132 HR145 hHeld ⊢); (refine pB 1 (cb 13 2) (some 34) HT_ (h := ?_)); (refine pB 2 (cb 13 6) (some 35) HT_ (h := ?_)); (refine pB 3 (cb 13 14) (some 36) HT_ (h := ?_)); (refine pB 5 (cb 13 46) (some 38) HT_ (h := ?_)); (refine pB 8 (cb 13 302) (some 41) HT_ (h := ?_)); (refine pB 9 (cb 13 814) (some 42) HT_ (h := ?_)); (refine pB 10 (cb 13 1838) (some 43) HT_ (h := ?_))
         (refine join_ (σ := Value × Value × Value) 3 (cb 13 1919) (fun s_ => [(33, s_.1), (37, s_.2.1), (39, s_.2.2)]) (fun s_ w' => (Kd.R (Kd.int .i64) 3 w' w0.heap.size (fun k_ => (P0_ k_ ∨ w.heap.size ≤ k_) ∧ some k_ ≠ (s_.2.2 : Value).ownBlock ∧ some k_ ≠ (.slice Ao36 l0.length co36 : Value).ownBlock) s_.2.1 y133) ∧ (Kd.R (Kd.int .i64) 3 w' w0.heap.size (fun k_ => (P0_ k_ ∨ w.heap.size ≤ k_) ∧ some k_ ≠ (s_.2.1 : Value).ownBlock ∧ some k_ ≠ (.slice Ao36 l0.length co36 : Value).ownBlock) s_.2.2 y136) ∧ (Kd.R (Kd.int .i64) 3 w' w0.heap.size (fun k_ => (P0_ k_ ∨ w.heap.size ≤ k_) ∧ some k_ ≠ (s_.2.1 : Value).ownBlock ∧ some k_ ≠ (s_.2.2 : Value).ownBlock) (.slice Ao36 l0.length co36) l0) ∧ (Kept w w' (fun k_ => P0_ k_)) ∧ (Below w0.heap.size w0 w')) ?_ ?_); rotate_left
         ·intro hCont
          refine two_ (i := 0) (j := 6) (Ni := some 33) (Nj := some 39) (cb 13 1839) (cb 13 1902) rfl rfl rfl rfl (two_of HT_.out (by kernel_rfl)) (by decide) (by decide) (fun K hK => ?_) (fun K hK => ?_)
          ·skip
           (refine Kd.R_lit_step (Kd.int .i64) _ 3 ?hg (N := 33) ?hd (xs := ([] : List Int)) (inner := []) (ok := fun _ => True) (okp := fun _ => True) ?hr ?hp (fun _ hk => hk) trivial (Below.refl _ _) (Nat.le_refl _) (by simp) ?_; (case hd => rfl); (case hg => rfl); (case hr => first | (go_simp; done) | (go_simp; rfl)); (case hp => exact Q43)); intro v127 w40 ho41 hb hg_ hnew_; clear hg_ hnew_; ((first | rw [← Ny126.out] at ho41 | (simp only [Int.reduceToNat] at ho41; rw [← Ny126.out] at ho41))); (have n0_ := Aside0.mk (Kd.R_elder' Q36 (Kd.R_base ho41) hb)); (have n1_ := Aside0.mk (Kd.R_lower (Kd.R_new' (Kd.R_newM (M := fun k_ => (P0_ k_ ∨ w.heap.size ≤ k_)) ho41 Q44 (fun k_ h_ => .inr h_)) (Kd.R_lt Q36)) (below_size Q10))); (have n2_ := Aside0.mk (Kd.C_below Q66 hb)); (have n3_ := Aside0.mk (Kd.C_below Q67 hb)); (have n4_ := Aside0.mk (Kept.below (S := (fun k_ => P0_ k_)) Q33 hb)); (have n5_ := Aside0.mk (below_step Q10 hb)); clear HO_0 HR132 HR145 HK HB; (have HO_0 := n0_); (have HO128 := n1_); (have HR132 := n2_); (have HR145 := n3_); (have HK := n4_); (have HB := n5_); clear n0_ n1_ n2_ n3_ n4_ n5_ hb ho41; (refine hK.out _ _ trivial (fun hHeld => ?_)); clear hK K; (refine norm_ (a' := ?_) ?_ ?_); rotate_left; (· (show Act.put _ (some 33) _ = _); (simp only [Act.put, aS1, aS2, aS3, i64_w, i32_w]); rfl); (refine two_ (i := 4) (j := 6) (Ni := some 37) (Nj := some 39) (cb 13 1855) (cb 13 1903) rfl rfl rfl rfl (two_of HT_.out (by kernel_rfl)) (by decide) (by decide) (fun K hK => ?_) (fun K hK => ?_))
           ·skip
            (refine Kd.R_append_rows_step (Kd.int .i64) (w0 := w0) w0.heap.size (by rfl) (.tmp 33) (.tmp 36) 26 3 (.int .i64 0) 8 rfl Try.underlying26 info3 rfl (by decide) (by omega) v127 y126 y129 _ _ _ (fun k_ => (P0_ k_ ∨ w.heap.size ≤ k_) ∧ some k_ ≠ (.slice Ao36 l0.length co36 : Value).ownBlock) (fun _ => False) rfl rfl ?aO ?aR (fun _ _ h => h) (fun _ h => h.elim) ?aF ?aB ?aS ?aL ?_); ((case aR => repeat (first | exact Q68 | (with_reducible first | refine cA ?_ _ | refine cN ?_ _ | refine cD ?_)))); ((case aB => exact Q48)); ((case aF => exact Q49)); ((case aO => exact (by (with_reducible repeat (first | apply rA | apply rN | apply rD)); exact Kd.R_mono HO128.out (fun _ hk => ⟨hk.1.1, hk.2⟩)))); ((case aS => exact Q50)); ((case aL => have := LMc31.out; omega)); intro v134 w42 ho hb hg hat; (rw [← Ny133.out] at ho); (have n0_ := Aside0.mk (Kd.R_after (ok := (fun k_ => (P0_ k_ ∨ w.heap.size ≤ k_))) Q36 hg hat)); (have n1_ := Aside0.mk (hb)); (have n2_ := Aside0.mk (Kept.of_grown (S := (fun k_ => P0_ k_)) hg Q33 (fun k_ e_ => (HO128.out.1 k_ e_).1.1))); (have n3_ := Aside0.mk ((show Kd.C (Kd.int .i64) w42 Ao36 y129.length y129 from by rw [Ny129.out]; exact Kd.C_take (m := (x5_1 : Int).toNat) ((Kd.R_reads' (Kd.R_after (ok := (fun k_ => (P0_ k_ ∨ w.heap.size ≤ k_))) Q36 hg hat)).2.2) KL38.out))); (have n4_ := Aside0.mk ((show Kd.C (Kd.int .i64) w42 A39 y142.length y142 from by rw [Ny142.out, KA39.out]; exact Kd.C_drop (m := (x5_1 : Int).toNat) (c := co36) ((Kd.R_reads' (Kd.R_after (ok := (fun k_ => (P0_ k_ ∨ w.heap.size ≤ k_))) Q36 hg hat)).2.2) KL39.out ((Kd.R_reads' (Kd.R_after (ok := (fun k_ => (P0_ k_ ∨ w.heap.size ≤ k_))) Q36 hg hat)).2.1)))); (have n5_ := Aside0.mk (ho)); clear HO_0 HB HK HR132 HR145 HO128; (have HO_0 := n0_); (have HB := n1_); (have HK := n2_); (have HR132 := n3_); (have HR145 := n4_); (have HO135 := n5_); clear n0_ n1_ n2_ n3_ n4_ n5_ ho hb hg hat; (refine hK.out _ _ trivial (fun hHeld => ?_)); clear hK K; (refine norm_ (a' := ?_) ?_ ?_); rotate_left; (· (show Act.put _ (some 37) _ = _); (simp only [Act.put, aS1, aS2, aS3, i64_w, i32_w]); rfl); (refine one_ (i := 6) (N := some 39) (cb 13 1919) rfl rfl (one_of HT_.out (by kernel_rfl)) (by decide) (fun K hK => ?_)); (refine Kd.R_lit_step (Kd.int .i64) _ 3 ?hg (N := 39) ?hd (xs := ([a1] : List Int)) (inner := [.int .i64 a1]) (ok := fun _ => True) (okp := fun _ => True) ?hr ?hp (fun _ hk => hk) trivial (Below.refl _ _) (Nat.le_refl _) (by simp) ?_; (case hd => rfl); (case hg => rfl); (case hr => first | (go_simp; done) | (go_simp; rfl)); (case hp => exact Q51)); intro v137 w43 ho44 hb hg_ hnew_; clear hg_ hnew_; ((first | rw [← Ny136.out] at ho44 | (simp only [Int.reduceToNat] at ho44; rw [← Ny136.out] at ho44))); (have n0_ := Aside0.mk (Kd.R_elder' Q36 (Kd.R_base ho44) hb)); (have n1_ := Aside0.mk (Kd.R_elder' Q69 (Kd.R_base ho44) hb)); (have n2_ := Aside0.mk (Kd.R_lower (Kd.R_new' (Kd.R_new' (Kd.R_newM (M := fun k_ => (P0_ k_ ∨ w.heap.size ≤ k_)) ho44 Q44 (fun k_ h_ => .inr h_)) (Kd.R_lt Q36)) (Kd.R_lt Q69)) (below_size Q10))); (have n3_ := Aside0.mk (Kd.C_below Q66 hb)); (have n4_ := Aside0.mk (Kd.C_below Q67 hb))
            (have n5_ := Aside0.mk (Kept.below (S := (fun k_ => P0_ k_)) Q33 hb)); (have n6_ := Aside0.mk (below_step Q10 hb)); clear HO_0 HO135 HR132 HR145 HK HB; (have HO_0 := n0_); (have HO135 := n1_); (have HO138 := n2_); (have HR132 := n3_); (have HR145 := n4_); (have HK := n5_); (have HB := n6_); clear n0_ n1_ n2_ n3_ n4_ n5_ n6_ hb ho44; (refine hK.out _ _ trivial (fun hHeld => ?_)); clear hK K; (refine norm_ (a' := ?_) ?_ ?_); rotate_left; (· (show Act.put _ (some 39) _ = _); (simp only [Act.put, aS1, aS2, aS3, i64_w, i32_w]); rfl); (exact norm_ Q53 (hCont (v127, v134, v137) _ ⟨(by (with_reducible repeat (first | apply rA | apply rN | apply rD)); exact Kd.R_mono HO135.out (fun _ hk => ⟨hk.1.1, ⟨hk.2, hk.1.2⟩⟩)), (by (with_reducible repeat (first | apply rA | apply rN | apply rD)); exact Kd.R_mono HO138.out (fun _ hk => ⟨hk.1.1.1, ⟨hk.2, hk.1.2⟩⟩)), Q54, Q33, Q10⟩))
           ·skip
            (refine Kd.R_lit_step (Kd.int .i64) _ 3 ?hg (N := 39) ?hd (xs := ([a1] : List Int)) (inner := [.int .i64 a1]) (ok := fun _ => True) (okp := fun _ => True) ?hr ?hp (fun _ hk => hk) trivial (Below.refl _ _) (Nat.le_refl _) (by simp) ?_; (case hd => rfl); (case hg => rfl); (case hr => first | (go_simp; done) | (go_simp; rfl)); (case hp => exact Q51)); intro v137 w42 ho43 hb hg_ hnew_; clear hg_ hnew_; ((first | rw [← Ny136.out] at ho43 | (simp only [Int.reduceToNat] at ho43; rw [← Ny136.out] at ho43))); (have n0_ := Aside0.mk (Kd.R_elder' Q36 (Kd.R_base ho43) hb)); (have n1_ := Aside0.mk (Kd.R_elder' Q70 (Kd.R_base ho43) hb)); (have n2_ := Aside0.mk (Kd.R_lower (Kd.R_new' (Kd.R_new' (Kd.R_newM (M := fun k_ => (P0_ k_ ∨ w.heap.size ≤ k_)) ho43 Q44 (fun k_ h_ => .inr h_)) (Kd.R_lt Q36)) (Kd.R_lt Q70)) (below_size Q10))); (have n3_ := Aside0.mk (Kd.C_below Q66 hb)); (have n4_ := Aside0.mk (Kd.C_below Q67 hb)); (have n5_ := Aside0.mk (Kept.below (S := (fun k_ => P0_ k_)) Q33 hb)); (have n6_ := Aside0.mk (below_step Q10 hb)); clear HO_0 HO128 HR132 HR145 HK HB; (have HO_0 := n0_); (have HO128 := n1_); (have HO138 := n2_); (have HR132 := n3_); (have HR145 := n4_); (have HK := n5_); (have HB := n6_); clear n0_ n1_ n2_ n3_ n4_ n5_ n6_ hb ho43; (refine hK.out _ _ trivial (fun hHeld => ?_)); clear hK K; (refine norm_ (a' := ?_) ?_ ?_); rotate_left; (· (show Act.put _ (some 39) _ = _); (simp only [Act.put, aS1, aS2, aS3, i64_w, i32_w]); rfl); (refine one_ (i := 4) (N := some 37) (cb 13 1919) rfl rfl (one_of HT_.out (by kernel_rfl)) (by decide) (fun K hK => ?_)); (refine Kd.R_append_rows_step (Kd.int .i64) (w0 := w0) w0.heap.size (by rfl) (.tmp 33) (.tmp 36) 26 3 (.int .i64 0) 8 rfl Try.underlying26 info3 rfl (by decide) (by omega) v127 y126 y129 _ _ _ (fun k_ => (P0_ k_ ∨ w.heap.size ≤ k_) ∧ some k_ ≠ (.slice Ao36 l0.length co36 : Value).ownBlock ∧ some k_ ≠ (v137 : Value).ownBlock) (fun _ => False) rfl rfl ?aO ?aR (fun _ _ h => h) (fun _ h => h.elim) ?aF ?aB ?aS ?aL ?_); ((case aR => repeat (first | exact Q68 | (with_reducible first | refine cA ?_ _ | refine cN ?_ _ | refine cD ?_)))); ((case aB => exact Q48)); ((case aF => exact Q71)); ((case aO => exact Q72)); ((case aS => exact Q50)); ((case aL => have := LMc31.out; omega)); intro v134 w44 ho hb hg hat; (rw [← Ny133.out] at ho); (have n0_ := Aside0.mk (Kd.R_after (ok := (fun k_ => (P0_ k_ ∨ w.heap.size ≤ k_) ∧ some k_ ≠ (v137 : Value).ownBlock)) Q58 hg hat)); (have n1_ := Aside0.mk (Kd.R_after (ok := (fun k_ => (P0_ k_ ∨ w.heap.size ≤ k_) ∧ some k_ ≠ (.slice Ao36 l0.length co36 : Value).ownBlock)) Q73 hg hat)); (have n2_ := Aside0.mk (hb)); (have n3_ := Aside0.mk (Kept.of_grown (S := (fun k_ => P0_ k_)) hg Q33 (fun k_ e_ => (HO128.out.1 k_ e_).1.1.1)))
            (have n4_ := Aside0.mk ((show Kd.C (Kd.int .i64) w44 Ao36 y129.length y129 from by rw [Ny129.out]; exact Kd.C_take (m := (x5_1 : Int).toNat) ((Kd.R_reads' (Kd.R_after (ok := (fun k_ => (P0_ k_ ∨ w.heap.size ≤ k_) ∧ some k_ ≠ (v137 : Value).ownBlock)) Q58 hg hat)).2.2) KL38.out))); (have n5_ := Aside0.mk ((show Kd.C (Kd.int .i64) w44 A39 y142.length y142 from by rw [Ny142.out, KA39.out]; exact Kd.C_drop (m := (x5_1 : Int).toNat) (c := co36) ((Kd.R_reads' (Kd.R_after (ok := (fun k_ => (P0_ k_ ∨ w.heap.size ≤ k_) ∧ some k_ ≠ (v137 : Value).ownBlock)) Q58 hg hat)).2.2) KL39.out ((Kd.R_reads' (Kd.R_after (ok := (fun k_ => (P0_ k_ ∨ w.heap.size ≤ k_) ∧ some k_ ≠ (v137 : Value).ownBlock)) Q58 hg hat)).2.1)))); (have n6_ := Aside0.mk (ho)); clear HO_0 HO138 HB HK HR132 HR145 HO128; (have HO_0 := n0_); (have HO138 := n1_); (have HB := n2_); (have HK := n3_); (have HR132 := n4_); (have HR145 := n5_); (have HO135 := n6_); clear n0_ n1_ n2_ n3_ n4_ n5_ n6_ ho hb hg hat; (refine hK.out _ _ trivial (fun hHeld => ?_)); clear hK K; (refine norm_ (a' := ?_) ?_ ?_); rotate_left; (· (show Act.put _ (some 37) _ = _); (simp only [Act.put, aS1, aS2, aS3, i64_w, i32_w]); rfl); (exact Q74)
          ·skip
           (refine Kd.R_lit_step (Kd.int .i64) _ 3 ?hg (N := 39) ?hd (xs := ([a1] : List Int)) (inner := [.int .i64 a1]) (ok := fun _ => True) (okp := fun _ => True) ?hr ?hp (fun _ hk => hk) trivial (Below.refl _ _) (Nat.le_refl _) (by simp) ?_; (case hd => rfl); (case hg => rfl); (case hr => first | (go_simp; done) | (go_simp; rfl)); (case hp => exact Q51)); intro v137 w40 ho41 hb hg_ hnew_; clear hg_ hnew_; ((first | rw [← Ny136.out] at ho41 | (simp only [Int.reduceToNat] at ho41; rw [← Ny136.out] at ho41))); (have n0_ := Aside0.mk (Kd.R_elder' Q36 (Kd.R_base ho41) hb)); (have n1_ := Aside0.mk (Kd.R_lower (Kd.R_new' (Kd.R_newM (M := fun k_ => (P0_ k_ ∨ w.heap.size ≤ k_)) ho41 Q44 (fun k_ h_ => .inr h_)) (Kd.R_lt Q36)) (below_size Q10))); (have n2_ := Aside0.mk (Kd.C_below Q66 hb)); (have n3_ := Aside0.mk (Kd.C_below Q67 hb)); (have n4_ := Aside0.mk (Kept.below (S := (fun k_ => P0_ k_)) Q33 hb)); (have n5_ := Aside0.mk (below_step Q10 hb)); clear HO_0 HR132 HR145 HK HB; (have HO_0 := n0_); (have HO138 := n1_); (have HR132 := n2_); (have HR145 := n3_); (have HK := n4_); (have HB := n5_); clear n0_ n1_ n2_ n3_ n4_ n5_ hb ho41; (refine hK.out _ _ trivial (fun hHeld => ?_)); clear hK K; (refine norm_ (a' := ?_) ?_ ?_); rotate_left; (· (show Act.put _ (some 39) _ = _); (simp only [Act.put, aS1, aS2, aS3, i64_w, i32_w]); rfl); (refine one_ (i := 0) (N := some 33) (cb 13 1903) rfl rfl (one_of HT_.out (by kernel_rfl)) (by decide) (fun K hK => ?_)); (refine Kd.R_lit_step (Kd.int .i64) _ 3 ?hg (N := 33) ?hd (xs := ([] : List Int)) (inner := []) (ok := fun _ => True) (okp := fun _ => True) ?hr ?hp (fun _ hk => hk) trivial (Below.refl _ _) (Nat.le_refl _) (by simp) ?_; (case hd => rfl); (case hg => rfl); (case hr => first | (go_simp; done) | (go_simp; rfl)); (case hp => exact Q43)); intro v127 w42 ho43 hb hg_ hnew_; clear hg_ hnew_; ((first | rw [← Ny126.out] at ho43 | (simp only [Int.reduceToNat] at ho43; rw [← Ny126.out] at ho43))); (have n0_ := Aside0.mk (Kd.R_elder' Q36 (Kd.R_base ho43) hb)); (have n1_ := Aside0.mk (Kd.R_elder' Q75 (Kd.R_base ho43) hb)); (have n2_ := Aside0.mk (Kd.R_lower (Kd.R_new' (Kd.R_new' (Kd.R_newM (M := fun k_ => (P0_ k_ ∨ w.heap.size ≤ k_)) ho43 Q44 (fun k_ h_ => .inr h_)) (Kd.R_lt Q36)) (Kd.R_lt Q75)) (below_size Q10))); (have n3_ := Aside0.mk (Kd.C_below Q66 hb)); (have n4_ := Aside0.mk (Kd.C_below Q67 hb)); (have n5_ := Aside0.mk (Kept.below (S := (fun k_ => P0_ k_)) Q33 hb)); (have n6_ := Aside0.mk (below_step Q10 hb)); clear HO_0 HO138 HR132 HR145 HK HB; (have HO_0 := n0_); (have HO138 := n1_); (have HO128 := n2_); (have HR132 := n3_); (have HR145 := n4_); (have HK := n5_); (have HB := n6_); clear n0_ n1_ n2_ n3_ n4_ n5_ n6_ hb ho43; (refine hK.out _ _ trivial (fun hHeld => ?_)); clear hK K; (refine norm_ (a' := ?_) ?_ ?_); rotate_left; (· (show Act.put _ (some 33) _ = _); (simp only [Act.put, aS1, aS2, aS3, i64_w, i32_w]); rfl); (refine one_ (i := 4) (N := some 37) (cb 13 1919) rfl rfl (one_of HT_.out (by kernel_rfl)) (by decide) (fun K hK => ?_))
           (refine Kd.R_append_rows_step (Kd.int .i64) (w0 := w0) w0.heap.size (by rfl) (.tmp 33) (.tmp 36) 26 3 (.int .i64 0) 8 rfl Try.underlying26 info3 rfl (by decide) (by omega) v127 y126 y129 _ _ _ (fun k_ => (P0_ k_ ∨ w.heap.size ≤ k_) ∧ some k_ ≠ (.slice Ao36 l0.length co36 : Value).ownBlock ∧ some k_ ≠ (v137 : Value).ownBlock) (fun _ => False) rfl rfl ?aO ?aR (fun _ _ h => h) (fun _ h => h.elim) ?aF ?aB ?aS ?aL ?_); ((case aR => repeat (first | exact Q68 | (with_reducible first | refine cA ?_ _ | refine cN ?_ _ | refine cD ?_)))); ((case aB => exact Q48)); ((case aF => exact Q71)); ((case aO => exact Q72)); ((case aS => exact Q50)); ((case aL => have := LMc31.out; omega)); intro v134 w44 ho hb hg hat; (rw [← Ny133.out] at ho); (have n0_ := Aside0.mk (Kd.R_after (ok := (fun k_ => (P0_ k_ ∨ w.heap.size ≤ k_) ∧ some k_ ≠ (v137 : Value).ownBlock)) Q36 hg hat)); (have n1_ := Aside0.mk (Kd.R_after (ok := (fun k_ => (P0_ k_ ∨ w.heap.size ≤ k_) ∧ some k_ ≠ (.slice Ao36 l0.length co36 : Value).ownBlock)) Q73 hg hat)); (have n2_ := Aside0.mk (hb)); (have n3_ := Aside0.mk (Kept.of_grown (S := (fun k_ => P0_ k_)) hg Q33 (fun k_ e_ => (HO128.out.1 k_ e_).1.1.1))); (have n4_ := Aside0.mk ((show Kd.C (Kd.int .i64) w44 Ao36 y129.length y129 from by rw [Ny129.out]; exact Kd.C_take (m := (x5_1 : Int).toNat) ((Kd.R_reads' (Kd.R_after (ok := (fun k_ => (P0_ k_ ∨ w.heap.size ≤ k_) ∧ some k_ ≠ (v137 : Value).ownBlock)) Q36 hg hat)).2.2) KL38.out))); (have n5_ := Aside0.mk ((show Kd.C (Kd.int .i64) w44 A39 y142.length y142 from by rw [Ny142.out, KA39.out]; exact Kd.C_drop (m := (x5_1 : Int).toNat) (c := co36) ((Kd.R_reads' (Kd.R_after (ok := (fun k_ => (P0_ k_ ∨ w.heap.size ≤ k_) ∧ some k_ ≠ (v137 : Value).ownBlock)) Q36 hg hat)).2.2) KL39.out ((Kd.R_reads' (Kd.R_after (ok := (fun k_ => (P0_ k_ ∨ w.heap.size ≤ k_) ∧ some k_ ≠ (v137 : Value).ownBlock)) Q36 hg hat)).2.1)))); (have n6_ := Aside0.mk (ho)); clear HO_0 HO138 HB HK HR132 HR145 HO128; (have HO_0 := n0_); (have HO138 := n1_); (have HB := n2_); (have HK := n3_); (have HR132 := n4_); (have HR145 := n5_); (have HO135 := n6_); clear n0_ n1_ n2_ n3_ n4_ n5_ n6_ ho hb hg hat; (refine hK.out _ _ trivial (fun hHeld => ?_)); clear hK K; (refine norm_ (a' := ?_) ?_ ?_); rotate_left; (· (show Act.put _ (some 37) _ = _); (simp only [Act.put, aS1, aS2, aS3, i64_w, i32_w]); rfl); (exact Q74)
         (rintro ⟨v127, v134, v137⟩ w45 ⟨h0_, h1_, h2_, h3_, h4_⟩); (have n0_ : Aside0 (Kd.R (Kd.int .i64) 3 w45 w0.heap.size (fun k_ => (P0_ k_ ∨ w.heap.size ≤ k_) ∧ some k_ ≠ (v137 : Value).ownBlock ∧ some k_ ≠ (.slice Ao36 l0.length co36 : Value).ownBlock) v134 y133) := ⟨h0_⟩); (have n1_ : Aside0 (Kd.R (Kd.int .i64) 3 w45 w0.heap.size (fun k_ => (P0_ k_ ∨ w.heap.size ≤ k_) ∧ some k_ ≠ (v134 : Value).ownBlock ∧ some k_ ≠ (.slice Ao36 l0.length co36 : Value).ownBlock) v137 y136) := ⟨h1_⟩); (have n2_ : Aside0 (Kd.R (Kd.int .i64) 3 w45 w0.heap.size (fun k_ => (P0_ k_ ∨ w.heap.size ≤ k_) ∧ some k_ ≠ (v134 : Value).ownBlock ∧ some k_ ≠ (v137 : Value).ownBlock) (.slice Ao36 l0.length co36) l0) := ⟨h2_⟩); (have n3_ : Aside0 (Kept w w45 (fun k_ => P0_ k_)) := ⟨h3_⟩); (have n4_ : Aside0 (Below w0.heap.size w0 w45) := ⟨h4_⟩); clear HO_0 HK HB h0_ h1_ h2_ h3_ h4_; (have HO135 := n0_); (have HO138 := n1_); (have HO_0 := n2_); (have HK := n3_); (have HB := n4_); clear n0_ n1_ n2_ n3_ n4_; (have hHeld := trivial); (obtain ⟨Ao47, co47, eo47⟩ := Kd.R_slice HO138.out); ((first | subst eo47 | (injection eo47 with f1_ f2_ f3_; have f4_ := f1_.symm; have f5_ := f3_.symm; clear f1_ f2_ f3_; subst f4_; subst f5_))); (refine norm_ (a' := ?_) ?_ ?_); rotate_left; (· (simp only [putAll, Act.put, aS1, aS2, aS3]); rfl); (refine one_ (i := 7) (N := some 40) (cn 13 11) rfl rfl (one_of HT_.out (by kernel_rfl)) (by decide) (fun K hK => ?_)); (refine Kd.R_append_rows_step (Kd.int .i64) (w0 := w0) w0.heap.size (by rfl) (.tmp 37) (.tmp 39) 26 3 (.int .i64 0) 8 rfl Try.underlying26 info3 rfl (by decide) (by omega) v134 y133 y136 _ _ _ (fun k_ => (P0_ k_ ∨ w.heap.size ≤ k_) ∧ some k_ ≠ (.slice Ao36 l0.length co36 : Value).ownBlock ∧ some k_ ≠ (.slice Ao47 y136.length co47 : Value).ownBlock) (fun _ => False) rfl rfl ?aO ?aR (fun _ _ h => h) (fun _ h => h.elim) ?aF ?aB ?aS ?aL ?_); ((case aR => repeat (first | exact (Kd.R_reads' HO138.out).2.2 | (with_reducible first | refine cA ?_ _ | refine cN ?_ _ | refine cD ?_)))); ((case aB => exact Q48)); ((case aF => exact Q71)); ((case aO => exact Q76)); ((case aS => exact Q50)); ((case aL => have := LMc32.out; omega)); intro v140 w46 ho hb hg hat; (rw [← Ny139.out] at ho); (have n0_ := Aside0.mk (Kd.R_after (ok := (fun k_ => (P0_ k_ ∨ w.heap.size ≤ k_) ∧ some k_ ≠ (.slice Ao47 y136.length co47 : Value).ownBlock)) Q63 hg hat)); (have n1_ := Aside0.mk (Kd.R_after (ok := (fun k_ => (P0_ k_ ∨ w.heap.size ≤ k_) ∧ some k_ ≠ (.slice Ao36 l0.length co36 : Value).ownBlock)) (by (with_reducible repeat (first | apply rA | apply rN | apply rD)); exact Kd.R_mono HO138.out (fun _ hk => ⟨⟨hk.1, hk.2.2⟩, hk.2.1⟩)) hg hat)); (have n2_ := Aside0.mk (hb)); (have n3_ := Aside0.mk (Kept.of_grown (S := (fun k_ => P0_ k_)) hg Q33 (fun k_ e_ => (HO135.out.1 k_ e_).1))); (have n4_ := Aside0.mk (ho)); clear HO_0 HO138 HB HK HO135; (have HO_0 := n0_); (have HO138 := n1_); (have HB := n2_); (have HK := n3_); (have HO141 := n4_); clear n0_ n1_ n2_ n3_ n4_ ho hb hg hat; (refine hK.out _ _ trivial (fun hHeld => ?_)); clear hK K; (refine norm_ (a' := ?_) ?_ ?_); rotate_left; (· (show Act.put _ (some 40) _ = _); (simp only [Act.put, aS1, aS2, aS3, i64_w, i32_w]); rfl); (refine one_ (i := 11) (N := some 44) (cn 13 12) rfl rfl (one_of HT_.out (by kernel_rfl)) (by decide) (fun K hK => ?_)); (refine Kd.R_append_rows_step (Kd.int .i64) (w0 := w0) w0.heap.size (by rfl) (.tmp 40) (.tmp 43) 26 3 (.int .i64 0) 8 rfl Try.underlying26 info3 rfl (by decide) (by omega) v140 y139 y142 _ _ _ (fun k_ => (P0_ k_ ∨ w.heap.size ≤ k_) ∧ some k_ ≠ (.slice Ao36 l0.length co36 : Value).ownBlock ∧ some k_ ≠ (.slice Ao47 y136.length co47 : Value).ownBlock) (fun _ => False) rfl rfl ?aO ?aR (fun _ _ h => h) (fun _ h => h.elim) ?aF ?aB ?aS ?aL ?_); ((case aR => (have hc_ := Kd.R_reads' HO_0.out; rw [Ny142.out, KA39.out]; repeat (first | exact Kd.C_drop (m := (x5_1 : Int).toNat) (c := co36) hc_.2.2 KL39.out hc_.2.1 | (with_reducible first | refine cA ?_ _ | refine cN ?_ _ | refine cD ?_))))); ((case aB => exact Q48))
         ((case aF => exact Q71)); ((case aO => exact (by (with_reducible repeat (first | apply rA | apply rN | apply rD)); exact HO141.out))); ((case aS => exact Q50)); ((case aL => have := LMc35.out; omega)); intro v147 w48 ho hb hg hat; (rw [← Ny146.out] at ho); (have n0_ := Aside0.mk (Kd.R_after (ok := (fun k_ => (P0_ k_ ∨ w.heap.size ≤ k_) ∧ some k_ ≠ (.slice Ao47 y136.length co47 : Value).ownBlock)) Q36 hg hat)); (have n1_ := Aside0.mk (Kd.R_after (ok := (fun k_ => (P0_ k_ ∨ w.heap.size ≤ k_) ∧ some k_ ≠ (.slice Ao36 l0.length co36 : Value).ownBlock)) Q75 hg hat)); (have n2_ := Aside0.mk (hb)); (have n3_ := Aside0.mk (Kept.of_grown (S := (fun k_ => P0_ k_)) hg Q33 (fun k_ e_ => (HO141.out.1 k_ e_).1))); (have n4_ := Aside0.mk (ho)); clear HO_0 HO138 HB HK HO141; (have HO_0 := n0_); (have HO138 := n1_); (have HB := n2_); (have HK := n3_); (have HO148 := n4_); clear n0_ n1_ n2_ n3_ n4_ ho hb hg hat; (refine hK.out _ _ trivial (fun hHeld => ?_)); clear hK K; (refine norm_ (a' := ?_) ?_ ?_); rotate_left; (· (show Act.put _ (some 44) _ = _); (simp only [Act.put, aS1, aS2, aS3, i64_w, i32_w]); rfl); (refine pB 12 (cn 13 13) (some 4) HT_ (h := ?_)); (refine done_ (done_of HT_.out (by kernel_rfl)) ?_); (try go_wp2); go_ret; (exact ⟨_, Q1, by (with_reducible repeat (first | apply rA | apply rN | apply rD)); exact Kd.R_mono HO148.out (fun _ hk => hk.1), Q10, Q33⟩)
        ·rw [if_neg c35] at H
         exact Q8
       ·rw [if_neg c32] at H
        exact Q8
      ·rw [if_neg c31] at H
       exact Q8
     ·rw [if_neg c30] at H
      exact Q8
    ·rw [if_neg c29] at H
     exact Q8
/-! ### spec_l1In: function 83 -/
def spec_l1In.f (a0 : Int) (a1 : Int) (a2 : Int) : Option (Bool) := if a0 ≥ a1 then (some (decide (a0 ≤ a2))) else (some false)
set_option maxHeartbeats 8000000 in
set_option maxRecDepth 100000 in
theorem spec_l1In.calls (a0 : Int) (a1 : Int) (a2 : Int) (r : Bool) (w : World) (h : spec_l1In.f a0 a1 a2 = some r) :
  Calls Try.prog 83 #[.int .i64 a0, .int .i64 a1, .int .i64 a2] w fun e w' => e = .returned (.bool r) ∧ Drawn0 w w' := by
 (unfold spec_l1In.f at h); (have H := h); clear h; (by_cases c4 : a0 ≥ a1); (· (rw [if_pos c4] at H); (have c4b0 : decide (a1 ≤ a0) = true := decide_eq_true c4); clear c4; (obtain rfl := Option.some.inj H); (go_enter Try.func83, Try.ntmps83); (go_wp2); go_ret; (exact Q25)); (· (rw [if_neg c4] at H); (have c4b0 : decide (a1 ≤ a0) = false := decide_eq_false c4); clear c4; (obtain rfl := Option.some.inj H); (go_enter Try.func83, Try.ntmps83); (go_wp2); go_ret; (exact Q25))
/-! ### spec_l1Rising: function 110 -/
def spec_l1Rising.l0 : Nat → List Int → Int → Int → Int → Option (Bool)
 | 0, _, _, _, _ => none
 | k + 1, x0, x1, x2, x7 => if x7 < (x0.length : Int) then (if 0 ≤ x7 then ((spec_l1In.f (rd x0 x7) x1 x2).bind fun t102 => (if t102 = true then (if x7 > 0 then (if 0 ≤ (wrap64 (x7 - 1)) then (if (wrap64 (x7 - 1)) < (x0.length : Int) then (if (rd x0 (wrap64 (x7 - 1))) ≥ (rd x0 x7) then (some false) else (spec_l1Rising.l0 k x0 x1 x2 (wrap64 (x7 + 1)))) else (none)) else (none)) else (spec_l1Rising.l0 k x0 x1 x2 (wrap64 (x7 + 1)))) else (some false))) else (none)) else (some true)
def spec_l1Rising.f (k : Nat) (l0 : List Int) (a1 : Int) (a2 : Int) : Option (Bool) := spec_l1Rising.l0 k l0 a1 a2 0
set_option maxHeartbeats 8000000 in
set_option maxRecDepth 100000 in
theorem spec_l1Rising.calls (k : Nat) (A0 : Option Addr) (c0 : Nat) (l0 : List Int) (a1 : Int) (a2 : Int) (r : Bool) (w : World) (hr0 : Kd.C (Kd.int .i64) w A0 l0.length l0) (hc0 : l0.length ≤ c0) (h : spec_l1Rising.f k l0 a1 a2 = some r) :
  Calls Try.prog 110 #[.slice A0 l0.length c0, .int .i64 a1, .int .i64 a2] w fun e w' => e = .returned (.bool r) ∧ Drawn0 w w' := by
 (have HR0 := Aside0.mk hr0); (have HC0 := Aside0.mk hc0); clear hr0 hc0; (unfold spec_l1Rising.f at h); (have H := h); clear h; (have H' := Aside0.mk H); clear H; (go_enter Try.func110, Try.ntmps110); (go_wp2); (repeat (go_quiet (fail); try go_wp2)); (go_loopg [7] k (fun kq v7 w' => ∃ (x7_1 : Int), v7 = .int .i64 x7_1 ∧ Aside0 (spec_l1Rising.l0 kq l0 a1 a2 x7_1 = some r) ∧ Aside0 (kq ≤ k) ∧ Drawn0 w w'))
 case atStart => exact Q23
 case round =>
  (clear H'); (try clear c1); (try clear p2); (obtain ⟨x7_1, rfl, HA, HK1, ⟨m1, rfl⟩⟩ := hrel)
  cases gk with
  | zero => exact absurd HA.out (by simp [spec_l1Rising.l0])
  | succ k1 =>
   (have H := HA.out); clear HA; (simp only [spec_l1Rising.l0] at H); (by_cases c4 : x7_1 < (l0.length : Int))
   ·rw [if_pos c4] at H
    (have c4b0 := decide_eq_true c4); clear c4; (by_cases c5 : 0 ≤ x7_1)
    ·rw [if_pos c5] at H
     (have c5b0 := decide_eq_true c5); clear c5; (replace H := obS H); (obtain ⟨t102, A6, H⟩ := H); (by_cases c7 : t102 = true)
     ·subst c7
      (rw [if_pos rfl] at H); (by_cases c8 : x7_1 > 0)
      ·rw [if_pos c8] at H
       (have c8b0 : decide (0 < x7_1) = true := decide_eq_true c8); clear c8; (obtain ⟨ji9, hji9⟩ : ∃ j_ : Int, (wrap64 (x7_1 - 1)) = j_ := ⟨_, rfl⟩); (replace H : (if 0 ≤ (ji9) then (if (ji9) < (l0.length : Int) then (if (rd l0 (ji9)) ≥ (rd l0 x7_1) then (some false) else (spec_l1Rising.l0 k1 l0 a1 a2 (wrap64 (x7_1 + 1)))) else (none)) else (none)) = some r := by first | (rw [hji9] at H; exact H) | (simp only [hji9] at H ⊢; exact H)); ((try rw [hji9] at A6)); (have hji9w : (IntKind.i64.wrap (x7_1 - 1)) = ji9 := (i64_w _).trans hji9); (by_cases c10 : 0 ≤ (ji9))
       ·rw [if_pos c10] at H
        (have c10b0 := decide_eq_true c10); clear c10; (by_cases c11 : (ji9) < (l0.length : Int))
        ·rw [if_pos c11] at H
         (have c11b0 := decide_eq_true c11); clear c11; (by_cases c12 : (rd l0 (ji9)) ≥ (rd l0 x7_1))
         ·rw [if_pos c12] at H
          (have c12b0 : decide ((rd l0 x7_1) ≤ (rd l0 (ji9))) = true := decide_eq_true c12); clear c12; (obtain rfl := Option.some.inj H); (have p101 : 0 ≤ (x7_1 : Int) := odt); (have q101 : x7_1 < (l0.length : Int) := odt); (obtain ⟨ad101, e101, hx101_0⟩ := Kd.at_int HR0.out x7_1 p101 q101); (cases e101); (replace p101 := eq_true p101); (replace q101 := eq_true q101); (go_wp2_with (first | (go_at_call 83; (with_reducible refine (spec_l1In.calls (rd l0 x7_1) a1 a2 true _ A6.out).mono ?_); rintro e w' ⟨rfl, ⟨nd, rfl⟩⟩; (try first | exact Q77 | exact Q78); have p103 : 0 ≤ ((ji9) : Int) := odt; have q103 : (ji9) < (l0.length : Int) := odt; obtain ⟨ad103, e103, hx103_0⟩ := Kd.at_int HR0.out (ji9) p103 q103; obtain rfl : ad101 = ad103 := Q79; replace p103 := eq_true p103; replace q103 := eq_true q103; have p104 : 0 ≤ (x7_1 : Int) := odt; have q104 : x7_1 < (l0.length : Int) := odt; obtain ⟨ad104, e104, hx104_0⟩ := Kd.at_int HR0.out x7_1 p104 q104; obtain rfl : ad101 = ad104 := Q80; replace p104 := eq_true p104; replace q104 := eq_true q104))); (repeat (go_quiet (first | (go_at_call 83; (with_reducible refine (spec_l1In.calls (rd l0 x7_1) a1 a2 true _ A6.out).mono ?_); rintro e w' ⟨rfl, ⟨nd, rfl⟩⟩; (try first | exact Q77 | exact Q78); have p103 : 0 ≤ ((ji9) : Int) := odt; have q103 : (ji9) < (l0.length : Int) := odt; obtain ⟨ad103, e103, hx103_0⟩ := Kd.at_int HR0.out (ji9) p103 q103; obtain rfl : ad101 = ad103 := Q79; replace p103 := eq_true p103; replace q103 := eq_true q103; have p104 : 0 ≤ (x7_1 : Int) := odt; have q104 : x7_1 < (l0.length : Int) := odt; obtain ⟨ad104, e104, hx104_0⟩ := Kd.at_int HR0.out x7_1 p104 q104; obtain rfl : ad101 = ad104 := Q80; replace p104 := eq_true p104; replace q104 := eq_true q104)); try go_wp2_with (first | (go_at_call 83; (with_reducible refine (spec_l1In.calls (rd l0 x7_1) a1 a2 true _ A6.out).mono ?_); rintro e w' ⟨rfl, ⟨nd, rfl⟩⟩; (try first | exact Q77 | exact Q78); have p103 : 0 ≤ ((ji9) : Int) := odt; have q103 : (ji9) < (l0.length : Int) := odt; obtain ⟨ad103, e103, hx103_0⟩ := Kd.at_int HR0.out (ji9) p103 q103; obtain rfl : ad101 = ad103 := Q79; replace p103 := eq_true p103; replace q103 := eq_true q103; have p104 : 0 ≤ (x7_1 : Int) := odt; have q104 : x7_1 < (l0.length : Int) := odt; obtain ⟨ad104, e104, hx104_0⟩ := Kd.at_int HR0.out x7_1 p104 q104; obtain rfl : ad101 = ad104 := Q80; replace p104 := eq_true p104; replace q104 := eq_true q104)))); go_ret; (exact ⟨by first | rfl | (simp; done) | (simp only [← hji9] <;> (first | rfl | simp)) | (simp [*]; done), Q81⟩)
         ·rw [if_neg c12] at H
          (have c12b0 : decide ((rd l0 x7_1) ≤ (rd l0 (ji9))) = false := decide_eq_false c12); clear c12; (have H' := Aside0.mk H); clear H; (have p101 : 0 ≤ (x7_1 : Int) := odt); (have q101 : x7_1 < (l0.length : Int) := odt); (obtain ⟨ad101, e101, hx101_0⟩ := Kd.at_int HR0.out x7_1 p101 q101); (cases e101); (replace p101 := eq_true p101); (replace q101 := eq_true q101); (go_wp2_with (first | (go_at_call 83; (with_reducible refine (spec_l1In.calls (rd l0 x7_1) a1 a2 true _ A6.out).mono ?_); rintro e w' ⟨rfl, ⟨nd, rfl⟩⟩; (try first | exact Q77 | exact Q78); have p103 : 0 ≤ ((ji9) : Int) := odt; have q103 : (ji9) < (l0.length : Int) := odt; obtain ⟨ad103, e103, hx103_0⟩ := Kd.at_int HR0.out (ji9) p103 q103; obtain rfl : ad101 = ad103 := Q79; replace p103 := eq_true p103; replace q103 := eq_true q103; have p104 : 0 ≤ (x7_1 : Int) := odt; have q104 : x7_1 < (l0.length : Int) := odt; obtain ⟨ad104, e104, hx104_0⟩ := Kd.at_int HR0.out x7_1 p104 q104; obtain rfl : ad101 = ad104 := Q80; replace p104 := eq_true p104; replace q104 := eq_true q104))); (repeat (go_quiet (first | (go_at_call 83; (with_reducible refine (spec_l1In.calls (rd l0 x7_1) a1 a2 true _ A6.out).mono ?_); rintro e w' ⟨rfl, ⟨nd, rfl⟩⟩; (try first | exact Q77 | exact Q78); have p103 : 0 ≤ ((ji9) : Int) := odt; have q103 : (ji9) < (l0.length : Int) := odt; obtain ⟨ad103, e103, hx103_0⟩ := Kd.at_int HR0.out (ji9) p103 q103; obtain rfl : ad101 = ad103 := Q79; replace p103 := eq_true p103; replace q103 := eq_true q103; have p104 : 0 ≤ (x7_1 : Int) := odt; have q104 : x7_1 < (l0.length : Int) := odt; obtain ⟨ad104, e104, hx104_0⟩ := Kd.at_int HR0.out x7_1 p104 q104; obtain rfl : ad101 = ad104 := Q80; replace p104 := eq_true p104; replace q104 := eq_true q104)); try go_wp2_with (first | (go_at_call 83; (with_reducible refine (spec_l1In.calls (rd l0 x7_1) a1 a2 true _ A6.out).mono ?_); rintro e w' ⟨rfl, ⟨nd, rfl⟩⟩; (try first | exact Q77 | exact Q78); have p103 : 0 ≤ ((ji9) : Int) := odt; have q103 : (ji9) < (l0.length : Int) := odt; obtain ⟨ad103, e103, hx103_0⟩ := Kd.at_int HR0.out (ji9) p103 q103; obtain rfl : ad101 = ad103 := Q79; replace p103 := eq_true p103; replace q103 := eq_true q103; have p104 : 0 ≤ (x7_1 : Int) := odt; have q104 : x7_1 < (l0.length : Int) := odt; obtain ⟨ad104, e104, hx104_0⟩ := Kd.at_int HR0.out x7_1 p104 q104; obtain rfl : ad101 = ad104 := Q80; replace p104 := eq_true p104; replace q104 := eq_true q104)))); go_roundg k1
          case measure => have := HK1.out; omega
          case rel => exact Q82
        ·rw [if_neg c11] at H
         exact Q8
       ·rw [if_neg c10] at H
        exact Q8
      ·rw [if_neg c8] at H
       (have c8b0 : decide (0 < x7_1) = false := decide_eq_false c8); clear c8; (have H' := Aside0.mk H); clear H; (have p101 : 0 ≤ (x7_1 : Int) := odt); (have q101 : x7_1 < (l0.length : Int) := odt); (obtain ⟨ad101, e101, hx101_0⟩ := Kd.at_int HR0.out x7_1 p101 q101); (cases e101); (replace p101 := eq_true p101); (replace q101 := eq_true q101); (go_wp2_with (first | (go_at_call 83; (with_reducible refine (spec_l1In.calls (rd l0 x7_1) a1 a2 true _ A6.out).mono ?_); rintro e w' ⟨rfl, ⟨nd, rfl⟩⟩; (try first | exact Q77 | exact Q78)))); (repeat (go_quiet (first | (go_at_call 83; (with_reducible refine (spec_l1In.calls (rd l0 x7_1) a1 a2 true _ A6.out).mono ?_); rintro e w' ⟨rfl, ⟨nd, rfl⟩⟩; (try first | exact Q77 | exact Q78))); try go_wp2_with (first | (go_at_call 83; (with_reducible refine (spec_l1In.calls (rd l0 x7_1) a1 a2 true _ A6.out).mono ?_); rintro e w' ⟨rfl, ⟨nd, rfl⟩⟩; (try first | exact Q77 | exact Q78))))); go_roundg k1
       case measure => have := HK1.out; omega
       case rel => exact Q82
     ·replace c7 := Bool.eq_false_iff.mpr c7
      subst c7; (rw [if_neg (show ¬ (false = true) by decide)] at H); (obtain rfl := Option.some.inj H); (have p101 : 0 ≤ (x7_1 : Int) := odt); (have q101 : x7_1 < (l0.length : Int) := odt); (obtain ⟨ad101, e101, hx101_0⟩ := Kd.at_int HR0.out x7_1 p101 q101); (cases e101); (replace p101 := eq_true p101); (replace q101 := eq_true q101); (go_wp2_with (first | (go_at_call 83; (with_reducible refine (spec_l1In.calls (rd l0 x7_1) a1 a2 false _ A6.out).mono ?_); rintro e w' ⟨rfl, ⟨nd, rfl⟩⟩; (try first | exact Q77 | exact Q78)))); (repeat (go_quiet (first | (go_at_call 83; (with_reducible refine (spec_l1In.calls (rd l0 x7_1) a1 a2 false _ A6.out).mono ?_); rintro e w' ⟨rfl, ⟨nd, rfl⟩⟩; (try first | exact Q77 | exact Q78))); try go_wp2_with (first | (go_at_call 83; (with_reducible refine (spec_l1In.calls (rd l0 x7_1) a1 a2 false _ A6.out).mono ?_); rintro e w' ⟨rfl, ⟨nd, rfl⟩⟩; (try first | exact Q77 | exact Q78))))); go_ret; (exact Q25)
    ·rw [if_neg c5] at H
     exact Q8
   ·rw [if_neg c4] at H
    (have c4b0 := decide_eq_false c4); clear c4; (obtain rfl := Option.some.inj H); (go_wp2); (repeat (go_quiet (fail); try go_wp2)); go_ret; (exact Q25)
end Go.Proofs.Ytdbhelhoaciodaa.X
