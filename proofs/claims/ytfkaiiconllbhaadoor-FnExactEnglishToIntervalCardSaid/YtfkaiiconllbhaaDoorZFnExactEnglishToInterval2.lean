/- For every text the law FnExactEnglishToInterval answers true. No condition beyond what a reading tells.
This file (part 2 of 3) holds what the proof needs: plain functions with rounds and contracts written by programs of this work over the translation, and the lemmas. -/
import Derived.Test.YtfkaiiconllbhaaDoorProg
import Derived.Below
import Derived.Deep.Draws
import Derived.Deep.AppendLies
import Derived.Maps.AppendAt
import Derived.OwnWalk
import Derived.Laws.BytesArg
import Derived.Laws.MakeOwn
import Derived.Laws.OwnMore
import Derived.Deep.OwnRows
import Derived.Tactics
import Derived.Lib.ConvBytes
import Derived.Laws.Slices
import Derived.WalkKit
import Derived.KernelRfl
import Derived.RowKit3
import Derived.Deep.LoopGhost
import Derived.Deep.QuietTactic
import Derived.BigQuiet
import Derived.WideLaws
import Derived.Deep.DeepCutAuto
import Derived.Deep.CutBlock
import Derived.Deep.RegionHeld3
import Derived.Laws.Rows
import Derived.Lib.AppendStr
import Derived.ArgAppend
import Derived.Laws.IdiomCopy
import Derived.OrdersHeld
import Derived.Laws.BitsLemmas
import Derived.RowKit
import Derived.Test.YtfkaiiconllbhaaDoorZFnExactEnglishToInterval1
import Derived.Lib.SmallJoins
import Derived.Lib.ItoaMem
import Derived.Shelf.Strconv.Atoi
import Derived.Shelf.Strconv.Itoa0
import Derived.Shelf.Strconv.Itoa1
import Derived.Shelf.LaysM
import Derived.Shelf.Strconv.Itoa2
import Derived.Shelf.Strconv.Itoa3
import Derived.Shelf.Strconv.AtoiErrFast
import Derived.Shelf.Strconv.ParseIntEmpty
import Derived.Shelf.Strconv.AtoiFail
import Derived.Shelf.Strconv.Clone
import Derived.Shelf.Strconv.SyntaxError
import Derived.Shelf.LaysC
import Derived.Shelf.Strconv.ToError
import Derived.Shelf.Strconv.AtoiErr
import Derived.Shelf.Strconv.Lower
import Derived.Shelf.Strconv.ParseUint10
import Derived.Shelf.Strconv.ParseUint10Empty
import Derived.Shelf.Strconv.ParseUint10Any
import Derived.Shelf.Strconv.ParseInt10
import Derived.Shelf.Strconv.AtoiLong
import Derived.Shelf.Strconv.AtoiInnerAll
import Derived.Shelf.Strconv.RangeError
import Derived.Shelf.Strconv.ToErrorRange
import Derived.Shelf.Strconv.AtoiAll
import Derived.Shelf.Strconv.ErrVarAll
import Derived.Shelf.Strings.Search1
import Derived.Shelf.Strings.Search2
import Derived.Shelf.Strings.Cut
import Derived.Shelf.Strings.Shaped
import Derived.Shelf.Strings.Prefix
import Derived.Shelf.Bits.Mul64
import Derived.Ground.Names2Prog
import Derived.Shelf.Slices.SearchI
import Derived.IntWalk
import Derived.Lib.AppendIntMem
import Derived.Lib.AtoiErrMem
import Derived.Lib.AtoiAllCases
import Derived.Lib.Strings
namespace Go.Proofs.YtfkaiiconllbhaaDoor.X
open Go.RowKit Go.Proofs.YtfkaiiconllbhaaDoorW.PrintWords Go.Proofs.YtfkaiiconllbhaaDoorW.PrintLast Go.Proofs.YtfkaiiconllbhaaDoorW.PrintMore
attribute [local go_sem] max2_int min2_int max_two min_two max_three min_three max_four min_four   -- for this text's walks alone
set_option linter.unusedVariables false
set_option linter.unusedSimpArgs false
attribute [-simp] ByteArray.size_append ByteArray.size_extract
attribute [-go_sem] ByteArray.size_append'



def errW : Option Int → Value
 | none => .nilIface
 | some c => .iface 0 (.int .i64 c)
theorem errW_none : errW none = .nilIface := rfl
theorem errW_some (c : Int) : errW (some c) = .iface 0 (.int .i64 c) := rfl

theorem aS1 {α : Type} (l : List α) (i : Nat) (a : α) : l.toArray.setIfInBounds i a = (l.set i a).toArray := List.setIfInBounds_toArray l i a
theorem aS2 {α : Type} {x : α} {xs : List α} {a : α} : (x :: xs).set 0 a = a :: xs := List.set_cons_zero
theorem aS3 {α : Type} {x : α} {xs : List α} {i : Nat} {a : α} : (x :: xs).set (i + 1) a = x :: xs.set i a := List.set_cons_succ
theorem aM1 {α β : Type} {f : α → β} {l : List α} : Array.map f l.toArray = (List.map f l).toArray := List.map_toArray
theorem aM2 {α β : Type} {f : α → β} {a : α} {l : List α} : List.map f (a :: l) = f a :: List.map f l := List.map_cons
theorem aM3 {α β : Type} {f : α → β} : List.map f [] = [] := List.map_nil
theorem cz {w : World} {g : Nat} {t : TypeId} {cs : Array Value} (h : w.heap[g]? = some (.cells cs t (0, 0))) (i : Nat) {v : Value} (hv : cs[i]? = some v := by rfl) : w.cell? ⟨g, i, none⟩ = some v := (blk_cell h i).trans hv
theorem gL {P : Program} {ops : Array Oper} {Q : Exit → Act → World → Prop} {rest : List Oper} {oi : Oper} {a : Act} {w : World} (N : Option Tmp) {f : FuncId} {fn : Func} {as_ : Array Operand} {ts : Array TypeId} (hf : P.funcs[f]? = some fn) (args : Array Value) (h : Calls P f args w fun e w' => ∃ v, e = .returned v ∧ wpList P ops Q rest (a.put N v) w')
  (hd : oi.dst = N := by rfl) (hg : oi.guard = none := by rfl) (hname : (fn.name == "runtime.NumGoroutine") = false := by kernel_rfl) (hb : fn.body.isSome = true := by rfl) (hop : oi.op = .call { callee := .value (.func f), args := as_, argTypes := ts } := by rfl) (hargs : as_.map a.eval = args := by ((try simp only [aM1, aM2, aM3]); first | done | rfl | (simp only [List.length_drop, List.length_take]; rfl))) : wpList P ops Q (oi :: rest) a w := goesL_ N hd hg hf hname hb args hop hargs h
theorem bz {b : Nat} {w W w' : World} (h : Below b w W) (_ : Below W.heap.size W w') : Below b w W := h
abbrev cA := @Kd.C_alloc
abbrev cN := @Kd.C_drewN
abbrev cD := @Kd.C_drew
abbrev rA := @Kd.R_alloc
abbrev rN := @Kd.R_drewN
abbrev rD := @Kd.R_drew
abbrev bA := @below_alloc
abbrev bN := @pw_below_drewN
abbrev bD := @below_drew1
abbrev kN := @blk_drewN
abbrev kD := @blk_drew
abbrev kA := @blk_alloc
def cb (n m : Nat) : Array Bool := ((List.range n).map (fun i => m.testBit i)).toArray
def cn (n i : Nat) : Array Bool := (List.replicate i true ++ List.replicate (n - i) false).toArray
theorem pA (i : Nat) (l' : Array Bool) (N : Option Tmp) {P : Program} {md : Region.Mode} {ops : Array Oper} {Q : Exit → Act → World → Prop} {S : World → Prop} {ds : List Nat} {T : Bool × List (List Nat × List Nat)} (HT : Aside0 (rtab md ops = T)) {oi : Oper} {v : Value} {fuel : Nat} {l : Array Bool} {a : Act} {w : World} (hi : ops[i]? = some oi) (hN : oi.dst = N) (hc : anyT T l.toList l'.toList i = true) (hQ : ∀ c a w, Q (.panic c) (a.put oi.dst v) w → Q (.panic c) a w) (hy : Yields P ops oi v a) {a' : Act} (ha : a.put N v = a') (h : wpAnyLast P md ops Q S ds fuel l' a' w) : wpAnyLast P md ops Q S ds (fuel + 1) l a w := pure_ (i := i) (N := N) l' hi hN (any_of HT.out hc) hQ hy ha h
theorem tA (i : Nat) (l' : Array Bool) (N : Option Tmp) {P : Program} {md : Region.Mode} {ops : Array Oper} {Q : Exit → Act → World → Prop} {S : World → Prop} {ds : List Nat} {T : Bool × List (List Nat × List Nat)} {B : List Nat} (HT : Aside0 (rtab md ops = T)) (HW : Aside0 (waitsOk T.2 B = true)) {oi : Oper} {v : Value} {fuel : Nat} {l : Array Bool} {a : Act} {w : World} (hi : ops[i]? = some oi) (hN : oi.dst = N) (hc : takeW T B ds l.toList l'.toList i = true) (hQ : ∀ c a w, Q (.panic c) (a.put oi.dst v) w → Q (.panic c) a w) (hy : YieldsIf P ops S oi v a) (hS : S w) {a' : Act} (ha : a.put N v = a') (h : wpAnyLast P md ops Q S ds fuel l' a' w) : wpAnyLast P md ops Q S ds (fuel + 1) l a w := take_ (i := i) (N := N) l' hi hN (take_ofW HT.out HW.out hc) hQ hy hS ha h
theorem pB (i : Nat) (l' : Array Bool) (N : Option Tmp) {P : Program} {md : Region.Mode} {ops : Array Oper} {Q : Exit → Act → World → Prop} {S : World → Prop} {ds : List Nat} {T : Bool × List (List Nat × List Nat)} (HT : Aside0 (rtab md ops = T)) {oi : Oper} {v : Value} {fuel : Nat} {l : Array Bool} {a a' : Act} {w : World}
  (hi : ops[i]? = some oi := by rfl) (hN : oi.dst = N := by rfl) (hc : anyT T l.toList l'.toList i = true := by kernel_rfl) (hQ : ∀ c a w, Q (.panic c) (a.put oi.dst v) w → Q (.panic c) a w := by exact fun _ _ _ h => h)
  (hw : Region.wanted oi (yielded ops a.tmps) = true := by rfl) (hy : ∀ w', (execOp a.eval oi).run P w' = .ok (.value v) w' := by (intro w'; go_simp; with_reducible rfl)) (ha : a.put N v = a' := by (simp only [Act.put, aS1, aS2, aS3, i64_w, i32_w]; rfl))
  (h : wpAnyLast P md ops Q S ds fuel l' a' w) : wpAnyLast P md ops Q S ds (fuel + 1) l a w := pA i l' N HT hi hN hc hQ (Or.inl ⟨hw, hy⟩) ha h
theorem tB (i : Nat) (l' : Array Bool) (N : Option Tmp) {P : Program} {md : Region.Mode} {ops : Array Oper} {Q : Exit → Act → World → Prop} {S : World → Prop} {ds : List Nat} {T : Bool × List (List Nat × List Nat)} {B : List Nat} (HT : Aside0 (rtab md ops = T)) (HW : Aside0 (waitsOk T.2 B = true)) {oi : Oper} {v : Value} {fuel : Nat} {l : Array Bool} {a a' : Act} {w : World} (hS : S w)
  (hi : ops[i]? = some oi := by rfl) (hN : oi.dst = N := by rfl) (hc : takeW T B ds l.toList l'.toList i = true := by kernel_rfl) (hQ : ∀ c a w, Q (.panic c) (a.put oi.dst v) w → Q (.panic c) a w := by exact fun _ _ _ h => h)
  (hw : Region.wanted oi (yielded ops a.tmps) = true := by rfl) (hy : ∀ w', S w' → (execOp a.eval oi).run P w' = .ok (.value v) w' := by (intro w'; (try simp only [and_imp]); intros; go_simp; with_reducible rfl)) (ha : a.put N v = a' := by (simp only [Act.put, aS1, aS2, aS3, i64_w, i32_w]; rfl))
  (h : wpAnyLast P md ops Q S ds fuel l' a' w) : wpAnyLast P md ops Q S ds (fuel + 1) l a w := tA i l' N HT HW hi hN hc hQ (Or.inl ⟨hw, hy⟩) hS ha h
class Lat (W W' : World) : Prop where out : Below W.heap.size W W'
instance (W : World) : Lat W W := ⟨Below.refl _ _⟩
instance (W W' : World) (o : Obj) [h : Lat W W'] : Lat W (W'.alloc o) := ⟨below_alloc h.out o⟩
instance (W W' : World) [h : Lat W W'] : Lat W W'.drew := ⟨below_drew1 h.out⟩
instance (W W' : World) (n : Nat) [h : Lat W W'] : Lat W (W'.drewN n) := ⟨pw_below_drewN h.out n⟩
theorem eI {w W W' : World} (h : Aside0 (Below w.heap.size w W)) [k : Lat W W'] : Below w.heap.size w W' := below_step h.out k.out
theorem kI {W W' : World} {g : Nat} {o : Obj} (h : Aside0 (W.heap[g]? = some o)) [k : Lat W W'] : W'.heap[g]? = some o := blk_below h.out k.out
theorem rI {α : Type} {d : Kd α} {e : Nat} {W W' : World} {base : Nat} {ok : Nat → Prop} {v : Value} {xs : List α} (h : Aside0 (d.R e W base ok v xs)) [k : Lat W W'] : d.R e W' base ok v xs := Kd.R_below h.out k.out
theorem zI {w W W' W2 : World} (hb : Below W'.heap.size W' W2) (h : Aside0 (Below w.heap.size w W)) [k : Lat W W'] : Below w.heap.size w W' := below_step h.out k.out
theorem sI {w W W' W2 : World} (hb : Below W'.heap.size W' W2) (h : Aside0 (Below w.heap.size w W)) [k : Lat W W'] : Below w.heap.size w W2 := below_step (below_step h.out k.out) hb
theorem kbI {W W' W2 : World} (hb : Below W'.heap.size W' W2) {g : Nat} {o : Obj} (h : Aside0 (W.heap[g]? = some o)) [k : Lat W W'] : W2.heap[g]? = some o := blk_below (blk_below h.out k.out) hb
theorem rbI {α : Type} {d : Kd α} {e : Nat} {W W' W2 : World} (hb : Below W'.heap.size W' W2) {base : Nat} {ok : Nat → Prop} {v : Value} {xs : List α} (h : Aside0 (d.R e W base ok v xs)) [k : Lat W W'] : d.R e W2 base ok v xs := Kd.R_below (Kd.R_below h.out k.out) hb
theorem odt {p : Prop} [Decidable p] (h : decide p = true := by first | (with_reducible assumption) | assumption) : p := of_decide_eq_true h
theorem obS {α β : Type} {o : Option α} {f : α → Option β} {r : β} (h : o.bind f = some r) : ∃ a, Aside0 (o = some a) ∧ f a = some r := by
 obtain ⟨a, h1, h2⟩ := Option.bind_eq_some_iff.mp h
 exact ⟨a, ⟨h1⟩, h2⟩
theorem oN (i : Nat) (N : Option Tmp) (l' : Array Bool) {P : Program} {md : Region.Mode} {ops : Array Oper} {Q : Exit → Act → World → Prop} {S : World → Prop} {ds : List Nat} {T : Bool × List (List Nat × List Nat)} (HT : Aside0 (rtab md ops = T)) {oi : Oper} {fuel : Nat} {l : Array Bool} {a : Act} {w : World}
  (h : ∀ K : Act → World → Prop, Shut (∀ a' w', S w' → (S w' → wpAnyLast P md ops Q S ds fuel l' a' w') → K a' w') → if Region.wanted oi (yielded ops a.tmps) = true then Oper.wp P oi a w K Q else K (a.put N undef) w)
  (hi : ops[i]? = some oi := by rfl) (hN : oi.dst = N := by rfl) (hc : (readyT T.2 l.toList == [i] && l.toList.set i true == l'.toList) = true := by kernel_rfl) (hd : i ∉ ds := by decide) : wpAnyLast P md ops Q S ds (fuel + 1) l a w := one_ l' hi hN (one_of HT.out hc) hd h
theorem nP (N : Option Tmp) {P : Program} {md : Region.Mode} {ops : Array Oper} {Q : Exit → Act → World → Prop} {S : World → Prop} {ds : List Nat} {fuel : Nat} {l : Array Bool} {a a' : Act} {v : Value} {w : World} (h : wpAnyLast P md ops Q S ds fuel l a' w) (ha : a.put N v = a' := by (simp only [Act.put, aS1, aS2, aS3, i64_w, i32_w]; rfl)) : wpAnyLast P md ops Q S ds fuel l (a.put N v) w := norm_ ha h
theorem gG {P : Program} {ops : Array Oper} {Q : Exit → Act → World → Prop} {f : FuncId} {fn : Func} (hf : P.funcs[f]? = some fn) (args : Array Value) {oi : Oper} {N : Option Tmp} {a : Act} {w : World} {K : Act → World → Prop} {as_ : Array Operand} {ts : Array TypeId}
  (h : Calls P f args w fun e w' => ∃ v, e = .returned v ∧ K (a.put N v) w') (hname : (fn.name == "runtime.NumGoroutine") = false := by kernel_rfl) (hb : fn.body.isSome = true := by rfl)
  (hw : Region.wanted oi (yielded ops a.tmps) = true := by rfl) (hN : oi.dst = N := by rfl) (hop : oi.op = .call { callee := .value (.func f), args := as_, argTypes := ts } := by rfl) (hargs : as_.map a.eval = args := by ((try simp only [aM1, aM2, aM3]); first | done | rfl | (simp only [List.length_drop, List.length_take]; rfl))) : if Region.wanted oi (yielded ops a.tmps) = true then Oper.wp P oi a w K Q else K (a.put N undef) w := goes_ hf hname hb args hw hN hop hargs h
theorem bx0 {w W : World} {gb : Nat} (hg : gb = W.heap.size) (hB : Below w.heap.size w W) : w.heap.size ≤ gb := by rw [hg]; exact below_size hB

theorem info9 : (Tryd.prog.info? 9).map (fun i => (i.zero, i.size, i.bytes)) = some (some (.string ⟨#[]⟩), 1, 16) := by kernel_rfl
structure S28 where
 f0 : Int
 f1 : Int
structure S26 where
 f0 : Int
 f1 : Int
structure S92 where
 f0 : Int
 f1 : Int
structure S94 where
 f0 : Int
 f1 : Int
structure S34 where
 f0 : (List S92)
 f1 : (List S94)
structure S68 where
 f0 : Int
 f1 : Int
structure S70 where
 f0 : Int
 f1 : Int
structure S40 where
 f0 : (List S68)
 f1 : (List S70)
structure S82 where
 f0 : Int
 f1 : S26
structure S79 where
 f0 : Int
 f1 : S28
structure S120 where
 f0 : (List Int)
 f1 : (List (List Bool))
 f2 : (List (List Bool))
/-- What the laid rows lay: the library's table of the powers of ten. -/
def GT (w : World) : Prop := Lib.TabIs Tryd.prog w "internal/strconv.uint64pow10" .u64 Lib.pow10Tab
theorem gt_named : ∃ g, Tryd.prog.globalNamed "internal/strconv.uint64pow10" = some g := Option.isSome_iff_exists.1 (show (Tryd.prog.globalNamed "internal/strconv.uint64pow10").isSome = true by kernel_rfl)
theorem GT.below {B : Nat} {w w' : World} (h : GT w) (hb : Below B w w') (hB : w.heap.size ≤ B := by first | exact Nat.le_refl _ | omega) : GT w' := Joins.tab_stays gt_named.choose_spec h hb hB
theorem GT.alloc {w : World} (h : GT w) (o : Obj) : GT (w.alloc o) := h.below (below_alloc (Below.refl _ _) o)
theorem GT.drew {w : World} (h : GT w) : GT w.drew := h.below (below_drew (Below.refl _ _))
theorem GT.drewN {w : World} (h : GT w) (m : Nat) : GT (w.drewN m) := h.below (pw_below_drewN (Below.refl _ _) m)

/-- What else the library reads of its own: the greatest length of the search by words (some number). -/
def MX (w : World) : Prop := ∃ m, w.cell? ⟨0, 0, none⟩ = some (.int .i64 m)
theorem MX.below {B : Nat} {w w' : World} (h : MX w) (hb : Below B w w') (hB : w.heap.size ≤ B) : MX w' := by
 first
 | exact True.intro
 | (obtain ⟨m, h⟩ := h; exact ⟨m, (hb.cell (Nat.lt_of_lt_of_le (World.block_lt_of_cell? w _ h) hB)).trans h⟩)
/-- Beside the table: the two errors that the library's parser of numbers hands out. -/
def GE (w : World) : Prop := GT w ∧ (∃ t v, w.cell? ⟨2, 0, none⟩ = some (.iface t v)) ∧ (∃ t v, w.cell? ⟨3, 0, none⟩ = some (.iface t v)) ∧ MX w
theorem GE.below {B : Nat} {w w' : World} (h : GE w) (hb : Below B w w') (hB : w.heap.size ≤ B := by first | exact Nat.le_refl _ | omega) : GE w' := by
 obtain ⟨h0, ⟨t1, v1, h1⟩, ⟨t2, v2, h2⟩, h3⟩ := h
 exact ⟨h0.below hb hB, ⟨t1, v1, (hb.cell (Nat.lt_of_lt_of_le (World.block_lt_of_cell? w _ h1) hB)).trans h1⟩, ⟨t2, v2, (hb.cell (Nat.lt_of_lt_of_le (World.block_lt_of_cell? w _ h2) hB)).trans h2⟩, h3.below hb hB⟩
theorem GE.alloc {w : World} (h : GE w) (o : Obj) : GE (w.alloc o) := h.below (below_alloc (Below.refl _ _) o)
theorem GE.drew {w : World} (h : GE w) : GE w.drew := h.below (below_drew (Below.refl _ _))
theorem GE.drewN {w : World} (h : GE w) (m : Nat) : GE (w.drewN m) := h.below (pw_below_drewN (Below.refl _ _) m)
theorem GE.gt {w : World} (h : GE w) : GT w := by
 obtain ⟨h0, _⟩ := h
 exact h0
theorem GE.mx {w : World} (h : GE w) : MX w := by
 obtain ⟨_, _, _, h3⟩ := h
 exact h3

end Go.Proofs.YtfkaiiconllbhaaDoor.X
namespace Go.Proofs.YtfkaiiconllbhaaDoor.X
open Go.RowKit Go.Proofs.YtfkaiiconllbhaaDoorW.PrintWords Go.Proofs.YtfkaiiconllbhaaDoorW.PrintLast Go.Proofs.YtfkaiiconllbhaaDoorW.PrintMore
attribute [local go_sem] max2_int min2_int max_two min_two max_three min_three max_four min_four   -- for this text's walks alone
set_option linter.unusedVariables false
set_option linter.unusedSimpArgs false
attribute [-simp] ByteArray.size_append ByteArray.size_extract
attribute [-go_sem] ByteArray.size_append'

/-! ### spec_l1In: function 62 -/
def spec_l1In.f (a0 : Int) (a1 : Int) (a2 : Int) : Option (Bool) := if a0 ≥ a1 then (some (decide (a0 ≤ a2))) else (some false)
set_option maxHeartbeats 8000000 in
set_option maxRecDepth 100000 in
theorem spec_l1In.calls (a0 : Int) (a1 : Int) (a2 : Int) (r : Bool) (w : World) (h : spec_l1In.f a0 a1 a2 = some r) :
  Calls Tryd.prog 62 #[.int .i64 a0, .int .i64 a1, .int .i64 a2] w fun e w' => e = .returned (.bool r) ∧ Drawn0 w w' := by
 (unfold spec_l1In.f at h); (have H := h); clear h; (by_cases c4 : a0 ≥ a1); (· (rw [if_pos c4] at H); (have c4b0 : decide (a1 ≤ a0) = true := decide_eq_true c4); clear c4; (obtain rfl := Option.some.inj H); (go_enter Tryd.func62, Tryd.ntmps62); (go_wp2); go_ret; (exact ⟨by first | rfl | (simp; done) | (simp [*]; done), by repeat (first | exact Drawn0.refl _ | apply Drawn0.step)⟩)); (· (rw [if_neg c4] at H); (have c4b0 : decide (a1 ≤ a0) = false := decide_eq_false c4); clear c4; (obtain rfl := Option.some.inj H); (go_enter Tryd.func62, Tryd.ntmps62); (go_wp2); go_ret; (exact ⟨by first | rfl | (simp; done) | (simp [*]; done), by repeat (first | exact Drawn0.refl _ | apply Drawn0.step)⟩))
/-! ### spec_l9Year: function 29 -/
def spec_l9Year.f (a0 : Int) : Option (Bool) := (spec_l1In.f a0 (-20000) 2100).bind fun t101 => (some t101)
set_option maxHeartbeats 8000000 in
set_option maxRecDepth 100000 in
theorem spec_l9Year.calls (a0 : Int) (r : Bool) (w : World) (h : spec_l9Year.f a0 = some r) :
  Calls Tryd.prog 29 #[.int .i64 a0] w fun e w' => e = .returned (.bool r) ∧ Drawn0 w w' := by
 (unfold spec_l9Year.f at h); (have H := h); clear h; (replace H := obS H); (obtain ⟨t101, A2, H⟩ := H); (obtain rfl := Option.some.inj H); (go_enter Tryd.func29, Tryd.ntmps29); (go_wp2_with (first | ((with_reducible refine gate_callee (f := 62) rfl ?_); refine gL (some 4) Tryd.func62 #[.int .i64 a0, .int .i64 (-20000), .int .i64 2100] ?_; (with_reducible refine (spec_l1In.calls a0 (-20000) 2100 t101 _ A2.out).mono ?_); rintro e w' ⟨rfl, ⟨nd, rfl⟩⟩; refine ⟨_, rfl, ?_⟩))); go_ret; (exact ⟨by first | rfl | (simp; done) | (simp [*]; done), by repeat (first | exact Drawn0.refl _ | apply Drawn0.step)⟩)
/-! ### spec_l9Interval: function 33 -/
def spec_l9Interval.f (a0_0 : Int) (a0_1 : Int) : Option (Bool) := (spec_l9Year.f a0_0).bind fun t102 => (if t102 = true then ((spec_l9Year.f a0_1).bind fun t103 => (if t103 = true then (some (decide (a0_0 ≤ a0_1))) else (some false))) else (some false))
set_option maxHeartbeats 8000000 in
set_option maxRecDepth 100000 in
theorem spec_l9Interval.calls (a0_0 : Int) (a0_1 : Int) (r : Bool) (w : World) (h : spec_l9Interval.f a0_0 a0_1 = some r) :
  Calls Tryd.prog 33 #[.agg #[.int .i64 a0_0, .int .i64 a0_1]] w fun e w' => e = .returned (.bool r) ∧ Below w.heap.size w w' := by
 (have hu28 := Tryd.underlying28); (have HB := Aside0.mk (Below.refl w.heap.size w)); (unfold spec_l9Interval.f at h); (have H := h); clear h; (replace H := obS H); (obtain ⟨t102, A2, H⟩ := H); (by_cases c3 : t102 = true)
 ·subst c3
  (rw [if_pos rfl] at H); (replace H := obS H); (obtain ⟨t103, A4, H⟩ := H); (by_cases c5 : t103 = true); (· subst c5; (rw [if_pos rfl] at H); (obtain rfl := Option.some.inj H); (go_enter Tryd.func33, Tryd.ntmps33); (go_wp2_with (first | ((with_reducible refine gate_dst (N := 1) rfl ?_); refine box_event ?hg (N := 1) ?hd (cs := #[.int .i64 a0_0, .int .i64 a0_1]) (t := 28) ?hr ?_; (case hd => rfl); (case hg => rfl); (case hr => first | (go_simp; done) | (go_simp; rfl)); intro gb101 hg w6 hbox hb; have hB_ := zI hb HB; have n0_ := Aside0.mk (below_step hB_ hb); have n1_ := Aside0.mk (hbox); have n2_ := Aside0.mk (bx0 hg hB_); have n3_ := n2_; clear HB; have HB := n0_; have BK101 := n1_; have GW101 := n2_; have GE101 := n3_; clear n0_ n1_ n2_ n3_ hB_ hb hbox hg; have hcz7_0 := cz BK101.out 0; have hcz7_1 := cz BK101.out 1; have hfz7_0 := blk_frozen BK101.out 0; have hfz7_1 := blk_frozen BK101.out 1) | ((with_reducible refine gate_callee (f := 29) rfl ?_); refine gL (some 5) Tryd.func29 #[.int .i64 a0_0] ?_; (with_reducible refine (spec_l9Year.calls a0_0 true _ A2.out).mono ?_); rintro e w' ⟨rfl, ⟨nd, rfl⟩⟩; refine ⟨_, rfl, ?_⟩) | (go_at_call 29; (with_reducible refine (spec_l9Year.calls a0_1 true _ A4.out).mono ?_); rintro e w' ⟨rfl, ⟨nd, rfl⟩⟩))); go_ret; (exact ⟨rfl, eI HB⟩)); (· (replace c5 := Bool.eq_false_iff.mpr c5); subst c5; (rw [if_neg (show ¬ (false = true) by decide)] at H); (obtain rfl := Option.some.inj H); (go_enter Tryd.func33, Tryd.ntmps33); (go_wp2_with (first | ((with_reducible refine gate_dst (N := 1) rfl ?_); refine box_event ?hg (N := 1) ?hd (cs := #[.int .i64 a0_0, .int .i64 a0_1]) (t := 28) ?hr ?_; (case hd => rfl); (case hg => rfl); (case hr => first | (go_simp; done) | (go_simp; rfl)); intro gb101 hg w8 hbox hb; have hB_ := zI hb HB; have n0_ := Aside0.mk (below_step hB_ hb); have n1_ := Aside0.mk (hbox); have n2_ := Aside0.mk (bx0 hg hB_); have n3_ := n2_; clear HB; have HB := n0_; have BK101 := n1_; have GW101 := n2_; have GE101 := n3_; clear n0_ n1_ n2_ n3_ hB_ hb hbox hg; have hcz9_0 := cz BK101.out 0; have hcz9_1 := cz BK101.out 1; have hfz9_0 := blk_frozen BK101.out 0; have hfz9_1 := blk_frozen BK101.out 1) | ((with_reducible refine gate_callee (f := 29) rfl ?_); refine gL (some 5) Tryd.func29 #[.int .i64 a0_0] ?_; (with_reducible refine (spec_l9Year.calls a0_0 true _ A2.out).mono ?_); rintro e w' ⟨rfl, ⟨nd, rfl⟩⟩; refine ⟨_, rfl, ?_⟩) | (go_at_call 29; (with_reducible refine (spec_l9Year.calls a0_1 false _ A4.out).mono ?_); rintro e w' ⟨rfl, ⟨nd, rfl⟩⟩))); go_ret; (exact ⟨rfl, eI HB⟩))
 ·replace c3 := Bool.eq_false_iff.mpr c3
  subst c3; (rw [if_neg (show ¬ (false = true) by decide)] at H); (obtain rfl := Option.some.inj H); (go_enter Tryd.func33, Tryd.ntmps33); (go_wp2_with (first | ((with_reducible refine gate_dst (N := 1) rfl ?_); refine box_event ?hg (N := 1) ?hd (cs := #[.int .i64 a0_0, .int .i64 a0_1]) (t := 28) ?hr ?_; (case hd => rfl); (case hg => rfl); (case hr => first | (go_simp; done) | (go_simp; rfl)); intro gb101 hg w10 hbox hb; have hB_ := zI hb HB; have n0_ := Aside0.mk (below_step hB_ hb); have n1_ := Aside0.mk (hbox); have n2_ := Aside0.mk (bx0 hg hB_); have n3_ := n2_; clear HB; have HB := n0_; have BK101 := n1_; have GW101 := n2_; have GE101 := n3_; clear n0_ n1_ n2_ n3_ hB_ hb hbox hg; have hcz11_0 := cz BK101.out 0; have hcz11_1 := cz BK101.out 1; have hfz11_0 := blk_frozen BK101.out 0; have hfz11_1 := blk_frozen BK101.out 1) | ((with_reducible refine gate_callee (f := 29) rfl ?_); refine gL (some 5) Tryd.func29 #[.int .i64 a0_0] ?_; (with_reducible refine (spec_l9Year.calls a0_0 false _ A2.out).mono ?_); rintro e w' ⟨rfl, ⟨nd, rfl⟩⟩; refine ⟨_, rfl, ?_⟩))); go_ret; (exact ⟨rfl, eI HB⟩)
/-! ### spec_l1Num: function 63 -/
def spec_l1Num.f : Nat → Int → Option (ByteArray)
 | 0, _ => none
 | k + 1, a0 => if a0 < 0 then ((spec_l1Num.f k (wrap64 (-a0))).bind fun t101 => (if 1 + t101.size ≤ 9223372036854775807 then (some ((⟨#[45]⟩ : ByteArray) ++ t101)) else (none))) else (if a0 < 10 then (if 0 ≤ a0 then (if a0 ≤ (wrap64 (a0 + 1)) then (if (wrap64 (a0 + 1)) ≤ 10 then (some ((⟨#[48, 49, 50, 51, 52, 53, 54, 55, 56, 57]⟩ : ByteArray).extract (a0 : Int).toNat ((wrap64 (a0 + 1)) : Int).toNat)) else (none)) else (none)) else (none)) else ((spec_l1Num.f k (wrap64 (Int.tdiv a0 10))).bind fun t102 => (if 0 ≤ (Int.tmod a0 10) then (if (Int.tmod a0 10) ≤ (wrap64 ((Int.tmod a0 10) + 1)) then (if (wrap64 ((Int.tmod a0 10) + 1)) ≤ 10 then (if t102.size + ((⟨#[48, 49, 50, 51, 52, 53, 54, 55, 56, 57]⟩ : ByteArray).extract ((Int.tmod a0 10) : Int).toNat ((wrap64 ((Int.tmod a0 10) + 1)) : Int).toNat).size ≤ 9223372036854775807 then (some (t102 ++ ((⟨#[48, 49, 50, 51, 52, 53, 54, 55, 56, 57]⟩ : ByteArray).extract ((Int.tmod a0 10) : Int).toNat ((wrap64 ((Int.tmod a0 10) + 1)) : Int).toNat))) else (none)) else (none)) else (none)) else (none))))
def spec_l1Num.T5 : Bool × List (List Nat × List Nat) := (true, [([], []), ([0], [0]), ([1], [1]), ([], []), ([3], [3]), ([], []), ([5], [5]), ([6], [6]), ([4, 7], [4, 7]), ([2, 8], [2, 8]), ([9, 2, 0, 1, 2, 3, 4, 5, 6, 7, 8, 9], [9])])
def spec_l1Num.B5 : List Nat := [0, 1, 3, 0, 8, 0, 32, 96, 248, 511, 1023]
theorem spec_l1Num.tab5 : rtab .any (opsOf Tryd.f63 5) = spec_l1Num.T5 := by kernel_rfl
theorem spec_l1Num.bits5 : waitsOk spec_l1Num.T5.2 spec_l1Num.B5 = true := by kernel_rfl
set_option maxHeartbeats 8000000 in
set_option maxRecDepth 100000 in
theorem spec_l1Num.calls (k : Nat) : ∀ (a0 : Int) (r : ByteArray) (w : World) (h : spec_l1Num.f k a0 = some r),
  Calls Tryd.prog 63 #[.int .i64 a0] w fun e w' => e = .returned (.string r) ∧ Below w.heap.size w w' := by
 induction k using Nat.strongRecOn with
 | _ k ih =>
 intro a0 r w h
 cases k with
 | zero => exact absurd h (by simp [spec_l1Num.f])
 | succ k =>
 (simp only [spec_l1Num.f] at h); (have HB := Aside0.mk (Below.refl w.heap.size w)); (have H : (if a0 < 0 then ((spec_l1Num.f k (wrap64 (-a0))).bind fun t101 => (if 1 + t101.size ≤ 9223372036854775807 then (some ((⟨#[45]⟩ : ByteArray) ++ t101)) else (none))) else (if a0 < 10 then (if 0 ≤ a0 then (if a0 ≤ (wrap64 (a0 + 1)) then (if (wrap64 (a0 + 1)) ≤ 10 then (some ((⟨#[48, 49, 50, 51, 52, 53, 54, 55, 56, 57]⟩ : ByteArray).extract (a0 : Int).toNat ((wrap64 (a0 + 1)) : Int).toNat)) else (none)) else (none)) else (none)) else ((spec_l1Num.f k (wrap64 (Int.tdiv a0 10))).bind fun t102 => (if 0 ≤ (Int.tmod a0 10) then (if (Int.tmod a0 10) ≤ (wrap64 ((Int.tmod a0 10) + 1)) then (if (wrap64 ((Int.tmod a0 10) + 1)) ≤ 10 then (if t102.size + ((⟨#[48, 49, 50, 51, 52, 53, 54, 55, 56, 57]⟩ : ByteArray).extract ((Int.tmod a0 10) : Int).toNat ((wrap64 ((Int.tmod a0 10) + 1)) : Int).toNat).size ≤ 9223372036854775807 then (some (t102 ++ ((⟨#[48, 49, 50, 51, 52, 53, 54, 55, 56, 57]⟩ : ByteArray).extract ((Int.tmod a0 10) : Int).toNat ((wrap64 ((Int.tmod a0 10) + 1)) : Int).toNat))) else (none)) else (none)) else (none)) else (none))))) = some r := h); clear h; (by_cases c2 : a0 < 0)
 ·rw [if_pos c2] at H
  (have c2b0 := decide_eq_true c2); clear c2; (replace H := obS H); (obtain ⟨t101, A3, H⟩ := H); (by_cases c4 : 1 + t101.size ≤ 9223372036854775807); (· (rw [if_pos c4] at H); (have c4b0 := eq_true c4); (have c4b1 := decide_eq_true c4); (try have c4b2 : (9223372036854775807 < 1 + t101.size) = False := eq_false (Nat.not_lt.2 c4)); (obtain rfl := Option.some.inj H); (go_enter Tryd.func63, Tryd.ntmps63); (go_wp2_with (first | ((with_reducible refine gate_callee (f := 63) rfl ?_); refine gL (some 7) Tryd.func63 #[.int .i64 (wrap64 (-a0))] ?_; (with_reducible refine (ih k (by omega) (wrap64 (-a0)) t101 _ A3.out).mono ?_); rintro e w5 ⟨rfl, hb⟩; refine ⟨_, rfl, ?_⟩; have n0_ := Aside0.mk (sI hb HB); clear HB; have HB := n0_; clear n0_; (try clear hb); (try clear hb2); (try clear hk); (try clear hi)))); go_ret; (exact ⟨rfl, eI HB⟩)); (· (rw [if_neg c4] at H); (exact absurd H (by simp)))
 ·rw [if_neg c2] at H
  (have c2b0 := decide_eq_false c2); clear c2; (by_cases c6 : a0 < 10)
  ·rw [if_pos c6] at H
   (have c6b0 := decide_eq_true c6); clear c6; (by_cases c7 : 0 ≤ a0)
   ·rw [if_pos c7] at H
    (have c7b0 := eq_true c7); (have c7b1 := decide_eq_true c7); clear c7; (by_cases c8 : a0 ≤ (wrap64 (a0 + 1)))
    ·rw [if_pos c8] at H
     (have c8b0 := eq_true c8); (have c8b1 := decide_eq_true c8); (by_cases c9 : (wrap64 (a0 + 1)) ≤ 10); (· (rw [if_pos c9] at H); (have c9b0 := eq_true c9); (have c9b1 := decide_eq_true c9); (obtain rfl := Option.some.inj H); (go_enter Tryd.func63, Tryd.ntmps63); (go_wp2); go_ret; (exact ⟨rfl, eI HB⟩)); (· (rw [if_neg c9] at H); (exact absurd H (by simp)))
    ·rw [if_neg c8] at H
     exact absurd H (by simp)
   ·rw [if_neg c7] at H
    exact absurd H (by simp)
  ·rw [if_neg c6] at H
   (have c6b0 := decide_eq_false c6); clear c6; (replace H := obS H); (obtain ⟨t102, A10, H⟩ := H); (obtain ⟨ji11, hji11⟩ : ∃ j_ : Int, (Int.tmod a0 10) = j_ := ⟨_, rfl⟩); (replace H : (if 0 ≤ (ji11) then (if (ji11) ≤ (wrap64 ((ji11) + 1)) then (if (wrap64 ((ji11) + 1)) ≤ 10 then (if t102.size + ((⟨#[48, 49, 50, 51, 52, 53, 54, 55, 56, 57]⟩ : ByteArray).extract ((ji11) : Int).toNat ((wrap64 ((ji11) + 1)) : Int).toNat).size ≤ 9223372036854775807 then (some (t102 ++ ((⟨#[48, 49, 50, 51, 52, 53, 54, 55, 56, 57]⟩ : ByteArray).extract ((ji11) : Int).toNat ((wrap64 ((ji11) + 1)) : Int).toNat))) else (none)) else (none)) else (none)) else (none)) = some r := by first | (rw [hji11] at H; exact H) | (simp only [hji11] at H ⊢; exact H)); ((try rw [hji11] at A10)); (by_cases c12 : 0 ≤ (ji11))
   ·rw [if_pos c12] at H
    (have c12b0 := eq_true c12); (have c12b1 := decide_eq_true c12); clear c12; (by_cases c13 : (ji11) ≤ (wrap64 ((ji11) + 1)))
    ·rw [if_pos c13] at H
     (have c13b0 := eq_true c13); (have c13b1 := decide_eq_true c13); (by_cases c14 : (wrap64 ((ji11) + 1)) ≤ 10)
     ·rw [if_pos c14] at H
      (have c14b0 := eq_true c14); (have c14b1 := decide_eq_true c14); (by_cases c15 : t102.size + ((⟨#[48, 49, 50, 51, 52, 53, 54, 55, 56, 57]⟩ : ByteArray).extract ((ji11) : Int).toNat ((wrap64 ((ji11) + 1)) : Int).toNat).size ≤ 9223372036854775807)
      ·rw [if_pos c15] at H
       (have c15b0 := eq_true c15); (have c15b1 := decide_eq_true c15); (try have c15n0 := c15b0); (try (push_cast [Int.toNat_natCast, ByteArray.size_append, show (⟨#[48, 49, 50, 51, 52, 53, 54, 55, 56, 57]⟩ : ByteArray).size = 10 from rfl] at c15n0)); (try have c15n1 := c15b1); (try (push_cast [Int.toNat_natCast, ByteArray.size_append, show (⟨#[48, 49, 50, 51, 52, 53, 54, 55, 56, 57]⟩ : ByteArray).size = 10 from rfl] at c15n1)); (try have c15b2 : (9223372036854775807 < t102.size + ((⟨#[48, 49, 50, 51, 52, 53, 54, 55, 56, 57]⟩ : ByteArray).extract ((ji11) : Int).toNat ((wrap64 ((ji11) + 1)) : Int).toNat).size) = False := eq_false (Nat.not_lt.2 c15)); (try have c15b3 := c15b2); (try simp only [show ((⟨#[48, 49, 50, 51, 52, 53, 54, 55, 56, 57]⟩ : ByteArray).extract ((ji11) : Int).toNat ((wrap64 ((ji11) + 1)) : Int).toNat).size = ((wrap64 ((ji11) + 1)) : Int).toNat - ((ji11) : Int).toNat from by (rw [ByteArray.size_extract]; show min ((wrap64 ((ji11) + 1)) : Int).toNat 10 - ((ji11) : Int).toNat = _; omega), ByteArray.size_append, show (⟨#[48, 49, 50, 51, 52, 53, 54, 55, 56, 57]⟩ : ByteArray).size = 10 from rfl] at c15b3); (obtain rfl := Option.some.inj H); (go_enter Tryd.func63, Tryd.ntmps63); (try go_wp2); (have n0_ := Aside0.mk (below_drew1 HB.out)); clear HB; (have HB := n0_); clear n0_; (refine start_ (n := 11) (S := fun w' => True) (ds := []) (cn 11 0) (by kernel_rfl) rfl (by kernel_rfl) trivial (fun hHeld => ?_); refine with_tabW spec_l1Num.tab5 spec_l1Num.bits5 (fun HT_ HW_ => ?_)); (generalize w.drew = w16 at HB hHeld ⊢); (refine pB 0 (cn 11 1) (some 15) HT_ (h := ?_)); (refine pB 1 (cn 11 2) (some 16) HT_ (h := ?_)); (refine pB 3 (cb 11 11) (some 18) HT_ (h := ?_)); (refine pB 4 (cb 11 27) (some 19) HT_ (h := ?_)); (refine pB 5 (cb 11 59) (some 20) HT_ (h := ?_)); (refine pB 6 (cb 11 123) (some 21) HT_ (h := ?_)); (refine pB 7 (cb 11 251) (some 22) HT_ (h := ?_)); (refine pB 8 (cb 11 507) (some 23) HT_ (h := ?_)); (refine oN 2 (some 17) (cn 11 9) HT_ (fun K hK => ?_)); (refine gG Tryd.func63 #[.int .i64 (wrap64 (Int.tdiv a0 10))] ?_); (with_reducible refine (ih k (by omega) (wrap64 (Int.tdiv a0 10)) t102 _ A10.out).mono ?_); (rintro e w17 ⟨rfl, hb⟩); (refine ⟨_, rfl, ?_⟩); (have n0_ := Aside0.mk (sI hb HB)); clear HB; (have HB := n0_); clear n0_; ((try clear hb)); ((try clear hb2)); ((try clear hk)); ((try clear hi)); (refine hK.out _ _ trivial (fun hHeld => ?_)); clear hK K; (refine nP (some 17) (h := ?_)); (refine pB 9 (cn 11 10) (some 24) HT_ (h := ?_)); (refine pB 10 (cn 11 11) (some 2) HT_ (h := ?_)); (refine done_ (done_of HT_.out (by kernel_rfl)) ?_); (try go_wp2)
       go_ret; (exact ⟨by first | rfl | (simp [errW_none, errW_some] <;> rfl) | (simp only [← hji11]; first | rfl | (simp [errW_none, errW_some] <;> rfl)) | (simp [*, errW_none, errW_some] <;> rfl), eI HB⟩)
      ·rw [if_neg c15] at H
       exact absurd H (by simp)
     ·rw [if_neg c14] at H
      exact absurd H (by simp)
    ·rw [if_neg c13] at H
     exact absurd H (by simp)
   ·rw [if_neg c12] at H
    exact absurd H (by simp)
/-! ### spec_l25Year: function 30 -/
def spec_l25Year.f (k : Nat) (a0 : Int) : Option (ByteArray) := if a0 > 0 then ((spec_l1Num.f k a0).bind fun t101 => (if 3 + t101.size ≤ 9223372036854775807 then (some ((⟨#[65, 68, 32]⟩ : ByteArray) ++ t101)) else (none))) else ((spec_l1Num.f k (wrap64 (1 - a0))).bind fun t102 => (if t102.size + 3 ≤ 9223372036854775807 then (some (t102 ++ (⟨#[32, 66, 67]⟩ : ByteArray))) else (none)))
set_option maxHeartbeats 8000000 in
set_option maxRecDepth 100000 in
theorem spec_l25Year.calls (k : Nat) (a0 : Int) (r : ByteArray) (w : World) (h : spec_l25Year.f k a0 = some r) :
  Calls Tryd.prog 30 #[.int .i64 a0] w fun e w' => e = .returned (.string r) ∧ Below w.heap.size w w' := by
 (have HB := Aside0.mk (Below.refl w.heap.size w)); (unfold spec_l25Year.f at h); (have H := h); clear h; (by_cases c2 : a0 > 0)
 ·rw [if_pos c2] at H
  (have c2b0 : decide (0 < a0) = true := decide_eq_true c2); clear c2; (replace H := obS H); (obtain ⟨t101, A3, H⟩ := H); (by_cases c4 : 3 + t101.size ≤ 9223372036854775807); (· (rw [if_pos c4] at H); (have c4b0 := eq_true c4); (have c4b1 := decide_eq_true c4); (try have c4b2 : (9223372036854775807 < 3 + t101.size) = False := eq_false (Nat.not_lt.2 c4)); (obtain rfl := Option.some.inj H); (go_enter Tryd.func30, Tryd.ntmps30); (go_wp2_with (first | ((with_reducible refine gate_callee (f := 63) rfl ?_); refine gL (some 6) Tryd.func63 #[.int .i64 a0] ?_; (with_reducible refine (spec_l1Num.calls k a0 t101 _ A3.out).mono ?_); rintro e w5 ⟨rfl, hb⟩; refine ⟨_, rfl, ?_⟩; have n0_ := Aside0.mk (sI hb HB); clear HB; have HB := n0_; clear n0_; (try clear hb); (try clear hb2); (try clear hk); (try clear hi)))); go_ret; (exact ⟨rfl, eI HB⟩)); (· (rw [if_neg c4] at H); (exact absurd H (by simp)))
 ·rw [if_neg c2] at H
  (have c2b0 : decide (0 < a0) = false := decide_eq_false c2); clear c2; (replace H := obS H); (obtain ⟨t102, A6, H⟩ := H); (by_cases c7 : t102.size + 3 ≤ 9223372036854775807); (· (rw [if_pos c7] at H); (have c7b0 := eq_true c7); (have c7b1 := decide_eq_true c7); (try have c7b2 : (9223372036854775807 < t102.size + 3) = False := eq_false (Nat.not_lt.2 c7)); (obtain rfl := Option.some.inj H); (go_enter Tryd.func30, Tryd.ntmps30); (go_wp2_with (first | ((with_reducible refine gate_callee (f := 63) rfl ?_); refine gL (some 10) Tryd.func63 #[.int .i64 (wrap64 (1 - a0))] ?_; (with_reducible refine (spec_l1Num.calls k (wrap64 (1 - a0)) t102 _ A6.out).mono ?_); rintro e w8 ⟨rfl, hb⟩; refine ⟨_, rfl, ?_⟩; have n0_ := Aside0.mk (sI hb HB); clear HB; have HB := n0_; clear n0_; (try clear hb); (try clear hb2); (try clear hk); (try clear hi)))); go_ret; (exact ⟨rfl, eI HB⟩)); (· (rw [if_neg c7] at H); (exact absurd H (by simp)))
/-! ### spec_l25Interval: function 34 -/
def spec_l25Interval.f (k : Nat) (a0_0 : Int) (a0_1 : Int) : Option (ByteArray) := if a0_0 = a0_1 then ((spec_l25Year.f k a0_0).bind fun t102 => (if 3 + t102.size ≤ 9223372036854775807 then (some ((⟨#[105, 110, 32]⟩ : ByteArray) ++ t102)) else (none))) else ((spec_l25Year.f k a0_0).bind fun t103 => (if 8 + t103.size ≤ 9223372036854775807 then (if ((⟨#[98, 101, 116, 119, 101, 101, 110, 32]⟩ : ByteArray) ++ t103).size + 5 ≤ 9223372036854775807 then ((spec_l25Year.f k a0_1).bind fun t104 => (if (((⟨#[98, 101, 116, 119, 101, 101, 110, 32]⟩ : ByteArray) ++ t103) ++ (⟨#[32, 97, 110, 100, 32]⟩ : ByteArray)).size + t104.size ≤ 9223372036854775807 then (some ((((⟨#[98, 101, 116, 119, 101, 101, 110, 32]⟩ : ByteArray) ++ t103) ++ (⟨#[32, 97, 110, 100, 32]⟩ : ByteArray)) ++ t104)) else (none))) else (none)) else (none)))
def spec_l25Interval.T3 : Bool × List (List Nat × List Nat) := (true, [([], []), ([0], [0]), ([1], [1]), ([2], [2]), ([3], [3]), ([], []), ([5], [5]), ([6, 2], [6]), ([4, 7], [4, 7]), ([8, 7, 0, 1, 2, 3, 4, 5, 6, 7, 8], [8])])
def spec_l25Interval.B3 : List Nat := [0, 1, 3, 7, 15, 0, 32, 103, 255, 511]
theorem spec_l25Interval.tab3 : rtab .any (opsOf Tryd.f34 3) = spec_l25Interval.T3 := by kernel_rfl
theorem spec_l25Interval.bits3 : waitsOk spec_l25Interval.T3.2 spec_l25Interval.B3 = true := by kernel_rfl
set_option maxHeartbeats 8000000 in
set_option maxRecDepth 100000 in
theorem spec_l25Interval.calls (k : Nat) (a0_0 : Int) (a0_1 : Int) (r : ByteArray) (w : World) (h : spec_l25Interval.f k a0_0 a0_1 = some r) :
  Calls Tryd.prog 34 #[.agg #[.int .i64 a0_0, .int .i64 a0_1]] w fun e w' => e = .returned (.string r) ∧ Below w.heap.size w w' := by
 (have hu28 := Tryd.underlying28); (have HB := Aside0.mk (Below.refl w.heap.size w)); (unfold spec_l25Interval.f at h); (have H := h); clear h; (by_cases c2 : a0_0 = a0_1)
 ·rw [if_pos c2] at H
  (have c2b0 : (a0_0 == a0_1) = true := beq_iff_eq.mpr c2); (have c2b1 : (a0_0 != a0_1) = false := bne_eq_false_iff_eq.mpr c2); clear c2; (replace H := obS H); (obtain ⟨t102, A3, H⟩ := H); (by_cases c4 : 3 + t102.size ≤ 9223372036854775807); (· (rw [if_pos c4] at H); (have c4b0 := eq_true c4); (have c4b1 := decide_eq_true c4); (try have c4b2 : (9223372036854775807 < 3 + t102.size) = False := eq_false (Nat.not_lt.2 c4)); (obtain rfl := Option.some.inj H); (go_enter Tryd.func34, Tryd.ntmps34); (go_wp2_with (first | ((with_reducible refine gate_dst (N := 1) rfl ?_); refine box_event ?hg (N := 1) ?hd (cs := #[.int .i64 a0_0, .int .i64 a0_1]) (t := 28) ?hr ?_; (case hd => rfl); (case hg => rfl); (case hr => first | (go_simp; done) | (go_simp; rfl)); intro gb101 hg w5 hbox hb; have hB_ := zI hb HB; have n0_ := Aside0.mk (below_step hB_ hb); have n1_ := Aside0.mk (hbox); have n2_ := Aside0.mk (bx0 hg hB_); have n3_ := n2_; clear HB; have HB := n0_; have BK101 := n1_; have GW101 := n2_; have GE101 := n3_; clear n0_ n1_ n2_ n3_ hB_ hb hbox hg; have hcz6_0 := cz BK101.out 0; have hcz6_1 := cz BK101.out 1; have hfz6_0 := blk_frozen BK101.out 0; have hfz6_1 := blk_frozen BK101.out 1) | ((with_reducible refine gate_callee (f := 30) rfl ?_); refine gL (some 10) Tryd.func30 #[.int .i64 a0_0] ?_; (with_reducible refine (spec_l25Year.calls k a0_0 t102 _ A3.out).mono ?_); rintro e w7 ⟨rfl, hb⟩; refine ⟨_, rfl, ?_⟩; have n0_ := Aside0.mk (kbI hb BK101); have n1_ := Aside0.mk (sI hb HB); clear BK101 HB; have BK101 := n0_; have HB := n1_; clear n0_ n1_; (try clear hb); (try clear hb2); (try clear hk); (try clear hi)))); go_ret; (exact ⟨rfl, eI HB⟩)); (· (rw [if_neg c4] at H); (exact absurd H (by simp)))
 ·rw [if_neg c2] at H
  (have c2b0 : (a0_0 == a0_1) = false := beq_eq_false_iff_ne.mpr c2); (have c2b1 : (a0_0 != a0_1) = true := bne_iff_ne.mpr c2); (replace H := obS H); (obtain ⟨t103, A8, H⟩ := H); (by_cases c9 : 8 + t103.size ≤ 9223372036854775807)
  ·rw [if_pos c9] at H
   (have c9b0 := eq_true c9); (have c9b1 := decide_eq_true c9); (try have c9b2 : (9223372036854775807 < 8 + t103.size) = False := eq_false (Nat.not_lt.2 c9)); (by_cases c10 : ((⟨#[98, 101, 116, 119, 101, 101, 110, 32]⟩ : ByteArray) ++ t103).size + 5 ≤ 9223372036854775807)
   ·rw [if_pos c10] at H
    (have c10b0 := eq_true c10); (have c10b1 := decide_eq_true c10); (try have c10n0 := c10b0); (try (push_cast [Int.toNat_natCast, ByteArray.size_append, show (⟨#[98, 101, 116, 119, 101, 101, 110, 32]⟩ : ByteArray).size = 8 from rfl] at c10n0)); (try have c10n1 := c10b1); (try (push_cast [Int.toNat_natCast, ByteArray.size_append, show (⟨#[98, 101, 116, 119, 101, 101, 110, 32]⟩ : ByteArray).size = 8 from rfl] at c10n1)); (try have c10b2 : (9223372036854775807 < ((⟨#[98, 101, 116, 119, 101, 101, 110, 32]⟩ : ByteArray) ++ t103).size + 5) = False := eq_false (Nat.not_lt.2 c10)); (try have c10b3 := c10b2); (try simp only [ByteArray.size_append, show (⟨#[98, 101, 116, 119, 101, 101, 110, 32]⟩ : ByteArray).size = 8 from rfl] at c10b3); (replace H := obS H); (obtain ⟨t104, A11, H⟩ := H); (by_cases c12 : (((⟨#[98, 101, 116, 119, 101, 101, 110, 32]⟩ : ByteArray) ++ t103) ++ (⟨#[32, 97, 110, 100, 32]⟩ : ByteArray)).size + t104.size ≤ 9223372036854775807)
    ·rw [if_pos c12] at H
     (have c12b0 := eq_true c12); (have c12b1 := decide_eq_true c12); (try have c12n0 := c12b0); (try (push_cast [Int.toNat_natCast, ByteArray.size_append, show (⟨#[32, 97, 110, 100, 32]⟩ : ByteArray).size = 5 from rfl, show (⟨#[98, 101, 116, 119, 101, 101, 110, 32]⟩ : ByteArray).size = 8 from rfl] at c12n0)); (try have c12n1 := c12b1); (try (push_cast [Int.toNat_natCast, ByteArray.size_append, show (⟨#[32, 97, 110, 100, 32]⟩ : ByteArray).size = 5 from rfl, show (⟨#[98, 101, 116, 119, 101, 101, 110, 32]⟩ : ByteArray).size = 8 from rfl] at c12n1)); (try have c12b2 : (9223372036854775807 < (((⟨#[98, 101, 116, 119, 101, 101, 110, 32]⟩ : ByteArray) ++ t103) ++ (⟨#[32, 97, 110, 100, 32]⟩ : ByteArray)).size + t104.size) = False := eq_false (Nat.not_lt.2 c12)); (try have c12b3 := c12b2); (try simp only [ByteArray.size_append, show (⟨#[32, 97, 110, 100, 32]⟩ : ByteArray).size = 5 from rfl, show (⟨#[98, 101, 116, 119, 101, 101, 110, 32]⟩ : ByteArray).size = 8 from rfl] at c12b3); (obtain rfl := Option.some.inj H); (go_enter Tryd.func34, Tryd.ntmps34); (try go_wp2_with (first | ((with_reducible refine gate_dst (N := 1) rfl ?_); refine box_event ?hg (N := 1) ?hd (cs := #[.int .i64 a0_0, .int .i64 a0_1]) (t := 28) ?hr ?_; (case hd => rfl); (case hg => rfl); (case hr => first | (go_simp; done) | (go_simp; rfl)); intro gb101 hg w13 hbox hb; have hB_ := zI hb HB; have n0_ := Aside0.mk (below_step hB_ hb); have n1_ := Aside0.mk (hbox); have n2_ := Aside0.mk (bx0 hg hB_); have n3_ := n2_; clear HB; have HB := n0_; have BK101 := n1_; have GW101 := n2_; have GE101 := n3_; clear n0_ n1_ n2_ n3_ hB_ hb hbox hg; have hcz14_0 := cz BK101.out 0; have hcz14_1 := cz BK101.out 1; have hfz14_0 := blk_frozen BK101.out 0; have hfz14_1 := blk_frozen BK101.out 1))); (have n0_ := Aside0.mk (blk_drew BK101.out)); (have n1_ := Aside0.mk (below_drew1 HB.out)); clear BK101 HB; (have BK101 := n0_); (have HB := n1_); clear n0_ n1_; (refine start_ (n := 10) (S := fun w' => w'.cell? ⟨gb101, 0, none⟩ = some (.int .i64 a0_0) ∧ w'.cell? ⟨gb101, 1, none⟩ = some (.int .i64 a0_1)) (ds := []) (cn 10 0) (by kernel_rfl) rfl (by kernel_rfl) ⟨cz BK101.out 0, cz BK101.out 1⟩ (fun hHeld => ?_); refine with_tabW spec_l25Interval.tab3 spec_l25Interval.bits3 (fun HT_ HW_ => ?_)); (generalize w13.drew = w15 at BK101 HB hHeld ⊢); (refine pB 0 (cn 10 1) (some 12) HT_ (h := ?_)); (refine pB 5 (cb 10 33) (some 17) HT_ (h := ?_)); (refine tB 1 (cb 10 35) (some 13) HT_ HW_ hHeld (h := ?_)); (refine tB 6 (cb 10 99) (some 18) HT_ HW_ hHeld (h := ?_)); (refine oN 2 (some 14) (cb 10 103) HT_ (fun K hK => ?_)); (refine gG Tryd.func30 #[.int .i64 a0_0] ?_); (with_reducible refine (spec_l25Year.calls k a0_0 t103 _ A8.out).mono ?_); (rintro e w16 ⟨rfl, hb⟩); (refine ⟨_, rfl, ?_⟩); (have n0_ := Aside0.mk (kbI hb BK101)); (have n1_ := Aside0.mk (sI hb HB)); clear BK101 HB; (have BK101 := n0_); (have HB := n1_); clear n0_ n1_; ((try clear hb)); ((try clear hb2)); ((try clear hk)); ((try clear hi)); (refine hK.out _ _ ⟨cz BK101.out 0, cz BK101.out 1⟩ (fun hHeld => ?_)); clear hK K; (refine nP (some 14) (h := ?_)); (refine pB 3 (cb 10 111) (some 15) HT_ (h := ?_)); (refine pB 4 (cn 10 7) (some 16) HT_ (h := ?_))
     (refine oN 7 (some 19) (cn 10 8) HT_ (fun K hK => ?_)); (refine gG Tryd.func30 #[.int .i64 a0_1] ?_); (with_reducible refine (spec_l25Year.calls k a0_1 t104 _ A11.out).mono ?_); (rintro e w17 ⟨rfl, hb⟩); (refine ⟨_, rfl, ?_⟩); (have n0_ := Aside0.mk (kbI hb BK101)); (have n1_ := Aside0.mk (sI hb HB)); clear BK101 HB; (have BK101 := n0_); (have HB := n1_); clear n0_ n1_; ((try clear hb)); ((try clear hb2)); ((try clear hk)); ((try clear hi)); (refine hK.out _ _ ⟨cz BK101.out 0, cz BK101.out 1⟩ (fun hHeld => ?_)); clear hK K; (refine nP (some 19) (h := ?_)); (refine pB 8 (cn 10 9) (some 20) HT_ (h := ?_)); (refine pB 9 (cn 10 10) (some 2) HT_ (h := ?_)); (refine done_ (done_of HT_.out (by kernel_rfl)) ?_); (try go_wp2); go_ret; (exact ⟨rfl, eI HB⟩)
    ·rw [if_neg c12] at H
     exact absurd H (by simp)
   ·rw [if_neg c10] at H
    exact absurd H (by simp)
  ·rw [if_neg c9] at H
   exact absurd H (by simp)
/-! ### spec_l1Split: function 78 -/
def spec_l1Split.l0 : Nat → ByteArray → Int → List ByteArray → Int → Int → Option (List ByteArray)
 | 0, _, _, _, _, _ => none
 | k + 1, x0, x1, x5, x6, x7 => if x7 < (x0.size : Int) then (if 0 ≤ x7 then (if (bt x0 x7) = x1 then (if 0 ≤ x6 then (if x6 ≤ x7 then (if x7 ≤ (x0.size : Int) then (if x5.length < 8796093022208 then (spec_l1Split.l0 k x0 x1 (x5 ++ [x0.extract (x6 : Int).toNat (x7 : Int).toNat]) (wrap64 (x7 + 1)) (wrap64 (x7 + 1))) else (none)) else (none)) else (none)) else (none)) else (spec_l1Split.l0 k x0 x1 x5 x6 (wrap64 (x7 + 1)))) else (none)) else (if 0 ≤ x6 then (if x6 ≤ (x0.size : Int) then (if x5.length < 8796093022208 then (some (x5 ++ [x0.extract (x6 : Int).toNat x0.size])) else (none)) else (none)) else (none))
def spec_l1Split.f (k : Nat) (a0 : ByteArray) (a1 : Int) : Option (List ByteArray) := spec_l1Split.l0 k a0 a1 (([] : List ByteArray)) 0 0
set_option maxHeartbeats 8000000 in
set_option maxRecDepth 100000 in
theorem spec_l1Split.calls (k : Nat) (a0 : ByteArray) (a1 : Int) (r : List ByteArray) (w : World) (h : spec_l1Split.f k a0 a1 = some r) :
  Calls Tryd.prog 78 #[.string a0, .int .u8 a1] w fun e w' => ∃ v0_ : Value, e = .returned (v0_) ∧ Kd.R Kd.string 9 w' w.heap.size (fun _ => True) v0_ r ∧ Below w.heap.size w w' := by
 (have HB := Aside0.mk (Below.refl w.heap.size w)); (unfold spec_l1Split.f at h); (have H := h); clear h; (obtain ⟨y101, hy101⟩ : ∃ y_ : List ByteArray, y_ = (([] : List ByteArray)) := ⟨_, rfl⟩); (replace H : (spec_l1Split.l0 k a0 a1 y101 0 0) = some r := by first | (rw [hy101]; with_reducible exact H) | (have H2_ := (Option.bind_some _ _).symm.trans H; rw [hy101]; with_reducible exact H2_) | (have H2_ := (Option.bind_some _ _).symm.trans H; with_reducible exact H2_) | with_reducible exact H | (rw [hy101]; exact H) | exact H); (have Ny101 := Aside0.mk hy101); clear hy101; (have H' := Aside0.mk H); clear H; (go_enter Tryd.func78, Tryd.ntmps78); (go_wp2_with (first | ((with_reducible refine gate_dst (N := 8) rfl ?_); refine Kd.R_lit Kd.string _ 9 ?hg (N := 8) ?hd (xs := ([] : List ByteArray)) (inner := []) (ok := fun _ => True) (okp := fun _ => True) ?hr ?hp (fun _ hk => hk) trivial (Below.refl _ _) (Nat.le_refl _) (by simp) ?_; (case hd => rfl); (case hg => rfl); (case hr => first | (go_simp; done) | (go_simp; rfl)); (case hp => exact (Reps.none _ _)); intro v102 w3 ho4 hb hg_ hnew_; clear hg_ hnew_; (first | rw [← Ny101.out] at ho4 | (simp only [Int.reduceToNat] at ho4; rw [← Ny101.out] at ho4)); have hB_ := zI hb HB; have n0_ := Aside0.mk (Kd.R_lower ho4 (below_size hB_)); have n1_ := Aside0.mk (below_step hB_ hb); clear HB; have HO103 := n0_; have HB := n1_; clear n0_ n1_ hB_ hb ho4))); (go_loopg [5, 6, 7] k (fun kq v5 v6 v7 w' => ∃ (x5_1 : List ByteArray) (x6_1 : Int) (x7_1 : Int), v6 = .int .i64 x6_1 ∧ v7 = .int .i64 x7_1 ∧ Aside0 (spec_l1Split.l0 kq a0 a1 x5_1 x6_1 x7_1 = some r) ∧ Aside0 (kq ≤ k) ∧ Aside0 (Kd.R Kd.string 9 w' w.heap.size (fun _ => True) v5 x5_1) ∧ Aside0 (Below w.heap.size w w')))
 case atStart => exact ⟨(y101), (0), (0), (by first | rfl | (simp; done) | (simp [*]; done)), (by first | rfl | (simp; done) | (simp [*]; done)), H', ⟨Nat.le_refl _⟩, ⟨rI HO103⟩, ⟨eI HB⟩⟩
 case round =>
  (clear H'); (try clear p2); (obtain ⟨x5_1, x6_1, x7_1, rfl, rfl, HA, HK1, HO_5, HB⟩ := hrel)
  cases gk with
  | zero => exact absurd HA.out (by simp [spec_l1Split.l0])
  | succ k1 =>
   (have H := HA.out); clear HA; (simp only [spec_l1Split.l0] at H); (by_cases c5 : x7_1 < (a0.size : Int))
   ·rw [if_pos c5] at H
    (have c5b0 := decide_eq_true c5); clear c5; (by_cases c6 : 0 ≤ x7_1)
    ·rw [if_pos c6] at H
     (have c6b0 := decide_eq_true c6); clear c6; (by_cases c8 : (bt a0 x7_1) = a1)
     ·rw [if_pos c8] at H
      (have c8b0 : ((bt a0 x7_1) == a1) = true := beq_iff_eq.mpr c8); (have c8b1 : ((bt a0 x7_1) != a1) = false := bne_eq_false_iff_eq.mpr c8); clear c8; (by_cases c9 : 0 ≤ x6_1)
      ·rw [if_pos c9] at H
       (have c9b0 := eq_true c9); (have c9b1 := decide_eq_true c9); clear c9; (by_cases c10 : x6_1 ≤ x7_1)
       ·rw [if_pos c10] at H
        (have c10b0 := eq_true c10); (have c10b1 := decide_eq_true c10); clear c10; (by_cases c11 : x7_1 ≤ (a0.size : Int))
        ·rw [if_pos c11] at H
         (have c11b0 := eq_true c11); (have c11b1 := decide_eq_true c11); clear c11; (by_cases c12 : x5_1.length < 8796093022208)
         ·rw [if_pos c12] at H
          (have LMc12 := Aside0.mk c12); clear c12; (obtain ⟨y104, hy104⟩ : ∃ y_ : List ByteArray, y_ = (x5_1 ++ [a0.extract (x6_1 : Int).toNat (x7_1 : Int).toNat]) := ⟨_, rfl⟩); (replace H : (spec_l1Split.l0 k1 a0 a1 y104 (wrap64 (x7_1 + 1)) (wrap64 (x7_1 + 1))) = some r := by first | (rw [hy104]; with_reducible exact H) | (have H2_ := (Option.bind_some _ _).symm.trans H; rw [hy104]; with_reducible exact H2_) | (have H2_ := (Option.bind_some _ _).symm.trans H; with_reducible exact H2_) | with_reducible exact H | (rw [hy104]; exact H) | exact H); (have Ny104 := Aside0.mk hy104); clear hy104; (have H' := Aside0.mk H); clear H; (have p7 : 0 ≤ (x7_1 : Int) := odt); (have q7 : x7_1 < (a0.size : Int) := odt); (have hx7 := bt_at a0 x7_1); (replace p7 := eq_true p7); (replace q7 := eq_true q7); (go_wp2_with (first | ((with_reducible refine gate_builtin (b := .append) (xs := #[.tmp 20, .tmp 25]) rfl ?_); at_builtin; refine Kd.R_append Kd.string (w0 := w) w.heap.size rfl (.tmp 20) (.tmp 25) 66 9 (.string ⟨#[]⟩) 16 rfl Tryd.underlying66 info9 rfl (by decide) (by omega) u5 x5_1 (a0.extract (x6_1 : Int).toNat (x7_1 : Int).toNat) [.string (a0.extract (x6_1 : Int).toNat (x7_1 : Int).toNat)] (fun _ => True) (fun _ => False) rfl rfl ?aP (fun _ hk => hk.elim) ?aF ?aO ?aB ?aS ?aL ?_; (case aP => exact rfl); (case aB => exact (eI HB)); (case aF => exact (fun _ _ => trivial)); (case aO => exact (rI HO_5)); (case aS => exact (below_size (eI HB))); (case aL => have := LMc12.out; omega); intro v105 w13 ho hb hg hat; rw [← Ny104.out] at ho; have n0_ := Aside0.mk (hb); have n1_ := Aside0.mk (ho); clear HB HO_5; have HB := n0_; have HO106 := n1_; clear n0_ n1_ ho hb hg hat))); go_roundg k1
          case measure => have := HK1.out; omega
          case rel => exact ⟨(y104), (wrap64 (x7_1 + 1)), (wrap64 (x7_1 + 1)), (by first | rfl | (simp; done) | (simp [*]; done)), (by first | rfl | (simp; done) | (simp [*]; done)), H', ⟨by have := HK1.out; omega⟩, ⟨rI HO106⟩, ⟨eI HB⟩⟩
         ·rw [if_neg c12] at H
          exact absurd H (by simp)
        ·rw [if_neg c11] at H
         exact absurd H (by simp)
       ·rw [if_neg c10] at H
        exact absurd H (by simp)
      ·rw [if_neg c9] at H
       exact absurd H (by simp)
     ·rw [if_neg c8] at H
      (have c8b0 : ((bt a0 x7_1) == a1) = false := beq_eq_false_iff_ne.mpr c8); (have c8b1 : ((bt a0 x7_1) != a1) = true := bne_iff_ne.mpr c8); (have H' := Aside0.mk H); clear H; (have p7 : 0 ≤ (x7_1 : Int) := odt); (have q7 : x7_1 < (a0.size : Int) := odt); (have hx7 := bt_at a0 x7_1); (replace p7 := eq_true p7); (replace q7 := eq_true q7); (go_wp2); go_roundg k1
      case measure => have := HK1.out; omega
      case rel => exact ⟨(x5_1), (x6_1), (wrap64 (x7_1 + 1)), (by first | rfl | (simp; done) | (simp [*]; done)), (by first | rfl | (simp; done) | (simp [*]; done)), H', ⟨by have := HK1.out; omega⟩, ⟨rI HO_5⟩, ⟨eI HB⟩⟩
    ·rw [if_neg c6] at H
     exact absurd H (by simp)
   ·rw [if_neg c5] at H
    (have c5b0 := decide_eq_false c5); clear c5; (by_cases c14 : 0 ≤ x6_1)
    ·rw [if_pos c14] at H
     (have c14b0 := eq_true c14); (have c14b1 := decide_eq_true c14); clear c14; (by_cases c15 : x6_1 ≤ (a0.size : Int))
     ·rw [if_pos c15] at H
      (have c15b0 := eq_true c15); (have c15b1 := decide_eq_true c15); clear c15; (by_cases c16 : x5_1.length < 8796093022208); (· (rw [if_pos c16] at H); (have LMc16 := Aside0.mk c16); clear c16; (obtain ⟨y107, hy107⟩ : ∃ y_ : List ByteArray, y_ = (x5_1 ++ [a0.extract (x6_1 : Int).toNat a0.size]) := ⟨_, rfl⟩); (replace H : (some y107) = some r := by first | (rw [hy107]; with_reducible exact H) | (have H2_ := (Option.bind_some _ _).symm.trans H; rw [hy107]; with_reducible exact H2_) | (have H2_ := (Option.bind_some _ _).symm.trans H; with_reducible exact H2_) | with_reducible exact H | (rw [hy107]; exact H) | exact H); (have Ny107 := Aside0.mk hy107); clear hy107; (obtain rfl := Option.some.inj H); (go_wp2_with (first | ((with_reducible refine gate_builtin (b := .append) (xs := #[.tmp 29, .tmp 33]) rfl ?_); at_builtin; refine Kd.R_append Kd.string (w0 := w) w.heap.size rfl (.tmp 29) (.tmp 33) 66 9 (.string ⟨#[]⟩) 16 rfl Tryd.underlying66 info9 rfl (by decide) (by omega) u5 x5_1 (a0.extract (x6_1 : Int).toNat a0.size) [.string (a0.extract (x6_1 : Int).toNat a0.size)] (fun _ => True) (fun _ => False) rfl rfl ?aP (fun _ hk => hk.elim) ?aF ?aO ?aB ?aS ?aL ?_; (case aP => exact rfl); (case aB => exact (eI HB)); (case aF => exact (fun _ _ => trivial)); (case aO => exact (rI HO_5)); (case aS => exact (below_size (eI HB))); (case aL => have := LMc16.out; omega); intro v108 w17 ho hb hg hat; rw [← Ny107.out] at ho; have n0_ := Aside0.mk (hb); have n1_ := Aside0.mk (ho); clear HB HO_5; have HB := n0_; have HO109 := n1_; clear n0_ n1_ ho hb hg hat))); go_ret; (exact ⟨_, by first | rfl | (simp [errW_none, errW_some] <;> rfl) | (simp [*, errW_none, errW_some] <;> rfl), rI HO109, eI HB⟩)); (· (rw [if_neg c16] at H); (exact absurd H (by simp)))
     ·rw [if_neg c15] at H
      exact absurd H (by simp)
    ·rw [if_neg c14] at H
     exact absurd H (by simp)
/-! ### spec_l1Read: function 79 -/
mutual
def spec_l1Read.j0 : Nat → ByteArray → ByteArray → Bool → Option (Int × Bool)
 | 0, _, _, _ => none
 | k + 1, x0, x4, x15 => if x15 = true then (if 1 ≤ (x4.size : Int) then (spec_l1Read.j1 k x0 (x4.extract 1 x4.size)) else (none)) else (spec_l1Read.j1 k x0 x4)
def spec_l1Read.j1 : Nat → ByteArray → ByteArray → Option (Int × Bool)
 | 0, _, _ => none
 | k + 1, x0, x4 => (spec_l1In.f (x4.size : Int) 1 6).bind fun t101 => (if t101 = true then (spec_l1Read.l0 k x0 x4 0 0) else (some (0, false)))
def spec_l1Read.l0 : Nat → ByteArray → ByteArray → Int → Int → Option (Int × Bool)
 | 0, _, _, _, _ => none
 | k + 1, x0, x4, x5, x6 => if x6 < (x4.size : Int) then (if 0 ≤ x6 then (if (bt x4 x6) < 48 then (some (0, false)) else (if (bt x4 x6) > 57 then (some (0, false)) else (spec_l1Read.l0 k x0 x4 (wrap64 ((wrap64 (10 * x5)) + (((bt x4 x6) - 48) % 256))) (wrap64 (x6 + 1))))) else (none)) else (if (x4.size : Int) < (x0.size : Int) then ((spec_l1Num.f k (wrap64 (-x5))).bind fun t102 => (if t102.toList = x0.toList then (some (wrap64 (-x5), true)) else (some (0, false)))) else ((spec_l1Num.f k x5).bind fun t103 => (if t103.toList = x0.toList then (some (x5, true)) else (some (0, false)))))
end
def spec_l1Read.f (k : Nat) (a0 : ByteArray) : Option (Int × Bool) := if (a0.size : Int) > 1 then (if 0 < (a0.size : Int) then (spec_l1Read.j0 k a0 a0 ((bt a0 0) == 45)) else (none)) else (spec_l1Read.j0 k a0 a0 false)
set_option maxHeartbeats 8000000 in
set_option maxRecDepth 100000 in
theorem spec_l1Read.calls (k : Nat) (a0 : ByteArray) (r1 : Int) (r2 : Bool) (w : World) (h : spec_l1Read.f k a0 = some (r1, r2)) :
  Calls Tryd.prog 79 #[.string a0] w fun e w' => e = .returned (.tuple #[.int .i64 r1, .bool r2]) ∧ Below w.heap.size w w' := by
 (have HB := Aside0.mk (Below.refl w.heap.size w)); (unfold spec_l1Read.f at h); (have H := h); clear h; (have HC2 := Aside0.mk H); clear H; (go_enter Tryd.func79, Tryd.ntmps79); (go_upto_region 2 with (fail)); (go_cut [15] (fun v15 wc => ∃ (kq : Nat) (x15_1 : Bool), v15 = .bool x15_1 ∧ Aside0 (spec_l1Read.j0 kq a0 a0 x15_1 = some (r1, r2)) ∧ Aside0 (kq ≤ k) ∧ Aside0 (Below w.heap.size w wc)))
 case first =>
  (have H := HC2.out); clear HC2; (by_cases c3 : (a0.size : Int) > 1)
  ·rw [if_pos c3] at H
   (have c3b0 : decide (1 < (a0.size : Int)) = true := decide_eq_true c3); (have c3b1 : decide (1 < a0.size) = true := decide_eq_true (by omega)); clear c3; ((first | rw [c3b0] | (simp only [i64_w, i32_w]; rw [c3b0]) | skip)); (by_cases c4 : 0 < (a0.size : Int))
   ·rw [if_pos c4] at H
    (have c4b0 := decide_eq_true c4); (have c4b1 : decide (0 < a0.size) = true := decide_eq_true (by omega)); clear c4; (have H' := Aside0.mk H); clear H; (have p5 : 0 ≤ (0 : Int) := (by omega)); (have q5 : 0 < a0.size := (by have : (0 : Int) < (a0.size : Int) := odt; omega)); (have hx5 : ∀ h : 0 < a0.size, ((a0[0]'h).toNat : Int) = bt a0 0 := bt_at a0 0); clear p5; (have qi5 : (0 < (a0.size : Int)) = True := eq_true odt); (replace q5 := eq_true q5); (go_wp2); (go_meet)
    case rel => exact ⟨_, (((bt a0 0) == 45)), (by first | rfl | (simp; done) | (simp [*]; done)), H', ⟨by first | omega | exact Nat.le_refl _⟩, ⟨eI HB⟩⟩
   ·rw [if_neg c4] at H
    exact absurd H (by simp)
  ·rw [if_neg c3] at H
   (have c3b0 : decide (1 < (a0.size : Int)) = false := decide_eq_false c3); (have c3b1 : decide (1 < a0.size) = false := decide_eq_false (by omega)); clear c3; ((first | rw [c3b0] | (simp only [i64_w, i32_w]; rw [c3b0]) | skip)); (have H' := Aside0.mk H); clear H; (go_wp2); (go_meet)
   case rel => exact ⟨_, (false), (by first | rfl | (simp; done) | (simp [*]; done)), H', ⟨by first | omega | exact Nat.le_refl _⟩, ⟨eI HB⟩⟩
 case rest =>
  clear HC2; (try clear p2); (try clear c3); (try clear c3b0); (try clear c3b1); (try clear c4); (try clear c4b0); (try clear c4b1); (try clear p5); (try clear q5); (try clear hx5); (try clear qi5); (try clear p5); (try clear q5); (obtain ⟨kq, x15_1, rfl, HA, HJ1, HB⟩ := hcut)
  cases kq with
  | zero => exact absurd HA.out (by simp [spec_l1Read.j0])
  | succ kj1 =>
   (have H := HA.out); clear HA; (simp only [spec_l1Read.j0] at H); (have HC6 := Aside0.mk H); clear H; (go_upto_if 15 with (fail)); (go_cut [4] (fun v4 wc => ∃ (kq : Nat) (x4_5 : ByteArray), v4 = .string x4_5 ∧ Aside0 (spec_l1Read.j1 kq a0 x4_5 = some (r1, r2)) ∧ Aside0 (kq ≤ kj1) ∧ Aside0 (Below w.heap.size w wc)))
   case first =>
    (have H := HC6.out); clear HC6; (by_cases c7 : x15_1 = true)
    ·subst c7
     (rw [if_pos rfl] at H); (by_cases c8 : 1 ≤ (a0.size : Int))
     ·rw [if_pos c8] at H
      (have c8b0 := eq_true c8); (have c8b1 := decide_eq_true c8); clear c8; (have H' := Aside0.mk H); clear H; (go_wp2); (go_meet)
      case rel => exact ⟨_, (a0.extract 1 a0.size), (by first | rfl | (simp; done) | (simp [*]; done)), H', ⟨by have := HJ1.out; first | omega | exact Nat.le_refl _⟩, ⟨eI HB⟩⟩
     ·rw [if_neg c8] at H
      exact absurd H (by simp)
    ·replace c7 := Bool.eq_false_iff.mpr c7
     subst c7; (rw [if_neg (show ¬ (false = true) by decide)] at H); (have H' := Aside0.mk H); clear H; (go_wp2); (go_meet)
     case rel => exact ⟨_, (a0), (by first | rfl | (simp; done) | (simp [*]; done)), H', ⟨by have := HJ1.out; first | omega | exact Nat.le_refl _⟩, ⟨eI HB⟩⟩
   case rest =>
    clear HC6; (try clear p2); (try clear c3); (try clear c3b0); (try clear c3b1); (try clear c4); (try clear c4b0); (try clear c4b1); (try clear p5); (try clear q5); (try clear hx5); (try clear qi5); (try clear c7); (try clear c8); (try clear c8b0); (try clear c8b1); (try clear p2); (try clear p5); (try clear q5); (obtain ⟨kq, x4_5, rfl, HA, HJ5, HB⟩ := hcut)
    cases kq with
    | zero => exact absurd HA.out (by simp [spec_l1Read.j1])
    | succ kj5 =>
     (have H := HA.out); clear HA; (simp only [spec_l1Read.j1] at H); (replace H := obS H); (obtain ⟨t101, A9, H⟩ := H); (by_cases c10 : t101 = true)
     ·subst c10
      (rw [if_pos rfl] at H); (have H' := Aside0.mk H); clear H; (go_wp2_with (first | ((with_reducible refine gate_callee (f := 62) rfl ?_); refine gL (some 20) Tryd.func62 #[.int .i64 (x4_5.size : Int), .int .i64 1, .int .i64 6] ?_; (with_reducible refine (spec_l1In.calls (x4_5.size : Int) 1 6 true _ A9.out).mono ?_); rintro e w' ⟨rfl, ⟨nd, rfl⟩⟩; refine ⟨_, rfl, ?_⟩))); (go_loopg [5, 6] kj5 (fun kq v5 v6 w' => ∃ (x5_3 : Int) (x6_3 : Int), v5 = .int .i64 x5_3 ∧ v6 = .int .i64 x6_3 ∧ Aside0 (spec_l1Read.l0 kq a0 x4_5 x5_3 x6_3 = some (r1, r2)) ∧ Aside0 (kq ≤ kj5) ∧ Aside0 (Below w.heap.size w w')))
      case atStart => exact ⟨(0), (0), (by first | rfl | (simp; done) | (simp [*]; done)), (by first | rfl | (simp; done) | (simp [*]; done)), H', ⟨Nat.le_refl _⟩, ⟨eI HB⟩⟩
      case round =>
       (clear H'); (try clear c1); (try clear p2); (try clear c3); (try clear c3b0); (try clear c3b1); (try clear c4); (try clear c4b0); (try clear c4b1); (try clear p5); (try clear q5); (try clear hx5); (try clear qi5); (try clear c6); (try clear c7); (try clear c8); (try clear c8b0); (try clear c8b1); (try clear c10); (try clear p2); (try clear p5); (try clear q5); (obtain ⟨x5_3, x6_3, rfl, rfl, HA, HK3, HB⟩ := hrel)
       cases gk with
       | zero => exact absurd HA.out (by simp [spec_l1Read.l0])
       | succ k3 =>
        (have H := HA.out); clear HA; (simp only [spec_l1Read.l0] at H); (by_cases c11 : x6_3 < (x4_5.size : Int))
        ·rw [if_pos c11] at H
         (have c11b0 := decide_eq_true c11); clear c11; (by_cases c12 : 0 ≤ x6_3)
         ·rw [if_pos c12] at H
          (have c12b0 := decide_eq_true c12); clear c12; (by_cases c14 : (bt x4_5 x6_3) < 48)
          ·rw [if_pos c14] at H
           (have c14b0 := decide_eq_true c14); clear c14; (simp only [Option.some.injEq, Prod.mk.injEq] at H); (obtain ⟨rfl, rfl⟩ := H); (have p13 : 0 ≤ (x6_3 : Int) := odt); (have q13 : x6_3 < (x4_5.size : Int) := odt); (have hx13 := bt_at x4_5 x6_3); (replace p13 := eq_true p13); (replace q13 := eq_true q13); (go_wp2); (go_ret2); (exact ⟨rfl, eI HB⟩)
          ·rw [if_neg c14] at H
           (have c14b0 := decide_eq_false c14); clear c14; (by_cases c16 : (bt x4_5 x6_3) > 57)
           ·rw [if_pos c16] at H
            (have c16b0 : decide (57 < (bt x4_5 x6_3)) = true := decide_eq_true c16); clear c16; (simp only [Option.some.injEq, Prod.mk.injEq] at H); (obtain ⟨rfl, rfl⟩ := H); (have p13 : 0 ≤ (x6_3 : Int) := odt); (have q13 : x6_3 < (x4_5.size : Int) := odt); (have hx13 := bt_at x4_5 x6_3); (replace p13 := eq_true p13); (replace q13 := eq_true q13); (have p15 : 0 ≤ (x6_3 : Int) := odt); (have q15 : x6_3 < (x4_5.size : Int) := odt); (have hx15 := bt_at x4_5 x6_3); (replace p15 := eq_true p15); (replace q15 := eq_true q15); (go_wp2); (go_ret2); (exact ⟨rfl, eI HB⟩)
           ·rw [if_neg c16] at H
            (have c16b0 : decide (57 < (bt x4_5 x6_3)) = false := decide_eq_false c16); clear c16; (have H' := Aside0.mk H); clear H; (have p13 : 0 ≤ (x6_3 : Int) := odt); (have q13 : x6_3 < (x4_5.size : Int) := odt); (have hx13 := bt_at x4_5 x6_3); (replace p13 := eq_true p13); (replace q13 := eq_true q13); (have p15 : 0 ≤ (x6_3 : Int) := odt); (have q15 : x6_3 < (x4_5.size : Int) := odt); (have hx15 := bt_at x4_5 x6_3); (replace p15 := eq_true p15); (replace q15 := eq_true q15); (have p17 : 0 ≤ (x6_3 : Int) := odt); (have q17 : x6_3 < (x4_5.size : Int) := odt); (have hx17 := bt_at x4_5 x6_3); (replace p17 := eq_true p17); (replace q17 := eq_true q17); (go_wp2); go_roundg k3
            case measure => have := HJ1.out; have := HJ5.out; have := HK3.out; omega
            case rel => exact ⟨(wrap64 ((wrap64 (10 * x5_3)) + (((bt x4_5 x6_3) - 48) % 256))), (wrap64 (x6_3 + 1)), (by first | rfl | (simp; done) | (simp [*]; done)), (by first | rfl | (simp; done) | (simp [*]; done)), H', ⟨by have := HJ1.out; have := HJ5.out; have := HK3.out; omega⟩, ⟨eI HB⟩⟩
         ·rw [if_neg c12] at H
          exact absurd H (by simp)
        ·rw [if_neg c11] at H
         (have c11b0 := decide_eq_false c11); clear c11; (by_cases c18 : (x4_5.size : Int) < (a0.size : Int))
         ·rw [if_pos c18] at H
          (have c18b0 := decide_eq_true c18); (have c18b1 : decide (x4_5.size < a0.size) = true := decide_eq_true (Int.ofNat_lt.mp c18)); clear c18; (replace H := obS H); (obtain ⟨t102, A19, H⟩ := H); (by_cases c20 : t102.toList = a0.toList); (· (rw [if_pos c20] at H); (have c20b0 : (t102.toList == a0.toList) = true := beq_iff_eq.mpr c20); (have c20b1 : (t102.toList != a0.toList) = false := bne_eq_false_iff_eq.mpr c20); clear c20; (simp only [Option.some.injEq, Prod.mk.injEq] at H); (obtain ⟨rfl, rfl⟩ := H); (go_wp2_with (first | ((with_reducible refine gate_callee (f := 63) rfl ?_); refine gL (some 54) Tryd.func63 #[.int .i64 (wrap64 (-x5_3))] ?_; (with_reducible refine (spec_l1Num.calls k3 (wrap64 (-x5_3)) t102 _ A19.out).mono ?_); rintro e w21 ⟨rfl, hb⟩; refine ⟨_, rfl, ?_⟩; have n0_ := Aside0.mk (sI hb HB); clear HB; have HB := n0_; clear n0_; (try clear hb); (try clear hb2); (try clear hk); (try clear hi)))); (go_ret2); (exact ⟨rfl, eI HB⟩)); (· (rw [if_neg c20] at H); (have c20b0 : (t102.toList == a0.toList) = false := beq_eq_false_iff_ne.mpr c20); (have c20b1 : (t102.toList != a0.toList) = true := bne_iff_ne.mpr c20); (simp only [Option.some.injEq, Prod.mk.injEq] at H); (obtain ⟨rfl, rfl⟩ := H); (go_wp2_with (first | ((with_reducible refine gate_callee (f := 63) rfl ?_); refine gL (some 54) Tryd.func63 #[.int .i64 (wrap64 (-x5_3))] ?_; (with_reducible refine (spec_l1Num.calls k3 (wrap64 (-x5_3)) t102 _ A19.out).mono ?_); rintro e w22 ⟨rfl, hb⟩; refine ⟨_, rfl, ?_⟩; have n0_ := Aside0.mk (sI hb HB); clear HB; have HB := n0_; clear n0_; (try clear hb); (try clear hb2); (try clear hk); (try clear hi)))); (go_ret2); (exact ⟨rfl, eI HB⟩))
         ·rw [if_neg c18] at H
          (have c18b0 := decide_eq_false c18); (have c18b1 : decide (x4_5.size < a0.size) = false := decide_eq_false (fun h => c18 (Int.ofNat_lt.mpr h))); clear c18; (replace H := obS H); (obtain ⟨t103, A23, H⟩ := H); (by_cases c24 : t103.toList = a0.toList); (· (rw [if_pos c24] at H); (have c24b0 : (t103.toList == a0.toList) = true := beq_iff_eq.mpr c24); (have c24b1 : (t103.toList != a0.toList) = false := bne_eq_false_iff_eq.mpr c24); clear c24; (simp only [Option.some.injEq, Prod.mk.injEq] at H); (obtain ⟨rfl, rfl⟩ := H); (go_wp2_with (first | ((with_reducible refine gate_callee (f := 63) rfl ?_); refine gL (some 54) Tryd.func63 #[.int .i64 x5_3] ?_; (with_reducible refine (spec_l1Num.calls k3 x5_3 t103 _ A23.out).mono ?_); rintro e w25 ⟨rfl, hb⟩; refine ⟨_, rfl, ?_⟩; have n0_ := Aside0.mk (sI hb HB); clear HB; have HB := n0_; clear n0_; (try clear hb); (try clear hb2); (try clear hk); (try clear hi)))); (go_ret2); (exact ⟨rfl, eI HB⟩)); (· (rw [if_neg c24] at H); (have c24b0 : (t103.toList == a0.toList) = false := beq_eq_false_iff_ne.mpr c24); (have c24b1 : (t103.toList != a0.toList) = true := bne_iff_ne.mpr c24); (simp only [Option.some.injEq, Prod.mk.injEq] at H); (obtain ⟨rfl, rfl⟩ := H); (go_wp2_with (first | ((with_reducible refine gate_callee (f := 63) rfl ?_); refine gL (some 54) Tryd.func63 #[.int .i64 x5_3] ?_; (with_reducible refine (spec_l1Num.calls k3 x5_3 t103 _ A23.out).mono ?_); rintro e w26 ⟨rfl, hb⟩; refine ⟨_, rfl, ?_⟩; have n0_ := Aside0.mk (sI hb HB); clear HB; have HB := n0_; clear n0_; (try clear hb); (try clear hb2); (try clear hk); (try clear hi)))); (go_ret2); (exact ⟨rfl, eI HB⟩))
     ·replace c10 := Bool.eq_false_iff.mpr c10
      subst c10; (rw [if_neg (show ¬ (false = true) by decide)] at H); (simp only [Option.some.injEq, Prod.mk.injEq] at H); (obtain ⟨rfl, rfl⟩ := H); (go_wp2_with (first | ((with_reducible refine gate_callee (f := 62) rfl ?_); refine gL (some 20) Tryd.func62 #[.int .i64 (x4_5.size : Int), .int .i64 1, .int .i64 6] ?_; (with_reducible refine (spec_l1In.calls (x4_5.size : Int) 1 6 false _ A9.out).mono ?_); rintro e w' ⟨rfl, ⟨nd, rfl⟩⟩; refine ⟨_, rfl, ?_⟩))); (go_ret2); (exact ⟨rfl, eI HB⟩)
/-! ### spec_l25ReadYear: function 49 -/
def spec_l25ReadYear.j0 : Nat → ByteArray → Int → Option (Int × Bool)
 | 0, _, _ => none
 | k + 1, x0, x5 => (spec_l9Year.f x5).bind fun t111 => (if t111 = true then ((spec_l25Year.f k x5).bind fun t112 => (if t112.toList = x0.toList then (some (x5, true)) else (some (0, false)))) else (some (0, false)))
def spec_l25ReadYear.f (k : Nat) (a0 : ByteArray) : Option (Int × Bool) := (spec_l1Split.f k a0 32).bind fun t101 => (if (t101.length : Int) = 2 then (if 0 < (t101.length : Int) then (if (rdOf ByteArray.empty t101 0).toList = ([65, 68] : List UInt8) then (if 1 < (t101.length : Int) then ((spec_l1Read.f k (rdOf ByteArray.empty t101 1)).bind fun bt106 => (if bt106.2 = true then (spec_l25ReadYear.j0 k a0 bt106.1) else (some (0, false)))) else (none)) else ((spec_l1Read.f k (rdOf ByteArray.empty t101 0)).bind fun bt109 => (if bt109.2 = true then (spec_l25ReadYear.j0 k a0 (wrap64 (1 - bt109.1))) else (some (0, false))))) else (none)) else (some (0, false)))
set_option maxHeartbeats 8000000 in
set_option maxRecDepth 100000 in
theorem spec_l25ReadYear.calls (k : Nat) (a0 : ByteArray) (r1 : Int) (r2 : Bool) (w : World) (h : spec_l25ReadYear.f k a0 = some (r1, r2)) :
  Calls Tryd.prog 49 #[.string a0] w fun e w' => e = .returned (.tuple #[.int .i64 r1, .bool r2]) ∧ Below w.heap.size w w' := by
 (have HB := Aside0.mk (Below.refl w.heap.size w)); (unfold spec_l25ReadYear.f at h); (have H := h); clear h; (replace H := obS H); (obtain ⟨t101, A2, H⟩ := H); (by_cases c3 : (t101.length : Int) = 2)
 ·rw [if_pos c3] at H
  (have c3b0 : ((t101.length : Int) == 2) = true := beq_iff_eq.mpr c3); (have c3b1 : ((t101.length : Int) != 2) = false := bne_eq_false_iff_eq.mpr c3); clear c3; (by_cases c4 : 0 < (t101.length : Int))
  ·rw [if_pos c4] at H
   (have c4b0 := decide_eq_true c4); (have c4b1 : decide (0 < t101.length) = true := decide_eq_true (by omega)); clear c4; (have HC5 := Aside0.mk H); clear H; (go_enter Tryd.func49, Tryd.ntmps49); (go_upto_if 18 with (first | ((with_reducible refine gate_callee (f := 78) rfl ?_); refine gL (some 11) Tryd.func78 #[.string a0, .int .u8 32] ?_; (with_reducible refine (spec_l1Split.calls k a0 32 t101 _ A2.out).mono ?_); rintro e w6 ⟨v102, rfl, ho0, hb⟩; refine ⟨_, rfl, ?_⟩; have n0_ := Aside0.mk (Kd.R_lower ho0 (below_size (eI HB))); have n1_ := Aside0.mk (sI hb HB); clear HB; have HO103 := n0_; have HB := n1_; clear n0_ n1_; (try clear hb); (try clear hb2); (try clear hk); (try clear hi); (try clear ho0); obtain ⟨Ao7, co7, eo7⟩ := Kd.R_slice HO103.out; subst eo7; have p104 : 0 ≤ (0 : Int) := (by omega); have q104 : 0 < (t101.length : Int) := odt; obtain ⟨ad104, e104, hx104_0⟩ := Kd.at_string (Kd.R_reads' HO103.out).2.2 0 p104 q104; cases e104; have qi104 : (0 < t101.length) = True := eq_true (by omega); (try rw [show ((0 : Int)).toNat = 0 from rfl] at hx104_0); (try rw [Addr.add_zero'] at hx104_0); replace p104 := eq_true p104; replace q104 := eq_true q104))); ((try simp only [Act.put, aS1, aS2, aS3])); (go_cut [5] (fun v5 wc => ∃ (kq : Nat) (x5_4 : Int), v5 = .int .i64 x5_4 ∧ Aside0 (spec_l25ReadYear.j0 kq a0 x5_4 = some (r1, r2)) ∧ Aside0 (kq ≤ k) ∧ Aside0 (Below w.heap.size w wc)))
   case first =>
    (have H := HC5.out); clear HC5; (by_cases c8 : (rdOf ByteArray.empty t101 0).toList = ([65, 68] : List UInt8))
    ·rw [if_pos c8] at H
     (have c8b0 : ((rdOf ByteArray.empty t101 0).toList == ([65, 68] : List UInt8)) = true := beq_iff_eq.mpr c8); (have c8b1 : ((rdOf ByteArray.empty t101 0).toList != ([65, 68] : List UInt8)) = false := bne_eq_false_iff_eq.mpr c8); clear c8; ((first | rw [c8b0] | (simp only [i64_w, i32_w]; rw [c8b0]) | skip)); (by_cases c9 : 1 < (t101.length : Int))
     ·rw [if_pos c9] at H
      (have c9b0 := decide_eq_true c9); (have c9b1 : decide (1 < t101.length) = true := decide_eq_true (by omega)); clear c9; (replace H := obS H); (obtain ⟨⟨t106, t107⟩, A10, H⟩ := H); (replace H : (if t107 = true then (spec_l25ReadYear.j0 k a0 t106) else (some (0, false))) = some (r1, r2) := H); (by_cases c11 : t107 = true)
      ·subst c11
       (rw [if_pos rfl] at H); (have H' := Aside0.mk H); clear H; (have p105 : 0 ≤ (1 : Int) := (by omega)); (have q105 : 1 < (t101.length : Int) := odt); (obtain ⟨ad105, e105, hx105_0⟩ := Kd.at_string (Kd.R_reads' HO103.out).2.2 1 p105 q105); (obtain rfl : ad104 = ad105 := (by injection e105)); ((try simp only [show (1 : Int).toNat = 1 from rfl, Nat.reduceMul, Nat.reduceEqDiff, Go.Addr.add, ↓reduceIte] at hx105_0)); (have qi105 : (1 < t101.length) = True := eq_true (by omega)); ((try rw [show ((1 : Int)).toNat = 1 from rfl] at hx105_0)); (replace p105 := eq_true p105); (replace q105 := eq_true q105); (go_wp2_with (first | ((with_reducible refine gate_callee (f := 79) rfl ?_); refine gL (some 23) Tryd.func79 #[.string (rdOf ByteArray.empty t101 1)] ?_; (with_reducible refine (spec_l1Read.calls k (rdOf ByteArray.empty t101 1) t106 true _ A10.out).mono ?_); rintro e w12 ⟨rfl, hb⟩; refine ⟨_, rfl, ?_⟩; have n0_ := Aside0.mk (rbI hb HO103); have n1_ := Aside0.mk (sI hb HB); clear HO103 HB; have HO103 := n0_; have HB := n1_; clear n0_ n1_; (try clear hb); (try clear hb2); (try clear hk); (try clear hi)))); (go_meet)
       case rel => exact ⟨_, (t106), (by first | rfl | (simp; done) | (simp [*]; done)), H', ⟨by first | omega | exact Nat.le_refl _⟩, ⟨eI HB⟩⟩
      ·replace c11 := Bool.eq_false_iff.mpr c11
       subst c11; (rw [if_neg (show ¬ (false = true) by decide)] at H); (simp only [Option.some.injEq, Prod.mk.injEq] at H); (obtain ⟨rfl, rfl⟩ := H); (have p105 : 0 ≤ (1 : Int) := (by omega)); (have q105 : 1 < (t101.length : Int) := odt); (obtain ⟨ad105, e105, hx105_0⟩ := Kd.at_string (Kd.R_reads' HO103.out).2.2 1 p105 q105); (obtain rfl : ad104 = ad105 := (by injection e105)); ((try simp only [show (1 : Int).toNat = 1 from rfl, Nat.reduceMul, Nat.reduceEqDiff, Go.Addr.add, ↓reduceIte] at hx105_0)); (have qi105 : (1 < t101.length) = True := eq_true (by omega)); ((try rw [show ((1 : Int)).toNat = 1 from rfl] at hx105_0)); (replace p105 := eq_true p105); (replace q105 := eq_true q105); (go_wp2_with (first | ((with_reducible refine gate_callee (f := 79) rfl ?_); refine gL (some 23) Tryd.func79 #[.string (rdOf ByteArray.empty t101 1)] ?_; (with_reducible refine (spec_l1Read.calls k (rdOf ByteArray.empty t101 1) t106 false _ A10.out).mono ?_); rintro e w13 ⟨rfl, hb⟩; refine ⟨_, rfl, ?_⟩; have n0_ := Aside0.mk (rbI hb HO103); have n1_ := Aside0.mk (sI hb HB); clear HO103 HB; have HO103 := n0_; have HB := n1_; clear n0_ n1_; (try clear hb); (try clear hb2); (try clear hk); (try clear hi)))); (go_ret2); (exact ⟨rfl, eI HB⟩)
     ·rw [if_neg c9] at H
      exact absurd H (by simp)
    ·rw [if_neg c8] at H
     (have c8b0 : ((rdOf ByteArray.empty t101 0).toList == ([65, 68] : List UInt8)) = false := beq_eq_false_iff_ne.mpr c8); (have c8b1 : ((rdOf ByteArray.empty t101 0).toList != ([65, 68] : List UInt8)) = true := bne_iff_ne.mpr c8); ((first | rw [c8b0] | (simp only [i64_w, i32_w]; rw [c8b0]) | skip)); (replace H := obS H); (obtain ⟨⟨t109, t110⟩, A14, H⟩ := H); (replace H : (if t110 = true then (spec_l25ReadYear.j0 k a0 (wrap64 (1 - t109))) else (some (0, false))) = some (r1, r2) := H); (by_cases c15 : t110 = true)
     ·subst c15
      (rw [if_pos rfl] at H); (have H' := Aside0.mk H); clear H; (have p108 : 0 ≤ (0 : Int) := (by omega)); (have q108 : 0 < (t101.length : Int) := odt); (obtain ⟨ad108, e108, hx108_0⟩ := Kd.at_string (Kd.R_reads' HO103.out).2.2 0 p108 q108); (obtain rfl : ad104 = ad108 := (by injection e108)); (have qi108 : (0 < t101.length) = True := eq_true (by omega)); ((try rw [show ((0 : Int)).toNat = 0 from rfl] at hx108_0)); ((try rw [Addr.add_zero'] at hx108_0)); (replace p108 := eq_true p108); (replace q108 := eq_true q108); (go_wp2_with (first | ((with_reducible refine gate_callee (f := 79) rfl ?_); refine gL (some 33) Tryd.func79 #[.string (rdOf ByteArray.empty t101 0)] ?_; (with_reducible refine (spec_l1Read.calls k (rdOf ByteArray.empty t101 0) t109 true _ A14.out).mono ?_); rintro e w16 ⟨rfl, hb⟩; refine ⟨_, rfl, ?_⟩; have n0_ := Aside0.mk (rbI hb HO103); have n1_ := Aside0.mk (sI hb HB); clear HO103 HB; have HO103 := n0_; have HB := n1_; clear n0_ n1_; (try clear hb); (try clear hb2); (try clear hk); (try clear hi)))); (go_meet)
      case rel => exact ⟨_, (wrap64 (1 - t109)), (by first | rfl | (simp; done) | (simp [*]; done)), H', ⟨by first | omega | exact Nat.le_refl _⟩, ⟨eI HB⟩⟩
     ·replace c15 := Bool.eq_false_iff.mpr c15
      subst c15; (rw [if_neg (show ¬ (false = true) by decide)] at H); (simp only [Option.some.injEq, Prod.mk.injEq] at H); (obtain ⟨rfl, rfl⟩ := H); (have p108 : 0 ≤ (0 : Int) := (by omega)); (have q108 : 0 < (t101.length : Int) := odt); (obtain ⟨ad108, e108, hx108_0⟩ := Kd.at_string (Kd.R_reads' HO103.out).2.2 0 p108 q108); (obtain rfl : ad104 = ad108 := (by injection e108)); (have qi108 : (0 < t101.length) = True := eq_true (by omega)); ((try rw [show ((0 : Int)).toNat = 0 from rfl] at hx108_0)); ((try rw [Addr.add_zero'] at hx108_0)); (replace p108 := eq_true p108); (replace q108 := eq_true q108); (go_wp2_with (first | ((with_reducible refine gate_callee (f := 79) rfl ?_); refine gL (some 33) Tryd.func79 #[.string (rdOf ByteArray.empty t101 0)] ?_; (with_reducible refine (spec_l1Read.calls k (rdOf ByteArray.empty t101 0) t109 false _ A14.out).mono ?_); rintro e w17 ⟨rfl, hb⟩; refine ⟨_, rfl, ?_⟩; have n0_ := Aside0.mk (rbI hb HO103); have n1_ := Aside0.mk (sI hb HB); clear HO103 HB; have HO103 := n0_; have HB := n1_; clear n0_ n1_; (try clear hb); (try clear hb2); (try clear hk); (try clear hi)))); (go_ret2); (exact ⟨rfl, eI HB⟩)
   case rest =>
    clear HC5; (try clear c1); (try clear p1); (try clear q1); (try clear hx1); (try clear qi1); (try clear p2); (try clear c3); (try clear c3b0); (try clear c3b1); (try clear c4); (try clear c4b0); (try clear c4b1); (try clear p6); (try clear c7); (try clear c8); (try clear c8b0); (try clear c8b1); (try clear c9); (try clear c9b0); (try clear c9b1); (try clear p10); (try clear q10); (try clear hx10); (try clear qi10); (try clear c11); (try clear c15); (try clear hx104_0); (try clear hx105_0); (try clear hx108_0); (try clear p104); (try clear p105); (try clear p108); (try clear q104); (try clear q105); (try clear q108); (obtain ⟨kq, x5_4, rfl, HA, HJ4, HB⟩ := hcut)
    cases kq with
    | zero => exact absurd HA.out (by simp [spec_l25ReadYear.j0])
    | succ kj4 =>
     (have H := HA.out); clear HA; (simp only [spec_l25ReadYear.j0] at H); (replace H := obS H); (obtain ⟨t111, A18, H⟩ := H); (by_cases c19 : t111 = true)
     ·subst c19
      (rw [if_pos rfl] at H); (replace H := obS H); (obtain ⟨t112, A20, H⟩ := H); (by_cases c21 : t112.toList = a0.toList); (· (rw [if_pos c21] at H); (have c21b0 : (t112.toList == a0.toList) = true := beq_iff_eq.mpr c21); (have c21b1 : (t112.toList != a0.toList) = false := bne_eq_false_iff_eq.mpr c21); clear c21; (simp only [Option.some.injEq, Prod.mk.injEq] at H); (obtain ⟨rfl, rfl⟩ := H); (go_wp2_with (first | ((with_reducible refine gate_callee (f := 29) rfl ?_); refine gL (some 41) Tryd.func29 #[.int .i64 x5_4] ?_; (with_reducible refine (spec_l9Year.calls x5_4 true _ A18.out).mono ?_); rintro e w' ⟨rfl, ⟨nd, rfl⟩⟩; refine ⟨_, rfl, ?_⟩) | (go_at_call 30; (with_reducible refine (spec_l25Year.calls kj4 x5_4 t112 _ A20.out).mono ?_); rintro e w22 ⟨rfl, hb⟩; have n0_ := Aside0.mk (sI hb HB); clear HB; have HB := n0_; clear n0_; (try clear hb); (try clear hb2); (try clear hk); (try clear hi)))); (go_ret2); (exact ⟨rfl, eI HB⟩)); (· (rw [if_neg c21] at H); (have c21b0 : (t112.toList == a0.toList) = false := beq_eq_false_iff_ne.mpr c21); (have c21b1 : (t112.toList != a0.toList) = true := bne_iff_ne.mpr c21); (simp only [Option.some.injEq, Prod.mk.injEq] at H); (obtain ⟨rfl, rfl⟩ := H); (go_wp2_with (first | ((with_reducible refine gate_callee (f := 29) rfl ?_); refine gL (some 41) Tryd.func29 #[.int .i64 x5_4] ?_; (with_reducible refine (spec_l9Year.calls x5_4 true _ A18.out).mono ?_); rintro e w' ⟨rfl, ⟨nd, rfl⟩⟩; refine ⟨_, rfl, ?_⟩) | (go_at_call 30; (with_reducible refine (spec_l25Year.calls kj4 x5_4 t112 _ A20.out).mono ?_); rintro e w23 ⟨rfl, hb⟩; have n0_ := Aside0.mk (sI hb HB); clear HB; have HB := n0_; clear n0_; (try clear hb); (try clear hb2); (try clear hk); (try clear hi)))); (go_ret2); (exact ⟨rfl, eI HB⟩))
     ·replace c19 := Bool.eq_false_iff.mpr c19
      subst c19; (rw [if_neg (show ¬ (false = true) by decide)] at H); (simp only [Option.some.injEq, Prod.mk.injEq] at H); (obtain ⟨rfl, rfl⟩ := H); (go_wp2_with (first | ((with_reducible refine gate_callee (f := 29) rfl ?_); refine gL (some 41) Tryd.func29 #[.int .i64 x5_4] ?_; (with_reducible refine (spec_l9Year.calls x5_4 false _ A18.out).mono ?_); rintro e w' ⟨rfl, ⟨nd, rfl⟩⟩; refine ⟨_, rfl, ?_⟩))); (go_ret2); (exact ⟨rfl, eI HB⟩)
  ·rw [if_neg c4] at H
   exact absurd H (by simp)
 ·rw [if_neg c3] at H
  (have c3b0 : ((t101.length : Int) == 2) = false := beq_eq_false_iff_ne.mpr c3); (have c3b1 : ((t101.length : Int) != 2) = true := bne_iff_ne.mpr c3); (simp only [Option.some.injEq, Prod.mk.injEq] at H); (obtain ⟨rfl, rfl⟩ := H); (go_enter Tryd.func49, Tryd.ntmps49); (go_wp2_with (first | ((with_reducible refine gate_callee (f := 78) rfl ?_); refine gL (some 11) Tryd.func78 #[.string a0, .int .u8 32] ?_; (with_reducible refine (spec_l1Split.calls k a0 32 t101 _ A2.out).mono ?_); rintro e w24 ⟨v102, rfl, ho0, hb⟩; refine ⟨_, rfl, ?_⟩; have n0_ := Aside0.mk (Kd.R_lower ho0 (below_size (eI HB))); have n1_ := Aside0.mk (sI hb HB); clear HB; have HO103 := n0_; have HB := n1_; clear n0_ n1_; (try clear hb); (try clear hb2); (try clear hk); (try clear hi); (try clear ho0); obtain ⟨Ao25, co25, eo25⟩ := Kd.R_slice HO103.out; subst eo25))); (go_ret2); (exact ⟨rfl, eI HB⟩)
/-! ### spec_l25Words: function 85 -/
def spec_l25Words.l0 : Nat → List ByteArray → Int → Int → ByteArray → Int → Option (ByteArray)
 | 0, _, _, _, _, _ => none
 | k + 1, x0, x1, x2, x7, x8 => if x8 < x2 then (if x8 > x1 then (if x7.size + 1 ≤ 9223372036854775807 then (if 0 ≤ x8 then (if x8 < (x0.length : Int) then (if (x7 ++ (⟨#[32]⟩ : ByteArray)).size + (rdOf ByteArray.empty x0 x8).size ≤ 9223372036854775807 then (spec_l25Words.l0 k x0 x1 x2 ((x7 ++ (⟨#[32]⟩ : ByteArray)) ++ (rdOf ByteArray.empty x0 x8)) (wrap64 (x8 + 1))) else (none)) else (none)) else (none)) else (none)) else (if 0 ≤ x8 then (if x8 < (x0.length : Int) then (if x7.size + (rdOf ByteArray.empty x0 x8).size ≤ 9223372036854775807 then (spec_l25Words.l0 k x0 x1 x2 (x7 ++ (rdOf ByteArray.empty x0 x8)) (wrap64 (x8 + 1))) else (none)) else (none)) else (none))) else (some x7)
def spec_l25Words.f (k : Nat) (l0 : List ByteArray) (a1 : Int) (a2 : Int) : Option (ByteArray) := spec_l25Words.l0 k l0 a1 a2 (⟨#[]⟩ : ByteArray) a1
set_option maxHeartbeats 8000000 in
set_option maxRecDepth 100000 in
theorem spec_l25Words.calls (k : Nat) (A0 : Option Addr) (c0 : Nat) (l0 : List ByteArray) (a1 : Int) (a2 : Int) (r : ByteArray) (w : World) (hr0 : Kd.C Kd.string w A0 l0.length l0) (hc0 : l0.length ≤ c0) (h : spec_l25Words.f k l0 a1 a2 = some r) :
  Calls Tryd.prog 85 #[.slice A0 l0.length c0, .int .i64 a1, .int .i64 a2] w fun e w' => e = .returned (.string r) ∧ Drawn0 w w' := by
 (have HR0 := Aside0.mk hr0); (have HC0 := Aside0.mk hc0); clear hr0 hc0; (unfold spec_l25Words.f at h); (have H := h); clear h; (have H' := Aside0.mk H); clear H; (go_enter Tryd.func85, Tryd.ntmps85); (go_wp2); (go_loopg [7, 8] k (fun kq v7 v8 w' => ∃ (x7_1 : ByteArray) (x8_1 : Int), v7 = .string x7_1 ∧ v8 = .int .i64 x8_1 ∧ Aside0 (spec_l25Words.l0 kq l0 a1 a2 x7_1 x8_1 = some r) ∧ Aside0 (kq ≤ k) ∧ Drawn0 w w'))
 case atStart => exact ⟨((⟨#[]⟩ : ByteArray)), (a1), (by first | rfl | (simp; done) | (simp [*]; done)), (by first | rfl | (simp; done) | (simp [*]; done)), H', ⟨Nat.le_refl _⟩, by repeat (first | exact Drawn0.refl _ | apply Drawn0.step)⟩
 case round =>
  (clear H'); (try clear p2); (obtain ⟨x7_1, x8_1, rfl, rfl, HA, HK1, ⟨m1, rfl⟩⟩ := hrel)
  cases gk with
  | zero => exact absurd HA.out (by simp [spec_l25Words.l0])
  | succ k1 =>
   (have H := HA.out); clear HA; (simp only [spec_l25Words.l0] at H); (by_cases c4 : x8_1 < a2)
   ·rw [if_pos c4] at H
    (have c4b0 := decide_eq_true c4); clear c4; (by_cases c5 : x8_1 > a1)
    ·rw [if_pos c5] at H
     (have c5b0 : decide (a1 < x8_1) = true := decide_eq_true c5); clear c5; (by_cases c6 : x7_1.size + 1 ≤ 9223372036854775807)
     ·rw [if_pos c6] at H
      (have c6b0 := eq_true c6); (have c6b1 := decide_eq_true c6); (try have c6b2 : (9223372036854775807 < x7_1.size + 1) = False := eq_false (Nat.not_lt.2 c6)); (by_cases c7 : 0 ≤ x8_1)
      ·rw [if_pos c7] at H
       (have c7b0 := decide_eq_true c7); clear c7; (by_cases c8 : x8_1 < (l0.length : Int))
       ·rw [if_pos c8] at H
        (have c8b0 := decide_eq_true c8); clear c8; (by_cases c9 : (x7_1 ++ (⟨#[32]⟩ : ByteArray)).size + (rdOf ByteArray.empty l0 x8_1).size ≤ 9223372036854775807)
        ·rw [if_pos c9] at H
         (have c9b0 := eq_true c9); (have c9b1 := decide_eq_true c9); (try have c9n0 := c9b0); (try (push_cast [Int.toNat_natCast, ByteArray.size_append, show (⟨#[32]⟩ : ByteArray).size = 1 from rfl] at c9n0)); (try have c9n1 := c9b1); (try (push_cast [Int.toNat_natCast, ByteArray.size_append, show (⟨#[32]⟩ : ByteArray).size = 1 from rfl] at c9n1)); (try have c9b2 : (9223372036854775807 < (x7_1 ++ (⟨#[32]⟩ : ByteArray)).size + (rdOf ByteArray.empty l0 x8_1).size) = False := eq_false (Nat.not_lt.2 c9)); (try have c9b3 := c9b2); (try simp only [ByteArray.size_append, show (⟨#[32]⟩ : ByteArray).size = 1 from rfl] at c9b3); (have H' := Aside0.mk H); clear H; (have p101 : 0 ≤ (x8_1 : Int) := odt); (have q101 : x8_1 < (l0.length : Int) := odt); (obtain ⟨ad101, e101, hx101_0⟩ := Kd.at_string HR0.out x8_1 p101 q101); (cases e101); (replace p101 := eq_true p101); (replace q101 := eq_true q101); (go_wp2); go_roundg k1
         case measure => have := HK1.out; omega
         case rel => exact ⟨((x7_1 ++ (⟨#[32]⟩ : ByteArray)) ++ (rdOf ByteArray.empty l0 x8_1)), (wrap64 (x8_1 + 1)), (by first | rfl | (simp; done) | (simp [*]; done)), (by first | rfl | (simp; done) | (simp [*]; done)), H', ⟨by have := HK1.out; omega⟩, by repeat (first | exact Drawn0.refl _ | apply Drawn0.step)⟩
        ·rw [if_neg c9] at H
         exact absurd H (by simp)
       ·rw [if_neg c8] at H
        exact absurd H (by simp)
      ·rw [if_neg c7] at H
       exact absurd H (by simp)
     ·rw [if_neg c6] at H
      exact absurd H (by simp)
    ·rw [if_neg c5] at H
     (have c5b0 : decide (a1 < x8_1) = false := decide_eq_false c5); clear c5; (by_cases c10 : 0 ≤ x8_1)
     ·rw [if_pos c10] at H
      (have c10b0 := decide_eq_true c10); clear c10; (by_cases c11 : x8_1 < (l0.length : Int))
      ·rw [if_pos c11] at H
       (have c11b0 := decide_eq_true c11); clear c11; (by_cases c12 : x7_1.size + (rdOf ByteArray.empty l0 x8_1).size ≤ 9223372036854775807)
       ·rw [if_pos c12] at H
        (have c12b0 := eq_true c12); (have c12b1 := decide_eq_true c12); (try have c12b2 : (9223372036854775807 < x7_1.size + (rdOf ByteArray.empty l0 x8_1).size) = False := eq_false (Nat.not_lt.2 c12)); (have H' := Aside0.mk H); clear H; (have p102 : 0 ≤ (x8_1 : Int) := odt); (have q102 : x8_1 < (l0.length : Int) := odt); (obtain ⟨ad102, e102, hx102_0⟩ := Kd.at_string HR0.out x8_1 p102 q102); (cases e102); (replace p102 := eq_true p102); (replace q102 := eq_true q102); (go_wp2); go_roundg k1
        case measure => have := HK1.out; omega
        case rel => exact ⟨(x7_1 ++ (rdOf ByteArray.empty l0 x8_1)), (wrap64 (x8_1 + 1)), (by first | rfl | (simp; done) | (simp [*]; done)), (by first | rfl | (simp; done) | (simp [*]; done)), H', ⟨by have := HK1.out; omega⟩, by repeat (first | exact Drawn0.refl _ | apply Drawn0.step)⟩
       ·rw [if_neg c12] at H
        exact absurd H (by simp)
      ·rw [if_neg c11] at H
       exact absurd H (by simp)
     ·rw [if_neg c10] at H
      exact absurd H (by simp)
   ·rw [if_neg c4] at H
    (have c4b0 := decide_eq_false c4); clear c4; (obtain rfl := Option.some.inj H); (go_wp2); go_ret; (exact ⟨by first | rfl | (simp; done) | (simp [*]; done), by repeat (first | exact Drawn0.refl _ | apply Drawn0.step)⟩)
/-! ### spec_l25ReadInterval: function 59 -/
def spec_l25ReadInterval.j0 : Nat → ByteArray → Bool → Bool → Int → Int → Option (Int × Int × Bool)
 | 0, _, _, _, _, _ => none
 | k + 1, x0, x6, x7, x106000, x106001 => if x6 = true then (if x7 = true then ((spec_l9Interval.f x106000 x106001).bind fun t115 => (if t115 = true then ((spec_l25Interval.f k x106000 x106001).bind fun t116 => (if t116.toList = x0.toList then (some (x106000, x106001, true)) else (some (0, 0, false)))) else (some (0, 0, false)))) else (some (0, 0, false))) else (some (0, 0, false))
def spec_l25ReadInterval.f (k : Nat) (a0 : ByteArray) : Option (Int × Int × Bool) := (spec_l1Split.f k a0 32).bind fun t102 => (if (t102.length : Int) = 3 then ((spec_l25Words.f k t102 1 3).bind fun t106 => ((spec_l25ReadYear.f k t106).bind fun bt107 => (spec_l25ReadInterval.j0 k a0 bt107.2 bt107.2 bt107.1 bt107.1))) else (if (t102.length : Int) = 6 then ((spec_l25Words.f k t102 1 3).bind fun t109 => ((spec_l25ReadYear.f k t109).bind fun bt110 => ((spec_l25Words.f k t102 4 6).bind fun t112 => ((spec_l25ReadYear.f k t112).bind fun bt113 => (spec_l25ReadInterval.j0 k a0 bt110.2 bt113.2 bt110.1 bt113.1))))) else (spec_l25ReadInterval.j0 k a0 false false 0 0)))
set_option maxHeartbeats 8000000 in
set_option maxRecDepth 100000 in
theorem spec_l25ReadInterval.calls (k : Nat) (a0 : ByteArray) (r1 : Int) (r2 : Int) (r3 : Bool) (w : World) (h : spec_l25ReadInterval.f k a0 = some (r1, r2, r3)) :
  Calls Tryd.prog 59 #[.string a0] w fun e w' => e = .returned (.tuple #[.agg #[.int .i64 r1, .int .i64 r2], .bool r3]) ∧ Below w.heap.size w w' := by
 (have hu28 := Tryd.underlying28); (have HB := Aside0.mk (Below.refl w.heap.size w)); (unfold spec_l25ReadInterval.f at h); (have H := h); clear h; (replace H := obS H); (obtain ⟨t102, A2, H⟩ := H); (have HC3 := Aside0.mk H); clear H; (go_enter Tryd.func59, Tryd.ntmps59); (go_upto_block 0 with (first | ((with_reducible refine gate_dst (N := 2) rfl ?_); refine box_event ?hg (N := 2) ?hd (cs := #[.int .i64 0, .int .i64 0]) (t := 28) ?hr ?_; (case hd => rfl); (case hg => rfl); (case hr => first | (go_simp; done) | (go_simp; rfl)); intro gb101 hg w4 hbox hb; have n0_ := Aside0.mk (sI hb HB); have n1_ := Aside0.mk (hbox); have n2_ := Aside0.mk (bx0 hg (eI HB)); have n3_ := Aside0.mk (bx0 hg (eI HB)); clear HB; have HB := n0_; have BK101 := n1_; have GW101 := n2_; have GE101 := n3_; clear n0_ n1_ n2_ n3_ hb hbox hg) | ((with_reducible refine gate_callee (f := 78) rfl ?_); refine gL (some 15) Tryd.func78 #[.string a0, .int .u8 32] ?_; (with_reducible refine (spec_l1Split.calls k a0 32 t102 _ A2.out).mono ?_); rintro e w5 ⟨v103, rfl, ho0, hb⟩; refine ⟨_, rfl, ?_⟩; have n0_ := Aside0.mk (Kd.R_lower ho0 (below_size (eI HB))); have n1_ := Aside0.mk (kbI hb BK101); have n2_ := Aside0.mk (sI hb HB); clear BK101 HB; have HO104 := n0_; have BK101 := n1_; have HB := n2_; clear n0_ n1_ n2_; (try clear hb); (try clear hb2); (try clear hk); (try clear hi); (try clear ho0)) | ((with_reducible refine gate_dst (N := 5) rfl ?_); refine box_event ?hg (N := 5) ?hd (cs := #[.int .i64 0, .int .i64 0]) (t := 28) ?hr ?_; (case hd => rfl); (case hg => rfl); (case hr => first | (go_simp; done) | (go_simp; rfl)); intro gb105 hg w6 hbox hb; have n0_ := Aside0.mk (rbI hb HO104); have n1_ := Aside0.mk (kbI hb BK101); have n2_ := Aside0.mk (sI hb HB); have n3_ := Aside0.mk (hbox); have n4_ := Aside0.mk (bx0 hg (eI HB)); have n5_ := Aside0.mk (bx0 hg (eI HB)); have n6_ := Aside0.mk ((by rw [hg]; exact Nat.ne_of_lt (blk_lt (kI BK101)) : gb101 ≠ gb105)); have n7_ := Aside0.mk ((by rw [hg]; exact Nat.ne_of_gt (blk_lt (kI BK101)) : gb105 ≠ gb101)); clear HO104 BK101 HB; have HO104 := n0_; have BK101 := n1_; have HB := n2_; have BK105 := n3_; have GW105 := n4_; have GE105 := n5_; have NB101_105 := n6_; have NB105_101 := n7_; clear n0_ n1_ n2_ n3_ n4_ n5_ n6_ n7_ hb hbox hg; have hnb7 := NB105_101.out; have hnc7 := NB101_105.out; have hcz8_0 := cz BK105.out 0; have hcz8_1 := cz BK105.out 1; have hfz8_0 := blk_frozen BK105.out 0; have hfz8_1 := blk_frozen BK105.out 1; obtain ⟨Ao9, co9, eo9⟩ := Kd.R_slice HO104.out; subst eo9))); ((try simp only [Act.put, aS1, aS2, aS3]))
 go_cut [6, 7] (fun v6 v7 wc => ∃ (kq : Nat) (x6_2 : Bool) (x7_2 : Bool) (x106000_2 : Int) (x106001_2 : Int), v6 = .bool x6_2 ∧ v7 = .bool x7_2 ∧ Aside0 (spec_l25ReadInterval.j0 kq a0 x6_2 x7_2 x106000_2 x106001_2 = some (r1, r2, r3)) ∧ Aside0 (kq ≤ k) ∧ Aside0 (wc.heap[gb101]? = some (.cells #[.int .i64 0, .int .i64 0] 28 (0, 0))) ∧ Aside0 (wc.heap[gb105]? = some (.cells #[.int .i64 x106000_2, .int .i64 x106001_2] 28 (0, 0))) ∧ Aside0 (Below w.heap.size w wc))
 case first =>
  (have H := HC3.out); clear HC3; (by_cases c10 : (t102.length : Int) = 3)
  ·rw [if_pos c10] at H
   (have c10b0 : ((t102.length : Int) == 3) = true := beq_iff_eq.mpr c10); (have c10b1 : ((t102.length : Int) != 3) = false := bne_eq_false_iff_eq.mpr c10); clear c10; ((first | rw [c10b0] | (simp only [i64_w, i32_w]; rw [c10b0]) | skip)); (replace H := Option.bind_eq_some_iff.mp H); (obtain ⟨t106, A110, H⟩ := H); (have A11 := Aside0.mk A110); clear A110; (replace H := Option.bind_eq_some_iff.mp H); (obtain ⟨⟨t107, t108⟩, A120, H⟩ := H); (replace H : (spec_l25ReadInterval.j0 k a0 t108 t108 t107 t107) = some (r1, r2, r3) := H); (have A12 := Aside0.mk A120); clear A120; (have H' := Aside0.mk H); clear H; (go_wp2_with (first | ((with_reducible refine gate_callee (f := 85) rfl ?_); refine gL (some 23) Tryd.func85 #[.slice Ao9 t102.length co9, .int .i64 1, .int .i64 3] ?_; (with_reducible refine (spec_l25Words.calls k _ _ t102 1 3 t106 _ ?side1 ?side2 A11.out).mono ?_); (case side1 => refine (Kd.R_reads' (e := 9) (base := w.heap.size) (ok := fun k_ => True) (n := t102.length) (c := co9) ?_).2.2; exact (by (with_reducible repeat (first | apply rA | apply rN | apply rD)); exact (Kd.R_mono (Kd.R_far (p := ⟨gb105, 1, none⟩) (Kd.R_far (p := ⟨gb105, 0, none⟩) (Kd.R_types HO104.out BK105.out (by decide)) (fun _ hk => hk.2) (.int .i64 0)) (fun _ hk => hk.2) (.int .i64 0)) (fun _ h_ => h_.1)))); (case side2 => exact (Kd.R_reads' HO104.out).2.1); rintro e w' ⟨rfl, ⟨nd, rfl⟩⟩; refine ⟨_, rfl, ?_⟩) | ((with_reducible refine gate_callee (f := 49) rfl ?_); refine gL (some 24) Tryd.func49 #[.string t106] ?_; (with_reducible refine (spec_l25ReadYear.calls k t106 t107 t108 _ A12.out).mono ?_); rintro e w13 ⟨rfl, hb⟩; refine ⟨_, rfl, ?_⟩; have n0_ := Aside0.mk (Kd.R_below (by (with_reducible repeat (first | apply rA | apply rN | apply rD)); exact (Kd.R_mono (Kd.R_far (p := ⟨gb105, 1, none⟩) (Kd.R_far (p := ⟨gb105, 0, none⟩) (Kd.R_types HO104.out BK105.out (by decide)) (fun _ hk => hk.2) (.int .i64 0)) (fun _ hk => hk.2) (.int .i64 0)) (fun _ h_ => h_.1))) hb); have n1_ := Aside0.mk (blk_below (g := gb101) (o := .cells #[.int .i64 0, .int .i64 0] 28 (0, 0)) (by (with_reducible repeat (first | refine kN ?_ _ | refine kD ?_ | refine kA ?_ _)); refine blk_far ?_ NB101_105.out _; (with_reducible repeat (first | refine kN ?_ _ | refine kD ?_ | refine kA ?_ _)); refine blk_far ?_ NB101_105.out _; (with_reducible repeat (first | refine kN ?_ _ | refine kD ?_ | refine kA ?_ _)); exact BK101.out) hb); have n2_ := Aside0.mk (blk_below (g := gb105) (o := .cells #[.int .i64 0, .int .i64 0] 28 (0, 0)) (by (with_reducible repeat (first | refine kN ?_ _ | refine kD ?_ | refine kA ?_ _)); refine blk_put (cs := #[.int .i64 0, .int .i64 0]) ?_ 1 _ rfl; (with_reducible repeat (first | refine kN ?_ _ | refine kD ?_ | refine kA ?_ _)); refine blk_put (cs := #[.int .i64 0, .int .i64 0]) ?_ 0 _ rfl; (with_reducible repeat (first | refine kN ?_ _ | refine kD ?_ | refine kA ?_ _)); exact BK105.out) hb); have n3_ := Aside0.mk (below_step (by repeat (first | (with_reducible first | exact HB.out | apply bA | apply bN | apply bD | refine below_set ?_ GE101.out | refine below_set ?_ GE105.out) | exact HB.out)) hb); clear HO104 BK101 BK105 HB; have HO104 := n0_; have BK101 := n1_; have BK105 := n2_; have HB := n3_; clear n0_ n1_ n2_ n3_; (try clear hb); (try clear hb2); (try clear hk); (try clear hi); have hnb14 := NB105_101.out; have hnc14 := NB101_105.out; have hcz15_0 := cz BK105.out 0; have hcz15_1 := cz BK105.out 1; have hfz15_0 := blk_frozen BK105.out 0; have hfz15_1 := blk_frozen BK105.out 1))); (go_meet)
   case rel => exact ⟨_, (t108), (t108), (t107), (t107), (by first | rfl | (simp; done) | (simp [*]; done)), (by first | rfl | (simp; done) | (simp [*]; done)), H', ⟨by first | omega | exact Nat.le_refl _⟩, ⟨by (with_reducible repeat (first | refine kN ?_ _ | refine kD ?_ | refine kA ?_ _)); refine blk_far ?_ NB101_105.out _; (with_reducible repeat (first | refine kN ?_ _ | refine kD ?_ | refine kA ?_ _)); refine blk_far ?_ NB101_105.out _; (with_reducible repeat (first | refine kN ?_ _ | refine kD ?_ | refine kA ?_ _)); exact BK101.out⟩, ⟨by (with_reducible repeat (first | refine kN ?_ _ | refine kD ?_ | refine kA ?_ _)); refine blk_put (cs := #[.int .i64 t107, .int .i64 0]) ?_ 1 _ rfl; (with_reducible repeat (first | refine kN ?_ _ | refine kD ?_ | refine kA ?_ _)); refine blk_put (cs := #[.int .i64 0, .int .i64 0]) ?_ 0 _ rfl; (with_reducible repeat (first | refine kN ?_ _ | refine kD ?_ | refine kA ?_ _)); exact BK105.out⟩, ⟨by repeat (first | (with_reducible first | exact HB.out | apply bA | apply bN | apply bD | refine below_set ?_ GE101.out | refine below_set ?_ GE105.out) | exact HB.out)⟩⟩
  ·rw [if_neg c10] at H
   (have c10b0 : ((t102.length : Int) == 3) = false := beq_eq_false_iff_ne.mpr c10); (have c10b1 : ((t102.length : Int) != 3) = true := bne_iff_ne.mpr c10); ((first | rw [c10b0] | (simp only [i64_w, i32_w]; rw [c10b0]) | skip)); (by_cases c16 : (t102.length : Int) = 6)
   ·rw [if_pos c16] at H
    (have c16b0 : ((t102.length : Int) == 6) = true := beq_iff_eq.mpr c16); (have c16b1 : ((t102.length : Int) != 6) = false := bne_eq_false_iff_eq.mpr c16); clear c16; (replace H := Option.bind_eq_some_iff.mp H); (obtain ⟨t109, A170, H⟩ := H); (have A17 := Aside0.mk A170); clear A170; (replace H := Option.bind_eq_some_iff.mp H); (obtain ⟨⟨t110, t111⟩, A180, H⟩ := H); (replace H : ((spec_l25Words.f k t102 4 6).bind fun t112 => ((spec_l25ReadYear.f k t112).bind fun bt113 => (spec_l25ReadInterval.j0 k a0 t111 bt113.2 t110 bt113.1))) = some (r1, r2, r3) := H); (have A18 := Aside0.mk A180); clear A180; (replace H := Option.bind_eq_some_iff.mp H); (obtain ⟨t112, A190, H⟩ := H); (have A19 := Aside0.mk A190); clear A190; (replace H := Option.bind_eq_some_iff.mp H); (obtain ⟨⟨t113, t114⟩, A200, H⟩ := H); (replace H : (spec_l25ReadInterval.j0 k a0 t111 t114 t110 t113) = some (r1, r2, r3) := H); (have A20 := Aside0.mk A200); clear A200; (have H' := Aside0.mk H); clear H
    go_wp2_with (first | ((with_reducible refine gate_callee (f := 85) rfl ?_); refine gL (some 36) Tryd.func85 #[.slice Ao9 t102.length co9, .int .i64 1, .int .i64 3] ?_; (with_reducible refine (spec_l25Words.calls k _ _ t102 1 3 t109 _ ?side1 ?side2 A17.out).mono ?_); (case side1 => refine (Kd.R_reads' (e := 9) (base := w.heap.size) (ok := fun k_ => True) (n := t102.length) (c := co9) ?_).2.2; exact (by (with_reducible repeat (first | apply rA | apply rN | apply rD)); exact (Kd.R_mono (Kd.R_far (p := ⟨gb105, 1, none⟩) (Kd.R_far (p := ⟨gb105, 0, none⟩) (Kd.R_types HO104.out BK105.out (by decide)) (fun _ hk => hk.2) (.int .i64 0)) (fun _ hk => hk.2) (.int .i64 0)) (fun _ h_ => h_.1)))); (case side2 => exact (Kd.R_reads' HO104.out).2.1); rintro e w' ⟨rfl, ⟨nd, rfl⟩⟩; refine ⟨_, rfl, ?_⟩) | ((with_reducible refine gate_callee (f := 49) rfl ?_); refine gL (some 37) Tryd.func49 #[.string t109] ?_; (with_reducible refine (spec_l25ReadYear.calls k t109 t110 t111 _ A18.out).mono ?_); rintro e w21 ⟨rfl, hb⟩; refine ⟨_, rfl, ?_⟩; have n0_ := Aside0.mk (Kd.R_below (by (with_reducible repeat (first | apply rA | apply rN | apply rD)); exact (Kd.R_mono (Kd.R_far (p := ⟨gb105, 1, none⟩) (Kd.R_far (p := ⟨gb105, 0, none⟩) (Kd.R_types HO104.out BK105.out (by decide)) (fun _ hk => hk.2) (.int .i64 0)) (fun _ hk => hk.2) (.int .i64 0)) (fun _ h_ => h_.1))) hb); have n1_ := Aside0.mk (blk_below (g := gb101) (o := .cells #[.int .i64 0, .int .i64 0] 28 (0, 0)) (by (with_reducible repeat (first | refine kN ?_ _ | refine kD ?_ | refine kA ?_ _)); refine blk_far ?_ NB101_105.out _; (with_reducible repeat (first | refine kN ?_ _ | refine kD ?_ | refine kA ?_ _)); refine blk_far ?_ NB101_105.out _; (with_reducible repeat (first | refine kN ?_ _ | refine kD ?_ | refine kA ?_ _)); exact BK101.out) hb); have n2_ := Aside0.mk (blk_below (g := gb105) (o := .cells #[.int .i64 0, .int .i64 0] 28 (0, 0)) (by (with_reducible repeat (first | refine kN ?_ _ | refine kD ?_ | refine kA ?_ _)); refine blk_put (cs := #[.int .i64 0, .int .i64 0]) ?_ 1 _ rfl; (with_reducible repeat (first | refine kN ?_ _ | refine kD ?_ | refine kA ?_ _)); refine blk_put (cs := #[.int .i64 0, .int .i64 0]) ?_ 0 _ rfl; (with_reducible repeat (first | refine kN ?_ _ | refine kD ?_ | refine kA ?_ _)); exact BK105.out) hb); have n3_ := Aside0.mk (below_step (by repeat (first | (with_reducible first | exact HB.out | apply bA | apply bN | apply bD | refine below_set ?_ GE101.out | refine below_set ?_ GE105.out) | exact HB.out)) hb); clear HO104 BK101 BK105 HB; have HO104 := n0_; have BK101 := n1_; have BK105 := n2_; have HB := n3_; clear n0_ n1_ n2_ n3_; (try clear hb); (try clear hb2); (try clear hk); (try clear hi)) | ((with_reducible refine gate_callee (f := 85) rfl ?_); refine gL (some 42) Tryd.func85 #[.slice Ao9 t102.length co9, .int .i64 4, .int .i64 6] ?_; (with_reducible refine (spec_l25Words.calls k _ _ t102 4 6 t112 _ ?side1 ?side2 A19.out).mono ?_); (case side1 => repeat (first | exact (Kd.R_reads' HO104.out).2.2 | (with_reducible first | refine cA ?_ _ | refine cN ?_ _ | refine cD ?_))); (case side2 => exact (Kd.R_reads' HO104.out).2.1); rintro e w' ⟨rfl, ⟨nd, rfl⟩⟩; refine ⟨_, rfl, ?_⟩; (try (rw [drewN_self w21]; generalize hq_ : World.drewN w21 _ = w21; have n0_ : Aside0 (Kd.R Kd.string 9 w21 w.heap.size (fun _ => True) (.slice Ao9 t102.length co9) t102) := ⟨by rw [← hq_]; exact (rI HO104)⟩; have n1_ : Aside0 (w21.heap[gb101]? = some (.cells #[.int .i64 0, .int .i64 0] 28 (0, 0))) := ⟨by rw [← hq_]; exact (kI BK101)⟩; have n2_ : Aside0 (w21.heap[gb105]? = some (.cells #[.int .i64 0, .int .i64 0] 28 (0, 0))) := ⟨by rw [← hq_]; exact (kI BK105)⟩; have n3_ : Aside0 (Below w.heap.size w w21) := ⟨by rw [← hq_]; exact (eI HB)⟩; clear HO104 BK101 BK105 HB hq_; have HO104 := n0_; have BK101 := n1_; have BK105 := n2_; have HB := n3_; clear n0_ n1_ n2_ n3_))) | ((with_reducible refine gate_callee (f := 49) rfl ?_); refine gL (some 43) Tryd.func49 #[.string t112] ?_; (with_reducible refine (spec_l25ReadYear.calls k t112 t113 t114 _ A20.out).mono ?_); rintro e w22 ⟨rfl, hb⟩; refine ⟨_, rfl, ?_⟩; have n0_ := Aside0.mk (Kd.R_below (rI HO104) hb); have n1_ := Aside0.mk (blk_below (kI BK101) hb); have n2_ := Aside0.mk (blk_below (kI BK105) hb); have n3_ := Aside0.mk (below_step (eI HB) hb); clear HO104 BK101 BK105 HB; have HO104 := n0_; have BK101 := n1_; have BK105 := n2_; have HB := n3_; clear n0_ n1_ n2_ n3_; (try clear hb); (try clear hb2); (try clear hk); (try clear hi); have hnb23 := NB105_101.out; have hnc23 := NB101_105.out; have hcz24_0 := cz BK105.out 0; have hcz24_1 := cz BK105.out 1; have hfz24_0 := blk_frozen BK105.out 0; have hfz24_1 := blk_frozen BK105.out 1))
    go_meet
    case rel => exact ⟨_, (t111), (t114), (t110), (t113), (by first | rfl | (simp; done) | (simp [*]; done)), (by first | rfl | (simp; done) | (simp [*]; done)), H', ⟨by first | omega | exact Nat.le_refl _⟩, ⟨by (with_reducible repeat (first | refine kN ?_ _ | refine kD ?_ | refine kA ?_ _)); refine blk_far ?_ NB101_105.out _; (with_reducible repeat (first | refine kN ?_ _ | refine kD ?_ | refine kA ?_ _)); refine blk_far ?_ NB101_105.out _; (with_reducible repeat (first | refine kN ?_ _ | refine kD ?_ | refine kA ?_ _)); exact BK101.out⟩, ⟨by (with_reducible repeat (first | refine kN ?_ _ | refine kD ?_ | refine kA ?_ _)); refine blk_put (cs := #[.int .i64 t110, .int .i64 0]) ?_ 1 _ rfl; (with_reducible repeat (first | refine kN ?_ _ | refine kD ?_ | refine kA ?_ _)); refine blk_put (cs := #[.int .i64 0, .int .i64 0]) ?_ 0 _ rfl; (with_reducible repeat (first | refine kN ?_ _ | refine kD ?_ | refine kA ?_ _)); exact BK105.out⟩, ⟨by repeat (first | (with_reducible first | exact HB.out | apply bA | apply bN | apply bD | refine below_set ?_ GE101.out | refine below_set ?_ GE105.out) | exact HB.out)⟩⟩
   ·rw [if_neg c16] at H
    (have c16b0 : ((t102.length : Int) == 6) = false := beq_eq_false_iff_ne.mpr c16); (have c16b1 : ((t102.length : Int) != 6) = true := bne_iff_ne.mpr c16); (have H' := Aside0.mk H); clear H; (go_wp2); (go_meet)
    case rel => exact ⟨_, (false), (false), (0), (0), (by first | rfl | (simp; done) | (simp [*]; done)), (by first | rfl | (simp; done) | (simp [*]; done)), H', ⟨by first | omega | exact Nat.le_refl _⟩, ⟨by (with_reducible repeat (first | refine kN ?_ _ | refine kD ?_ | refine kA ?_ _)); refine blk_far ?_ NB101_105.out _; (with_reducible repeat (first | refine kN ?_ _ | refine kD ?_ | refine kA ?_ _)); refine blk_far ?_ NB101_105.out _; (with_reducible repeat (first | refine kN ?_ _ | refine kD ?_ | refine kA ?_ _)); exact BK101.out⟩, ⟨by (with_reducible repeat (first | refine kN ?_ _ | refine kD ?_ | refine kA ?_ _)); refine blk_put (cs := #[.int .i64 0, .int .i64 0]) ?_ 1 _ rfl; (with_reducible repeat (first | refine kN ?_ _ | refine kD ?_ | refine kA ?_ _)); refine blk_put (cs := #[.int .i64 0, .int .i64 0]) ?_ 0 _ rfl; (with_reducible repeat (first | refine kN ?_ _ | refine kD ?_ | refine kA ?_ _)); exact BK105.out⟩, ⟨by repeat (first | (with_reducible first | exact HB.out | apply bA | apply bN | apply bD | refine below_set ?_ GE101.out | refine below_set ?_ GE105.out) | exact HB.out)⟩⟩
 case rest =>
  clear HC3; (try clear c1); (try clear c2); (try clear p2); (try clear c4); (try clear c5); (try clear c7); (try clear c8); (try clear c10); (try clear c10b0); (try clear c10b1); (try clear c14); (try clear c16); (try clear c16b0); (try clear c16b1); (try clear c23); (try clear hcz15_0); (try clear hcz15_1); (try clear hcz24_0); (try clear hcz24_1); (try clear hcz8_0); (try clear hcz8_1); (try clear hfz15_0); (try clear hfz15_1); (try clear hfz24_0); (try clear hfz24_1); (try clear hfz8_0); (try clear hfz8_1); (obtain ⟨kq, x6_2, x7_2, x106000_2, x106001_2, rfl, rfl, HA, HJ2, BK101, BK105, HB⟩ := hcut)
  cases kq with
  | zero => exact absurd HA.out (by simp [spec_l25ReadInterval.j0])
  | succ kj2 =>
   (have H := HA.out); clear HA; (simp only [spec_l25ReadInterval.j0] at H); (by_cases c25 : x6_2 = true)
   ·subst c25
    (rw [if_pos rfl] at H); (by_cases c26 : x7_2 = true)
    ·subst c26
     (rw [if_pos rfl] at H); (replace H := obS H); (obtain ⟨t115, A27, H⟩ := H); (by_cases c28 : t115 = true)
     ·subst c28
      (rw [if_pos rfl] at H); (replace H := obS H); (obtain ⟨t116, A29, H⟩ := H); (by_cases c30 : t116.toList = a0.toList)
      ·rw [if_pos c30] at H
       (have c30b0 : (t116.toList == a0.toList) = true := beq_iff_eq.mpr c30); (have c30b1 : (t116.toList != a0.toList) = false := bne_eq_false_iff_eq.mpr c30); clear c30; (simp only [Option.some.injEq, Prod.mk.injEq] at H); (obtain ⟨rfl, rfl, rfl⟩ := H); (have hnb31 := NB105_101.out); (have hnc31 := NB101_105.out); (have hcz32_0 := cz BK105.out 0); (have hcz32_1 := cz BK105.out 1); (have hfz32_0 := blk_frozen BK105.out 0); (have hfz32_1 := blk_frozen BK105.out 1); (go_wp2_with (first | (go_at_call 33; (with_reducible refine (spec_l9Interval.calls x106000_2 x106001_2 true _ A27.out).mono ?_); rintro e w33 ⟨rfl, hb⟩; have n0_ := Aside0.mk (kbI hb BK101); have n1_ := Aside0.mk (kbI hb BK105); have n2_ := Aside0.mk (sI hb HB); clear BK101 BK105 HB; have BK101 := n0_; have BK105 := n1_; have HB := n2_; clear n0_ n1_ n2_; (try clear hb); (try clear hb2); (try clear hk); (try clear hi); have hcz34_0 := cz BK105.out 0; have hcz34_1 := cz BK105.out 1; have hfz34_0 := blk_frozen BK105.out 0; have hfz34_1 := blk_frozen BK105.out 1) | (go_at_call 34; (with_reducible refine (spec_l25Interval.calls kj2 x106000_2 x106001_2 t116 _ A29.out).mono ?_); rintro e w35 ⟨rfl, hb⟩; have n0_ := Aside0.mk (kbI hb BK101); have n1_ := Aside0.mk (kbI hb BK105); have n2_ := Aside0.mk (sI hb HB); clear BK101 BK105 HB; have BK101 := n0_; have BK105 := n1_; have HB := n2_; clear n0_ n1_ n2_; (try clear hb); (try clear hb2); (try clear hk); (try clear hi); have hcz36_0 := cz BK105.out 0; have hcz36_1 := cz BK105.out 1; have hfz36_0 := blk_frozen BK105.out 0; have hfz36_1 := blk_frozen BK105.out 1; have hcz37_0 := cz BK101.out 0; have hcz37_1 := cz BK101.out 1; have hfz37_0 := blk_frozen BK101.out 0; have hfz37_1 := blk_frozen BK101.out 1))); (refine bodyPost_ret (results_ct rfl _ _ gb101 28 #[.int .i64 x106000_2, .int .i64 x106001_2] (0, 0) _ rfl (by (with_reducible repeat (first | refine kN ?_ _ | refine kD ?_ | refine kA ?_ _)); refine blk_put (cs := #[.int .i64 x106000_2, .int .i64 0]) ?_ 1 _ rfl; (with_reducible repeat (first | refine kN ?_ _ | refine kD ?_ | refine kA ?_ _)); refine blk_put (cs := #[.int .i64 0, .int .i64 0]) ?_ 0 _ rfl; (with_reducible repeat (first | refine kN ?_ _ | refine kD ?_ | refine kA ?_ _)); exact BK101.out) Tryd.underlying28 rfl (by kernel_rfl)) rfl ?_); (exact ⟨by first | rfl | (simp [errW_none, errW_some] <;> rfl) | (simp [*, errW_none, errW_some] <;> rfl), by repeat (first | (with_reducible first | exact HB.out | apply bA | apply bN | apply bD | refine below_set ?_ GE101.out | refine below_set ?_ GE105.out) | exact HB.out)⟩)
      ·rw [if_neg c30] at H
       (have c30b0 : (t116.toList == a0.toList) = false := beq_eq_false_iff_ne.mpr c30); (have c30b1 : (t116.toList != a0.toList) = true := bne_iff_ne.mpr c30); (simp only [Option.some.injEq, Prod.mk.injEq] at H); (obtain ⟨rfl, rfl, rfl⟩ := H); (have hnb38 := NB105_101.out); (have hnc38 := NB101_105.out); (have hcz39_0 := cz BK105.out 0); (have hcz39_1 := cz BK105.out 1); (have hfz39_0 := blk_frozen BK105.out 0); (have hfz39_1 := blk_frozen BK105.out 1); (go_wp2_with (first | (go_at_call 33; (with_reducible refine (spec_l9Interval.calls x106000_2 x106001_2 true _ A27.out).mono ?_); rintro e w40 ⟨rfl, hb⟩; have n0_ := Aside0.mk (kbI hb BK101); have n1_ := Aside0.mk (kbI hb BK105); have n2_ := Aside0.mk (sI hb HB); clear BK101 BK105 HB; have BK101 := n0_; have BK105 := n1_; have HB := n2_; clear n0_ n1_ n2_; (try clear hb); (try clear hb2); (try clear hk); (try clear hi); have hcz41_0 := cz BK105.out 0; have hcz41_1 := cz BK105.out 1; have hfz41_0 := blk_frozen BK105.out 0; have hfz41_1 := blk_frozen BK105.out 1) | (go_at_call 34; (with_reducible refine (spec_l25Interval.calls kj2 x106000_2 x106001_2 t116 _ A29.out).mono ?_); rintro e w42 ⟨rfl, hb⟩; have n0_ := Aside0.mk (kbI hb BK101); have n1_ := Aside0.mk (kbI hb BK105); have n2_ := Aside0.mk (sI hb HB); clear BK101 BK105 HB; have BK101 := n0_; have BK105 := n1_; have HB := n2_; clear n0_ n1_ n2_; (try clear hb); (try clear hb2); (try clear hk); (try clear hi); have hcz43_0 := cz BK101.out 0; have hcz43_1 := cz BK101.out 1; have hfz43_0 := blk_frozen BK101.out 0; have hfz43_1 := blk_frozen BK101.out 1))); (refine bodyPost_ret (results_ct rfl _ _ gb101 28 #[.int .i64 0, .int .i64 0] (0, 0) _ rfl (by (with_reducible repeat (first | refine kN ?_ _ | refine kD ?_ | refine kA ?_ _)); refine blk_put (cs := #[.int .i64 0, .int .i64 0]) ?_ 1 _ rfl; (with_reducible repeat (first | refine kN ?_ _ | refine kD ?_ | refine kA ?_ _)); refine blk_put (cs := #[.int .i64 0, .int .i64 0]) ?_ 0 _ rfl; (with_reducible repeat (first | refine kN ?_ _ | refine kD ?_ | refine kA ?_ _)); exact BK101.out) Tryd.underlying28 rfl (by kernel_rfl)) rfl ?_); (exact ⟨by first | rfl | (simp [errW_none, errW_some] <;> rfl) | (simp [*, errW_none, errW_some] <;> rfl), by repeat (first | (with_reducible first | exact HB.out | apply bA | apply bN | apply bD | refine below_set ?_ GE101.out | refine below_set ?_ GE105.out) | exact HB.out)⟩)
     ·replace c28 := Bool.eq_false_iff.mpr c28
      subst c28; (rw [if_neg (show ¬ (false = true) by decide)] at H); (simp only [Option.some.injEq, Prod.mk.injEq] at H); (obtain ⟨rfl, rfl, rfl⟩ := H); (have hnb44 := NB105_101.out); (have hnc44 := NB101_105.out); (have hcz45_0 := cz BK105.out 0); (have hcz45_1 := cz BK105.out 1); (have hfz45_0 := blk_frozen BK105.out 0); (have hfz45_1 := blk_frozen BK105.out 1); (go_wp2_with (first | (go_at_call 33; (with_reducible refine (spec_l9Interval.calls x106000_2 x106001_2 false _ A27.out).mono ?_); rintro e w46 ⟨rfl, hb⟩; have n0_ := Aside0.mk (kbI hb BK101); have n1_ := Aside0.mk (kbI hb BK105); have n2_ := Aside0.mk (sI hb HB); clear BK101 BK105 HB; have BK101 := n0_; have BK105 := n1_; have HB := n2_; clear n0_ n1_ n2_; (try clear hb); (try clear hb2); (try clear hk); (try clear hi); have hcz47_0 := cz BK101.out 0; have hcz47_1 := cz BK101.out 1; have hfz47_0 := blk_frozen BK101.out 0; have hfz47_1 := blk_frozen BK101.out 1))); (refine bodyPost_ret (results_ct rfl _ _ gb101 28 #[.int .i64 0, .int .i64 0] (0, 0) _ rfl (by (with_reducible repeat (first | refine kN ?_ _ | refine kD ?_ | refine kA ?_ _)); refine blk_put (cs := #[.int .i64 0, .int .i64 0]) ?_ 1 _ rfl; (with_reducible repeat (first | refine kN ?_ _ | refine kD ?_ | refine kA ?_ _)); refine blk_put (cs := #[.int .i64 0, .int .i64 0]) ?_ 0 _ rfl; (with_reducible repeat (first | refine kN ?_ _ | refine kD ?_ | refine kA ?_ _)); exact BK101.out) Tryd.underlying28 rfl (by kernel_rfl)) rfl ?_); (exact ⟨by first | rfl | (simp [errW_none, errW_some] <;> rfl) | (simp [*, errW_none, errW_some] <;> rfl), by repeat (first | (with_reducible first | exact HB.out | apply bA | apply bN | apply bD | refine below_set ?_ GE101.out | refine below_set ?_ GE105.out) | exact HB.out)⟩)
    ·replace c26 := Bool.eq_false_iff.mpr c26
     subst c26; (rw [if_neg (show ¬ (false = true) by decide)] at H); (simp only [Option.some.injEq, Prod.mk.injEq] at H); (obtain ⟨rfl, rfl, rfl⟩ := H); (have hnb48 := NB101_105.out); (have hnc48 := NB105_101.out); (have hcz49_0 := cz BK101.out 0); (have hcz49_1 := cz BK101.out 1); (have hfz49_0 := blk_frozen BK101.out 0); (have hfz49_1 := blk_frozen BK101.out 1); (go_wp2); (refine bodyPost_ret (results_ct rfl _ _ gb101 28 #[.int .i64 0, .int .i64 0] (0, 0) _ rfl (by (with_reducible repeat (first | refine kN ?_ _ | refine kD ?_ | refine kA ?_ _)); refine blk_put (cs := #[.int .i64 0, .int .i64 0]) ?_ 1 _ rfl; (with_reducible repeat (first | refine kN ?_ _ | refine kD ?_ | refine kA ?_ _)); refine blk_put (cs := #[.int .i64 0, .int .i64 0]) ?_ 0 _ rfl; (with_reducible repeat (first | refine kN ?_ _ | refine kD ?_ | refine kA ?_ _)); exact BK101.out) Tryd.underlying28 rfl (by kernel_rfl)) rfl ?_); (exact ⟨by first | rfl | (simp [errW_none, errW_some] <;> rfl) | (simp [*, errW_none, errW_some] <;> rfl), by repeat (first | (with_reducible first | exact HB.out | apply bA | apply bN | apply bD | refine below_set ?_ GE101.out | refine below_set ?_ GE105.out) | exact HB.out)⟩)
   ·replace c25 := Bool.eq_false_iff.mpr c25
    subst c25; (rw [if_neg (show ¬ (false = true) by decide)] at H); (simp only [Option.some.injEq, Prod.mk.injEq] at H); (obtain ⟨rfl, rfl, rfl⟩ := H); (have hnb50 := NB101_105.out); (have hnc50 := NB105_101.out); (have hcz51_0 := cz BK101.out 0); (have hcz51_1 := cz BK101.out 1); (have hfz51_0 := blk_frozen BK101.out 0); (have hfz51_1 := blk_frozen BK101.out 1); (go_wp2); (refine bodyPost_ret (results_ct rfl _ _ gb101 28 #[.int .i64 0, .int .i64 0] (0, 0) _ rfl (by (with_reducible repeat (first | refine kN ?_ _ | refine kD ?_ | refine kA ?_ _)); refine blk_put (cs := #[.int .i64 0, .int .i64 0]) ?_ 1 _ rfl; (with_reducible repeat (first | refine kN ?_ _ | refine kD ?_ | refine kA ?_ _)); refine blk_put (cs := #[.int .i64 0, .int .i64 0]) ?_ 0 _ rfl; (with_reducible repeat (first | refine kN ?_ _ | refine kD ?_ | refine kA ?_ _)); exact BK101.out) Tryd.underlying28 rfl (by kernel_rfl)) rfl ?_); (exact ⟨by first | rfl | (simp [errW_none, errW_some] <;> rfl) | (simp [*, errW_none, errW_some] <;> rfl), by repeat (first | (with_reducible first | exact HB.out | apply bA | apply bN | apply bD | refine below_set ?_ GE101.out | refine below_set ?_ GE105.out) | exact HB.out)⟩)
/-! ### spec_EnglishToInterval: function 26 -/
def spec_EnglishToInterval.f (k : Nat) (a0 : ByteArray) : Option (Int × Int × Bool) := (spec_l25ReadInterval.f k a0).bind fun bt102 => (some (bt102.1, bt102.2.1, bt102.2.2))
set_option maxHeartbeats 8000000 in
set_option maxRecDepth 100000 in
theorem spec_EnglishToInterval.calls (k : Nat) (a0 : ByteArray) (r1 : Int) (r2 : Int) (r3 : Bool) (w : World) (h : spec_EnglishToInterval.f k a0 = some (r1, r2, r3)) :
  Calls Tryd.prog 26 #[.string a0] w fun e w' => e = .returned (.tuple #[.agg #[.int .i64 r1, .int .i64 r2], .bool r3]) ∧ Below w.heap.size w w' := by
 (have hu28 := Tryd.underlying28); (have HB := Aside0.mk (Below.refl w.heap.size w)); (unfold spec_EnglishToInterval.f at h); (have H := h); clear h; (replace H := obS H); (obtain ⟨⟨t102, t103, t104⟩, A2, H⟩ := H); (replace H : (some (t102, t103, t104)) = some (r1, r2, r3) := H); (simp only [Option.some.injEq, Prod.mk.injEq] at H); (obtain ⟨rfl, rfl, rfl⟩ := H); (go_enter Tryd.func26, Tryd.ntmps26); (go_wp2_with (first | ((with_reducible refine gate_dst (N := 2) rfl ?_); refine box_event ?hg (N := 2) ?hd (cs := #[.int .i64 0, .int .i64 0]) (t := 28) ?hr ?_; (case hd => rfl); (case hg => rfl); (case hr => first | (go_simp; done) | (go_simp; rfl)); intro gb101 hg w3 hbox hb; have hB_ := zI hb HB; have n0_ := Aside0.mk (below_step hB_ hb); have n1_ := Aside0.mk (hbox); have n2_ := Aside0.mk (bx0 hg hB_); have n3_ := n2_; clear HB; have HB := n0_; have BK101 := n1_; have GW101 := n2_; have GE101 := n3_; clear n0_ n1_ n2_ n3_ hB_ hb hbox hg) | ((with_reducible refine gate_callee (f := 59) rfl ?_); refine gL (some 5) Tryd.func59 #[.string a0] ?_; (with_reducible refine (spec_l25ReadInterval.calls k a0 t102 t103 t104 _ A2.out).mono ?_); rintro e w4 ⟨rfl, hb⟩; refine ⟨_, rfl, ?_⟩; have n0_ := Aside0.mk (kbI hb BK101); have n1_ := Aside0.mk (sI hb HB); clear BK101 HB; have BK101 := n0_; have HB := n1_; clear n0_ n1_; (try clear hb); (try clear hb2); (try clear hk); (try clear hi); have hcz5_0 := cz BK101.out 0; have hcz5_1 := cz BK101.out 1; have hfz5_0 := blk_frozen BK101.out 0; have hfz5_1 := blk_frozen BK101.out 1))); (refine bodyPost_ret (results_ct rfl _ _ gb101 28 #[.int .i64 t102, .int .i64 t103] (0, 0) _ rfl (by (with_reducible repeat (first | refine kN ?_ _ | refine kD ?_ | refine kA ?_ _)); refine blk_put (cs := #[.int .i64 t102, .int .i64 0]) ?_ 1 _ rfl; (with_reducible repeat (first | refine kN ?_ _ | refine kD ?_ | refine kA ?_ _)); refine blk_put (cs := #[.int .i64 0, .int .i64 0]) ?_ 0 _ rfl; (with_reducible repeat (first | refine kN ?_ _ | refine kD ?_ | refine kA ?_ _)); exact BK101.out) Tryd.underlying28 rfl (by kernel_rfl)) rfl ?_); (exact ⟨by first | rfl | (simp [errW_none, errW_some] <;> rfl) | (simp [*, errW_none, errW_some] <;> rfl), by repeat (first | (with_reducible first | exact HB.out | apply bA | apply bN | apply bD | refine below_set ?_ GE101.out) | exact HB.out)⟩)
/-! ### impl_within: function 64 -/
def impl_within.f (a0 : Int) (a1 : Int) (a2 : Int) : Option (Bool) := if a0 ≥ a1 then (some (decide (a0 ≤ a2))) else (some false)
set_option maxHeartbeats 8000000 in
set_option maxRecDepth 100000 in
theorem impl_within.calls (a0 : Int) (a1 : Int) (a2 : Int) (r : Bool) (w : World) (h : impl_within.f a0 a1 a2 = some r) :
  Calls Tryd.prog 64 #[.int .i64 a0, .int .i64 a1, .int .i64 a2] w fun e w' => e = .returned (.bool r) ∧ Drawn0 w w' := by
 (unfold impl_within.f at h); (have H := h); clear h; (by_cases c4 : a0 ≥ a1); (· (rw [if_pos c4] at H); (have c4b0 : decide (a1 ≤ a0) = true := decide_eq_true c4); clear c4; (obtain rfl := Option.some.inj H); (go_enter Tryd.func64, Tryd.ntmps64); (go_wp2); go_ret; (exact ⟨by first | rfl | (simp; done) | (simp [*]; done), by repeat (first | exact Drawn0.refl _ | apply Drawn0.step)⟩)); (· (rw [if_neg c4] at H); (have c4b0 : decide (a1 ≤ a0) = false := decide_eq_false c4); clear c4; (obtain rfl := Option.some.inj H); (go_enter Tryd.func64, Tryd.ntmps64); (go_wp2); go_ret; (exact ⟨by first | rfl | (simp; done) | (simp [*]; done), by repeat (first | exact Drawn0.refl _ | apply Drawn0.step)⟩))
/-! ### impl_isYear: function 31 -/
def impl_isYear.f (a0 : Int) : Option (Bool) := (impl_within.f a0 (-20000) 2100).bind fun t101 => (some t101)
set_option maxHeartbeats 8000000 in
set_option maxRecDepth 100000 in
theorem impl_isYear.calls (a0 : Int) (r : Bool) (w : World) (h : impl_isYear.f a0 = some r) :
  Calls Tryd.prog 31 #[.int .i64 a0] w fun e w' => e = .returned (.bool r) ∧ Drawn0 w w' := by
 (unfold impl_isYear.f at h); (have H := h); clear h; (replace H := obS H); (obtain ⟨t101, A2, H⟩ := H); (obtain rfl := Option.some.inj H); (go_enter Tryd.func31, Tryd.ntmps31); (go_wp2_with (first | ((with_reducible refine gate_callee (f := 64) rfl ?_); refine gL (some 4) Tryd.func64 #[.int .i64 a0, .int .i64 (-20000), .int .i64 2100] ?_; (with_reducible refine (impl_within.calls a0 (-20000) 2100 t101 _ A2.out).mono ?_); rintro e w' ⟨rfl, ⟨nd, rfl⟩⟩; refine ⟨_, rfl, ?_⟩))); go_ret; (exact ⟨by first | rfl | (simp; done) | (simp [*]; done), by repeat (first | exact Drawn0.refl _ | apply Drawn0.step)⟩)
/-! ### impl_isInterval: function 35 -/
def impl_isInterval.f (a0_0 : Int) (a0_1 : Int) : Option (Bool) := (impl_isYear.f a0_0).bind fun t102 => (if t102 = true then ((impl_isYear.f a0_1).bind fun t103 => (if t103 = true then (some (decide (a0_0 ≤ a0_1))) else (some false))) else (some false))
set_option maxHeartbeats 8000000 in
set_option maxRecDepth 100000 in
theorem impl_isInterval.calls (a0_0 : Int) (a0_1 : Int) (r : Bool) (w : World) (h : impl_isInterval.f a0_0 a0_1 = some r) :
  Calls Tryd.prog 35 #[.agg #[.int .i64 a0_0, .int .i64 a0_1]] w fun e w' => e = .returned (.bool r) ∧ Below w.heap.size w w' := by
 (have hu28 := Tryd.underlying28); (have HB := Aside0.mk (Below.refl w.heap.size w)); (unfold impl_isInterval.f at h); (have H := h); clear h; (replace H := obS H); (obtain ⟨t102, A2, H⟩ := H); (by_cases c3 : t102 = true)
 ·subst c3
  (rw [if_pos rfl] at H); (replace H := obS H); (obtain ⟨t103, A4, H⟩ := H); (by_cases c5 : t103 = true); (· subst c5; (rw [if_pos rfl] at H); (obtain rfl := Option.some.inj H); (go_enter Tryd.func35, Tryd.ntmps35); (go_wp2_with (first | ((with_reducible refine gate_dst (N := 1) rfl ?_); refine box_event ?hg (N := 1) ?hd (cs := #[.int .i64 a0_0, .int .i64 a0_1]) (t := 28) ?hr ?_; (case hd => rfl); (case hg => rfl); (case hr => first | (go_simp; done) | (go_simp; rfl)); intro gb101 hg w6 hbox hb; have hB_ := zI hb HB; have n0_ := Aside0.mk (below_step hB_ hb); have n1_ := Aside0.mk (hbox); have n2_ := Aside0.mk (bx0 hg hB_); have n3_ := n2_; clear HB; have HB := n0_; have BK101 := n1_; have GW101 := n2_; have GE101 := n3_; clear n0_ n1_ n2_ n3_ hB_ hb hbox hg; have hcz7_0 := cz BK101.out 0; have hcz7_1 := cz BK101.out 1; have hfz7_0 := blk_frozen BK101.out 0; have hfz7_1 := blk_frozen BK101.out 1) | ((with_reducible refine gate_callee (f := 31) rfl ?_); refine gL (some 5) Tryd.func31 #[.int .i64 a0_0] ?_; (with_reducible refine (impl_isYear.calls a0_0 true _ A2.out).mono ?_); rintro e w' ⟨rfl, ⟨nd, rfl⟩⟩; refine ⟨_, rfl, ?_⟩) | (go_at_call 31; (with_reducible refine (impl_isYear.calls a0_1 true _ A4.out).mono ?_); rintro e w' ⟨rfl, ⟨nd, rfl⟩⟩))); go_ret; (exact ⟨rfl, eI HB⟩)); (· (replace c5 := Bool.eq_false_iff.mpr c5); subst c5; (rw [if_neg (show ¬ (false = true) by decide)] at H); (obtain rfl := Option.some.inj H); (go_enter Tryd.func35, Tryd.ntmps35); (go_wp2_with (first | ((with_reducible refine gate_dst (N := 1) rfl ?_); refine box_event ?hg (N := 1) ?hd (cs := #[.int .i64 a0_0, .int .i64 a0_1]) (t := 28) ?hr ?_; (case hd => rfl); (case hg => rfl); (case hr => first | (go_simp; done) | (go_simp; rfl)); intro gb101 hg w8 hbox hb; have hB_ := zI hb HB; have n0_ := Aside0.mk (below_step hB_ hb); have n1_ := Aside0.mk (hbox); have n2_ := Aside0.mk (bx0 hg hB_); have n3_ := n2_; clear HB; have HB := n0_; have BK101 := n1_; have GW101 := n2_; have GE101 := n3_; clear n0_ n1_ n2_ n3_ hB_ hb hbox hg; have hcz9_0 := cz BK101.out 0; have hcz9_1 := cz BK101.out 1; have hfz9_0 := blk_frozen BK101.out 0; have hfz9_1 := blk_frozen BK101.out 1) | ((with_reducible refine gate_callee (f := 31) rfl ?_); refine gL (some 5) Tryd.func31 #[.int .i64 a0_0] ?_; (with_reducible refine (impl_isYear.calls a0_0 true _ A2.out).mono ?_); rintro e w' ⟨rfl, ⟨nd, rfl⟩⟩; refine ⟨_, rfl, ?_⟩) | (go_at_call 31; (with_reducible refine (impl_isYear.calls a0_1 false _ A4.out).mono ?_); rintro e w' ⟨rfl, ⟨nd, rfl⟩⟩))); go_ret; (exact ⟨rfl, eI HB⟩))
 ·replace c3 := Bool.eq_false_iff.mpr c3
  subst c3; (rw [if_neg (show ¬ (false = true) by decide)] at H); (obtain rfl := Option.some.inj H); (go_enter Tryd.func35, Tryd.ntmps35); (go_wp2_with (first | ((with_reducible refine gate_dst (N := 1) rfl ?_); refine box_event ?hg (N := 1) ?hd (cs := #[.int .i64 a0_0, .int .i64 a0_1]) (t := 28) ?hr ?_; (case hd => rfl); (case hg => rfl); (case hr => first | (go_simp; done) | (go_simp; rfl)); intro gb101 hg w10 hbox hb; have hB_ := zI hb HB; have n0_ := Aside0.mk (below_step hB_ hb); have n1_ := Aside0.mk (hbox); have n2_ := Aside0.mk (bx0 hg hB_); have n3_ := n2_; clear HB; have HB := n0_; have BK101 := n1_; have GW101 := n2_; have GE101 := n3_; clear n0_ n1_ n2_ n3_ hB_ hb hbox hg; have hcz11_0 := cz BK101.out 0; have hcz11_1 := cz BK101.out 1; have hfz11_0 := blk_frozen BK101.out 0; have hfz11_1 := blk_frozen BK101.out 1) | ((with_reducible refine gate_callee (f := 31) rfl ?_); refine gL (some 5) Tryd.func31 #[.int .i64 a0_0] ?_; (with_reducible refine (impl_isYear.calls a0_0 false _ A2.out).mono ?_); rintro e w' ⟨rfl, ⟨nd, rfl⟩⟩; refine ⟨_, rfl, ?_⟩))); go_ret; (exact ⟨rfl, eI HB⟩)

end Go.Proofs.YtfkaiiconllbhaaDoor.X
namespace Go.Proofs
open Go.Shelf
def Tryd.laysM171_ren : Go.Shelf.Ren := ⟨fun | 171 => 44 | 243 => 74 | 246 => 92 | 283 => 102 | 284 => 103 | 285 => 104 | 286 => 105 | 129 => 121 | 317 => 120 | 318 => 122 | 319 => 123 | 320 => 124 | 337 => 133 | 338 => 134 | n => n, fun | 3 => 3 | 9 => 9 | 2 => 2 | 4 => 4 | 171 => 122 | 0 => 0 | 53 => 123 | 37 => 126 | 5 => 5 | 173 => 127 | 212 => 145 | 51 => 146 | 20 => 20 | 213 => 147 | 46 => 139 | 232 => 168 | 233 => 169 | n => n, fun | 17 => 1 | 18 => 4 | 19 => 5 | n => n⟩
theorem Tryd.laysM171 : Go.Proofs.LaysM.n171 Tryd.prog Tryd.laysM171_ren := {
  mixed := by kernel_rfl
  f129 := Tryd.func121.trans (congrArg some (by kernel_rfl))
  f171 := Tryd.func44.trans (congrArg some (by kernel_rfl))
  f243 := Tryd.func74.trans (congrArg some (by kernel_rfl))
  f246 := Tryd.func92.trans (congrArg some (by kernel_rfl))
  f283 := Tryd.func102.trans (congrArg some (by kernel_rfl))
  f284 := Tryd.func103.trans (congrArg some (by kernel_rfl))
  f285 := Tryd.func104.trans (congrArg some (by kernel_rfl))
  f286 := Tryd.func105.trans (congrArg some (by kernel_rfl))
  f317 := Tryd.func120.trans (congrArg some (by kernel_rfl))
  f318 := Tryd.func122.trans (congrArg some (by kernel_rfl))
  f319 := Tryd.func123.trans (congrArg some (by kernel_rfl))
  f320 := Tryd.func124.trans (congrArg some (by kernel_rfl))
  f337 := Tryd.func133.trans (congrArg some (by kernel_rfl))
  f338 := Tryd.func134.trans (congrArg some (by kernel_rfl))
  t0 := Tryd.underlying0
  a0 := Tryd.isAgg0
  z0 := Tryd.sizeOf0
  v0 := Tryd.zeroValue0
  t2 := Tryd.underlying2
  a2 := Tryd.isAgg2
  z2 := Tryd.sizeOf2
  v2 := Tryd.zeroValue2
  t3 := Tryd.underlying3
  a3 := Tryd.isAgg3
  z3 := Tryd.sizeOf3
  v3 := Tryd.zeroValue3
  t4 := Tryd.underlying4
  a4 := Tryd.isAgg4
  z4 := Tryd.sizeOf4
  v4 := Tryd.zeroValue4
  t5 := Tryd.underlying5
  a5 := Tryd.isAgg5
  z5 := Tryd.sizeOf5
  v5 := Tryd.zeroValue5
  t9 := Tryd.underlying9
  a9 := Tryd.isAgg9
  z9 := Tryd.sizeOf9
  v9 := Tryd.zeroValue9
  t20 := Tryd.underlying20
  a20 := Tryd.isAgg20
  z20 := Tryd.sizeOf20
  v20 := Tryd.zeroValue20
  t37 := Tryd.underlying126
  a37 := Tryd.isAgg126
  z37 := Tryd.sizeOf126
  v37 := Tryd.zeroValue126
  t46 := Tryd.underlying139
  a46 := Tryd.isAgg139
  z46 := Tryd.sizeOf139
  v46 := Tryd.zeroValue139
  t51 := Tryd.underlying146
  a51 := Tryd.isAgg146
  z51 := Tryd.sizeOf146
  v51 := Tryd.zeroValue146
  t53 := Tryd.underlying123
  a53 := Tryd.isAgg123
  z53 := Tryd.sizeOf123
  v53 := Tryd.zeroValue123
  t171 := Tryd.underlying122
  a171 := Tryd.isAgg122
  z171 := Tryd.sizeOf122
  v171 := Tryd.zeroValue122
  t173 := Tryd.underlying127
  a173 := Tryd.isAgg127
  z173 := Tryd.sizeOf127
  v173 := Tryd.zeroValue127
  t212 := Tryd.underlying145
  a212 := Tryd.isAgg145
  z212 := Tryd.sizeOf145
  v212 := Tryd.zeroValue145
  t213 := Tryd.underlying147
  a213 := Tryd.isAgg147
  z213 := Tryd.sizeOf147
  t232 := Tryd.underlying168
  a232 := Tryd.isAgg168
  z232 := Tryd.sizeOf168
  v232 := Tryd.zeroValue168
  t233 := Tryd.underlying169
  a233 := Tryd.isAgg169
  z233 := Tryd.sizeOf169
  v233 := Tryd.zeroValue169
  g17 := by kernel_rfl
  g18 := by kernel_rfl
  g19 := by kernel_rfl
  i0 := by kernel_rfl
  i2 := by kernel_rfl
  i3 := by kernel_rfl
  i4 := by kernel_rfl
  i5 := by kernel_rfl
  i9 := by kernel_rfl
  i20 := by kernel_rfl
  i37 := by kernel_rfl
  i46 := by kernel_rfl
  i51 := by kernel_rfl
  i53 := by kernel_rfl
  i171 := by kernel_rfl
  i173 := by kernel_rfl
  i212 := by kernel_rfl
  i232 := by kernel_rfl
  i233 := by kernel_rfl
  m17 := by kernel_rfl
  m18 := by kernel_rfl
  m19 := by kernel_rfl }
open Go.RowKit Go.Sort Go.Lib in
/-- strconv.Itoa: "Itoa is equivalent to FormatInt(int64(i), 10).": i's DECIMAL NUMERAL ('Lib.itoa': a '-' where i is negative, then the digits), FOR EVERY int. The world behind the call: the world before it, new blocks behind the heap (the library's 'var a [24]byte'), draws. (LAID: no walk: one application.) -/
theorem Tryd.strconv_Itoa (n : Int) (h0 : -9223372036854775808 ≤ n) (h1 : n ≤ 9223372036854775807) (w : World) (htab : Lib.TabIs Tryd.prog w "internal/strconv.uint64pow10" .u64 Lib.pow10Tab) :
    Calls Tryd.prog 44 #[.int .i64 n] w fun e w' => e = .returned (.string ⟨(Lib.itoa n).toArray⟩) ∧ ∃ k os, w' = grow (w.drewN k) os := Any.strconv_Itoa Tryd.laysM171 n h0 h1 w htab
def Tryd.laysC172_ren : Go.Shelf.Ren := ⟨fun | 172 => 81 | 244 => 94 | 245 => 95 | 247 => 106 | 279 => 107 | 280 => 108 | 281 => 109 | 282 => 110 | 287 => 125 | 316 => 126 | 171 => 44 | 205 => 127 | 321 => 135 | 322 => 136 | 243 => 74 | 246 => 92 | 283 => 102 | 284 => 103 | 285 => 104 | 286 => 105 | 129 => 121 | 317 => 120 | 318 => 122 | 319 => 123 | 320 => 124 | 337 => 133 | 338 => 134 | n => n, fun | 9 => 9 | 3 => 3 | 75 => 99 | 76 => 100 | 4 => 4 | 5 => 5 | 167 => 129 | 37 => 126 | 0 => 0 | 85 => 130 | 2 => 2 | 168 => 132 | 53 => 123 | 175 => 149 | 46 => 139 | 210 => 153 | 127 => 164 | 145 => 167 | 143 => 165 | 21 => 21 | 171 => 122 | 173 => 127 | 212 => 145 | 51 => 146 | 20 => 20 | 213 => 147 | 232 => 168 | 233 => 169 | 80 => 172 | n => n, fun | 15 => 2 | 16 => 3 | 17 => 1 | 18 => 4 | 19 => 5 | n => n⟩
theorem Tryd.laysC172 : Go.Proofs.LaysC.n172 Tryd.prog Tryd.laysC172_ren := {
  mixed := by kernel_rfl
  f129 := Tryd.func121.trans (congrArg some (by kernel_rfl))
  f171 := Tryd.func44.trans (congrArg some (by kernel_rfl))
  f172 := Tryd.func81.trans (congrArg some (by kernel_rfl))
  f205 := Tryd.func127.trans (congrArg some (by kernel_rfl))
  f243 := Tryd.func74.trans (congrArg some (by kernel_rfl))
  f244 := Tryd.func94.trans (congrArg some (by kernel_rfl))
  f245 := Tryd.func95.trans (congrArg some (by kernel_rfl))
  f246 := Tryd.func92.trans (congrArg some (by kernel_rfl))
  f247 := Tryd.func106.trans (congrArg some (by kernel_rfl))
  f279 := Tryd.func107.trans (congrArg some (by kernel_rfl))
  f280 := Tryd.func108.trans (congrArg some (by kernel_rfl))
  f281 := Tryd.func109.trans (congrArg some (by kernel_rfl))
  f282 := Tryd.func110.trans (congrArg some (by kernel_rfl))
  f283 := Tryd.func102.trans (congrArg some (by kernel_rfl))
  f284 := Tryd.func103.trans (congrArg some (by kernel_rfl))
  f285 := Tryd.func104.trans (congrArg some (by kernel_rfl))
  f286 := Tryd.func105.trans (congrArg some (by kernel_rfl))
  f287 := Tryd.func125.trans (congrArg some (by kernel_rfl))
  f316 := Tryd.func126.trans (congrArg some (by kernel_rfl))
  f317 := Tryd.func120.trans (congrArg some (by kernel_rfl))
  f318 := Tryd.func122.trans (congrArg some (by kernel_rfl))
  f319 := Tryd.func123.trans (congrArg some (by kernel_rfl))
  f320 := Tryd.func124.trans (congrArg some (by kernel_rfl))
  f321 := Tryd.func135.trans (congrArg some (by kernel_rfl))
  f322 := Tryd.func136.trans (congrArg some (by kernel_rfl))
  f337 := Tryd.func133.trans (congrArg some (by kernel_rfl))
  f338 := Tryd.func134.trans (congrArg some (by kernel_rfl))
  t0 := Tryd.underlying0
  a0 := Tryd.isAgg0
  z0 := Tryd.sizeOf0
  v0 := Tryd.zeroValue0
  t2 := Tryd.underlying2
  a2 := Tryd.isAgg2
  z2 := Tryd.sizeOf2
  v2 := Tryd.zeroValue2
  t3 := Tryd.underlying3
  a3 := Tryd.isAgg3
  z3 := Tryd.sizeOf3
  v3 := Tryd.zeroValue3
  t4 := Tryd.underlying4
  a4 := Tryd.isAgg4
  z4 := Tryd.sizeOf4
  v4 := Tryd.zeroValue4
  t5 := Tryd.underlying5
  a5 := Tryd.isAgg5
  z5 := Tryd.sizeOf5
  v5 := Tryd.zeroValue5
  t9 := Tryd.underlying9
  a9 := Tryd.isAgg9
  z9 := Tryd.sizeOf9
  v9 := Tryd.zeroValue9
  t20 := Tryd.underlying20
  a20 := Tryd.isAgg20
  z20 := Tryd.sizeOf20
  v20 := Tryd.zeroValue20
  t21 := Tryd.underlying21
  a21 := Tryd.isAgg21
  z21 := Tryd.sizeOf21
  v21 := Tryd.zeroValue21
  t37 := Tryd.underlying126
  a37 := Tryd.isAgg126
  z37 := Tryd.sizeOf126
  v37 := Tryd.zeroValue126
  t46 := Tryd.underlying139
  a46 := Tryd.isAgg139
  z46 := Tryd.sizeOf139
  v46 := Tryd.zeroValue139
  t51 := Tryd.underlying146
  a51 := Tryd.isAgg146
  z51 := Tryd.sizeOf146
  v51 := Tryd.zeroValue146
  t53 := Tryd.underlying123
  a53 := Tryd.isAgg123
  z53 := Tryd.sizeOf123
  v53 := Tryd.zeroValue123
  t75 := Tryd.underlying99
  a75 := Tryd.isAgg99
  z75 := Tryd.sizeOf99
  v75 := Tryd.zeroValue99
  t76 := Tryd.underlying100
  a76 := Tryd.isAgg100
  z76 := Tryd.sizeOf100
  v76 := Tryd.zeroValue100
  t85 := Tryd.underlying130
  a85 := Tryd.isAgg130
  z85 := Tryd.sizeOf130
  v85 := Tryd.zeroValue130
  t127 := Tryd.underlying164
  a127 := Tryd.isAgg164
  z127 := Tryd.sizeOf164
  v127 := Tryd.zeroValue164
  t143 := Tryd.underlying165
  a143 := Tryd.isAgg165
  z143 := Tryd.sizeOf165
  v143 := Tryd.zeroValue165
  t145 := Tryd.underlying167
  a145 := Tryd.isAgg167
  z145 := Tryd.sizeOf167
  v145 := Tryd.zeroValue167
  t167 := Tryd.underlying129
  a167 := Tryd.isAgg129
  z167 := Tryd.sizeOf129
  v167 := Tryd.zeroValue129
  t168 := Tryd.underlying132
  a168 := Tryd.isAgg132
  z168 := Tryd.sizeOf132
  v168 := Tryd.zeroValue132
  t171 := Tryd.underlying122
  a171 := Tryd.isAgg122
  z171 := Tryd.sizeOf122
  v171 := Tryd.zeroValue122
  t173 := Tryd.underlying127
  a173 := Tryd.isAgg127
  z173 := Tryd.sizeOf127
  v173 := Tryd.zeroValue127
  t175 := Tryd.underlying149
  a175 := Tryd.isAgg149
  z175 := Tryd.sizeOf149
  v175 := Tryd.zeroValue149
  t210 := Tryd.underlying153
  a210 := Tryd.isAgg153
  z210 := Tryd.sizeOf153
  v210 := Tryd.zeroValue153
  t212 := Tryd.underlying145
  a212 := Tryd.isAgg145
  z212 := Tryd.sizeOf145
  v212 := Tryd.zeroValue145
  t213 := Tryd.underlying147
  a213 := Tryd.isAgg147
  z213 := Tryd.sizeOf147
  t232 := Tryd.underlying168
  a232 := Tryd.isAgg168
  z232 := Tryd.sizeOf168
  v232 := Tryd.zeroValue168
  t233 := Tryd.underlying169
  a233 := Tryd.isAgg169
  z233 := Tryd.sizeOf169
  v233 := Tryd.zeroValue169
  g15 := by kernel_rfl
  g16 := by kernel_rfl
  g17 := by kernel_rfl
  g18 := by kernel_rfl
  g19 := by kernel_rfl
  t80 := Tryd.underlying172
  a80 := Tryd.isAgg172
  z80 := Tryd.sizeOf172
  v80 := Tryd.zeroValue172
  i0 := by kernel_rfl
  i2 := by kernel_rfl
  i3 := by kernel_rfl
  i4 := by kernel_rfl
  i5 := by kernel_rfl
  i9 := by kernel_rfl
  i20 := by kernel_rfl
  i21 := by kernel_rfl
  i37 := by kernel_rfl
  i46 := by kernel_rfl
  i51 := by kernel_rfl
  i53 := by kernel_rfl
  i75 := by kernel_rfl
  i76 := by kernel_rfl
  i80 := by kernel_rfl
  i85 := by kernel_rfl
  i127 := by kernel_rfl
  i143 := by kernel_rfl
  i145 := by kernel_rfl
  i167 := by kernel_rfl
  i168 := by kernel_rfl
  i171 := by kernel_rfl
  i173 := by kernel_rfl
  i175 := by kernel_rfl
  i210 := by kernel_rfl
  i212 := by kernel_rfl
  i232 := by kernel_rfl
  i233 := by kernel_rfl
  m15 := by kernel_rfl
  m16 := by kernel_rfl
  m17 := by kernel_rfl
  m18 := by kernel_rfl
  m19 := by kernel_rfl
  c0 := by kernel_rfl
  c2 := by kernel_rfl
  c3 := by kernel_rfl
  c4 := by kernel_rfl
  c5 := by kernel_rfl
  c9 := by kernel_rfl
  c20 := by kernel_rfl
  c21 := by kernel_rfl
  c37 := by kernel_rfl
  c46 := by kernel_rfl
  c51 := by kernel_rfl
  c53 := by kernel_rfl
  c75 := by kernel_rfl
  c76 := by kernel_rfl
  c80 := by kernel_rfl
  c85 := by kernel_rfl
  c127 := by kernel_rfl
  c143 := by kernel_rfl
  c145 := by kernel_rfl
  c167 := by kernel_rfl
  c168 := by kernel_rfl
  c171 := by kernel_rfl
  c173 := by kernel_rfl
  c175 := by kernel_rfl
  c210 := by kernel_rfl
  c212 := by kernel_rfl
  c213 := by kernel_rfl
  c232 := by kernel_rfl
  c233 := by kernel_rfl }
open Go.RowKit in
/-- strconv.Atoi, AT EVERY STRING THAT SPELLS AN int ('Lib.atoiAll .. = .ok v'; of whatever length: leading zeros count): v, AND NO ERROR. The world: as it was, or with the one new row that '[]byte(..)' lays. (LAID: no walk: one application.) -/
theorem Tryd.strconv_Atoi_ok (s : ByteArray) (hmax : s.size ≤ 9223372036854775806) (v : Int) (h : Lib.atoiAll s.data.toList = .ok v) (w : World) :
    Calls Tryd.prog 81 #[.string s] w fun e w' => e = .returned (.tuple #[.int .i64 v, .nilIface]) ∧ (w' = w ∨ ∃ t, w' = Lib.bytesWorld w 5 t) := Any.strconv_Atoi_ok Tryd.laysC172 s hmax v h w
open Go.RowKit in
/-- strconv.Atoi, AT EVERY NUMERAL THAT NO int HOLDS ('.range'): THE GREATEST OR THE LEAST int, BY THE SIGN ('Lib.atoiSat'), AND AN ERROR THAT IS NOT nil: a *NumError in a new block N: {Func: "Atoi", Num: s's bytes, Err: what the variable ErrRange holds}. Of what was there nothing has turned. (LAID: no walk: one application.) -/
theorem Tryd.strconv_Atoi_range (s : ByteArray) (hlim : s.size ≤ 281474976710656) (h : Lib.atoiAll s.data.toList = .range) (ev : Value) (w : World) (hv : w.cell? ⟨3, 0, none⟩ = some ev) (hev : ev = .nilIface ∨ ∃ te pe, ev = .iface te pe) :
    Calls Tryd.prog 81 #[.string s] w fun e w' => ∃ N, e = .returned (.tuple #[.int .i64 (Lib.atoiSat s.data.toList), .iface 132 (.pointer (some ⟨N, 0, none⟩))]) ∧ w.heap.size ≤ N ∧ w'.heap[N]? = some (.cells #[.string ⟨#[65, 116, 111, 105]⟩, .string s, ev] 153 (0, 0)) ∧ Below w.heap.size w w' := Any.strconv_Atoi_range Tryd.laysC172 s hlim h ev w hv hev
def Tryd.lays145_ren : Go.Shelf.Ren := ⟨fun | 145 => 60 | 220 => 86 | 219 => 100 | 217 => 116 | 225 => 117 | 224 => 118 | 267 => 119 | 266 => 131 | 314 => 132 | n => n, fun | 9 => 9 | 4 => 4 | 59 => 85 | 3 => 3 | 5 => 5 | 46 => 139 | 146 => 157 | 51 => 146 | n => n, fun | 1 => 0 | n => n⟩
theorem Tryd.lays145 : Go.Proofs.Lays.n145 Tryd.prog Tryd.lays145_ren := {
  mixed := by kernel_rfl
  f145 := Tryd.func60.trans (congrArg some (by kernel_rfl))
  f217 := Tryd.func116.trans (congrArg some (by kernel_rfl))
  f219 := Tryd.func100.trans (congrArg some (by kernel_rfl))
  f220 := Tryd.func86.trans (congrArg some (by kernel_rfl))
  f224 := Tryd.func118.trans (congrArg some (by kernel_rfl))
  f225 := Tryd.func117.trans (congrArg some (by kernel_rfl))
  f266 := Tryd.func131.trans (congrArg some (by kernel_rfl))
  f267 := Tryd.func119.trans (congrArg some (by kernel_rfl))
  f314 := Tryd.func132.trans (congrArg some (by kernel_rfl))
  t3 := Tryd.underlying3
  a3 := Tryd.isAgg3
  z3 := Tryd.sizeOf3
  v3 := Tryd.zeroValue3
  t4 := Tryd.underlying4
  a4 := Tryd.isAgg4
  z4 := Tryd.sizeOf4
  v4 := Tryd.zeroValue4
  t5 := Tryd.underlying5
  a5 := Tryd.isAgg5
  z5 := Tryd.sizeOf5
  v5 := Tryd.zeroValue5
  t9 := Tryd.underlying9
  a9 := Tryd.isAgg9
  z9 := Tryd.sizeOf9
  v9 := Tryd.zeroValue9
  t46 := Tryd.underlying139
  a46 := Tryd.isAgg139
  z46 := Tryd.sizeOf139
  v46 := Tryd.zeroValue139
  t51 := Tryd.underlying146
  a51 := Tryd.isAgg146
  z51 := Tryd.sizeOf146
  v51 := Tryd.zeroValue146
  t59 := Tryd.underlying85
  a59 := Tryd.isAgg85
  z59 := Tryd.sizeOf85
  v59 := Tryd.zeroValue85
  t146 := Tryd.underlying157
  a146 := Tryd.isAgg157
  z146 := Tryd.sizeOf157
  v146 := Tryd.zeroValue157
  g1 := by kernel_rfl }
open Go.RowKit Go.Lib in
/-- strings.Cut: "Cut slices s around the first instance of sep, returning the text before and after sep. The found result reports whether sep appears in s. If sep does not appear in s, cut returns s, "", false.": IT RETURNS 'Lib.cut s sep'; the world is as it was but for the count of draws. (LAID: no walk: one application.) -/
theorem Tryd.strings_Cut (s sep : ByteArray) (m : Int) (w : World) (hs : s.size < 4294967281) (hm : w.cell? ⟨0, 0, none⟩ = some (.int .i64 m)) :
    Calls Tryd.prog 60 #[.string s, .string sep] w fun e w' => e = .returned (.tuple #[.string ⟨(Lib.cut s.data.toList sep.data.toList).1.toArray⟩, .string ⟨(Lib.cut s.data.toList sep.data.toList).2.1.toArray⟩, .bool (Lib.cut s.data.toList sep.data.toList).2.2]) ∧ ∃ n, w' = w.drewN n := Any.strings_Cut Tryd.lays145 s sep m w hs hm
def Tryd.laysM145_ren : Go.Shelf.Ren := ⟨fun | 145 => 60 | 220 => 86 | 219 => 100 | 217 => 116 | 225 => 117 | 224 => 118 | 267 => 119 | 266 => 131 | 314 => 132 | n => n, fun | 9 => 9 | 4 => 4 | 59 => 85 | 3 => 3 | 5 => 5 | 46 => 139 | 146 => 157 | 51 => 146 | n => n, fun | 1 => 0 | n => n⟩
theorem Tryd.laysM145 : Go.Proofs.LaysM.n145 Tryd.prog Tryd.laysM145_ren := {
  mixed := by kernel_rfl
  f145 := Tryd.func60.trans (congrArg some (by kernel_rfl))
  f217 := Tryd.func116.trans (congrArg some (by kernel_rfl))
  f219 := Tryd.func100.trans (congrArg some (by kernel_rfl))
  f220 := Tryd.func86.trans (congrArg some (by kernel_rfl))
  f224 := Tryd.func118.trans (congrArg some (by kernel_rfl))
  f225 := Tryd.func117.trans (congrArg some (by kernel_rfl))
  f266 := Tryd.func131.trans (congrArg some (by kernel_rfl))
  f267 := Tryd.func119.trans (congrArg some (by kernel_rfl))
  f314 := Tryd.func132.trans (congrArg some (by kernel_rfl))
  t3 := Tryd.underlying3
  a3 := Tryd.isAgg3
  z3 := Tryd.sizeOf3
  v3 := Tryd.zeroValue3
  t4 := Tryd.underlying4
  a4 := Tryd.isAgg4
  z4 := Tryd.sizeOf4
  v4 := Tryd.zeroValue4
  t5 := Tryd.underlying5
  a5 := Tryd.isAgg5
  z5 := Tryd.sizeOf5
  v5 := Tryd.zeroValue5
  t9 := Tryd.underlying9
  a9 := Tryd.isAgg9
  z9 := Tryd.sizeOf9
  v9 := Tryd.zeroValue9
  t46 := Tryd.underlying139
  a46 := Tryd.isAgg139
  z46 := Tryd.sizeOf139
  v46 := Tryd.zeroValue139
  t51 := Tryd.underlying146
  a51 := Tryd.isAgg146
  z51 := Tryd.sizeOf146
  v51 := Tryd.zeroValue146
  t59 := Tryd.underlying85
  a59 := Tryd.isAgg85
  z59 := Tryd.sizeOf85
  v59 := Tryd.zeroValue85
  t146 := Tryd.underlying157
  a146 := Tryd.isAgg157
  z146 := Tryd.sizeOf157
  v146 := Tryd.zeroValue157
  g1 := by kernel_rfl
  i3 := by kernel_rfl
  i4 := by kernel_rfl
  i5 := by kernel_rfl
  i9 := by kernel_rfl
  i46 := by kernel_rfl
  i51 := by kernel_rfl
  i59 := by kernel_rfl
  i146 := by kernel_rfl
  m1 := by kernel_rfl
  s1_3 := fun w h => Go.Proofs.cell_of_shapedOpen_int (zero := #[.int .i64 0]) (t := 3) h (of_decide_eq_true (by kernel_rfl)) (by kernel_rfl) rfl (by kernel_rfl) (by kernel_rfl) Tryd.underlying3 }
def Tryd.lays206_ren : Go.Shelf.Ren := ⟨fun | 206 => 93 | n => n, fun | 9 => 9 | 4 => 4 | 3 => 3 | n => n, fun | n => n⟩
theorem Tryd.lays206 : Go.Proofs.Lays.n206 Tryd.prog Tryd.lays206_ren := {
  mixed := by kernel_rfl
  f206 := Tryd.func93.trans (congrArg some (by kernel_rfl))
  t3 := Tryd.underlying3
  a3 := Tryd.isAgg3
  z3 := Tryd.sizeOf3
  v3 := Tryd.zeroValue3
  t4 := Tryd.underlying4
  a4 := Tryd.isAgg4
  z4 := Tryd.sizeOf4
  v4 := Tryd.zeroValue4
  t9 := Tryd.underlying9
  a9 := Tryd.isAgg9
  z9 := Tryd.sizeOf9
  v9 := Tryd.zeroValue9 }
open Go.RowKit Go.Lib in
/-- internal/stringslite.HasPrefix (what strings.HasPrefix calls). (LAID: no walk: one application.) -/
theorem Tryd.stringslite_HasPrefix (s p : ByteArray) (w : World) :
    Calls Tryd.prog 93 #[.string s, .string p] w fun e w' => e = .returned (.bool (Lib.hasPrefix s.data.toList p.data.toList)) ∧ w' = w := Any.stringslite_HasPrefix Tryd.lays206 s p w
def Tryd.lays207_ren : Go.Shelf.Ren := ⟨fun | 207 => 96 | n => n, fun | 9 => 9 | 4 => 4 | 3 => 3 | n => n, fun | n => n⟩
theorem Tryd.lays207 : Go.Proofs.Lays.n207 Tryd.prog Tryd.lays207_ren := {
  mixed := by kernel_rfl
  f207 := Tryd.func96.trans (congrArg some (by kernel_rfl))
  t3 := Tryd.underlying3
  a3 := Tryd.isAgg3
  z3 := Tryd.sizeOf3
  v3 := Tryd.zeroValue3
  t4 := Tryd.underlying4
  a4 := Tryd.isAgg4
  z4 := Tryd.sizeOf4
  v4 := Tryd.zeroValue4
  t9 := Tryd.underlying9
  a9 := Tryd.isAgg9
  z9 := Tryd.sizeOf9
  v9 := Tryd.zeroValue9 }
open Go.RowKit Go.Lib in
/-- internal/stringslite.HasSuffix (what strings.HasSuffix calls). (LAID: no walk: one application.) -/
theorem Tryd.stringslite_HasSuffix (s p : ByteArray) (w : World) (hs : s.size ≤ 9223372036854775807) :
    Calls Tryd.prog 96 #[.string s, .string p] w fun e w' => e = .returned (.bool (Lib.hasSuffix s.data.toList p.data.toList)) ∧ w' = w := Any.stringslite_HasSuffix Tryd.lays207 s p w hs
def Tryd.lays208_ren : Go.Shelf.Ren := ⟨fun | 208 => 87 | 206 => 93 | n => n, fun | 9 => 9 | 4 => 4 | 3 => 3 | n => n, fun | n => n⟩
theorem Tryd.lays208 : Go.Proofs.Lays.n208 Tryd.prog Tryd.lays208_ren := {
  mixed := by kernel_rfl
  f206 := Tryd.func93.trans (congrArg some (by kernel_rfl))
  f208 := Tryd.func87.trans (congrArg some (by kernel_rfl))
  t3 := Tryd.underlying3
  a3 := Tryd.isAgg3
  z3 := Tryd.sizeOf3
  v3 := Tryd.zeroValue3
  t4 := Tryd.underlying4
  a4 := Tryd.isAgg4
  z4 := Tryd.sizeOf4
  v4 := Tryd.zeroValue4
  t9 := Tryd.underlying9
  a9 := Tryd.isAgg9
  z9 := Tryd.sizeOf9
  v9 := Tryd.zeroValue9 }
open Go.RowKit Go.Lib in
/-- internal/stringslite.TrimPrefix (what strings.TrimPrefix calls). (LAID: no walk: one application.) -/
theorem Tryd.stringslite_TrimPrefix (s p : ByteArray) (w : World) :
    Calls Tryd.prog 87 #[.string s, .string p] w fun e w' => e = .returned (.string ⟨(Lib.trimPrefix s.data.toList p.data.toList).toArray⟩) ∧ w' = w := Any.stringslite_TrimPrefix Tryd.lays208 s p w
def Tryd.lays101_ren : Go.Shelf.Ren := ⟨fun | 101 => 61 | 208 => 87 | 206 => 93 | n => n, fun | 9 => 9 | 4 => 4 | 3 => 3 | n => n, fun | n => n⟩
theorem Tryd.lays101 : Go.Proofs.Lays.n101 Tryd.prog Tryd.lays101_ren := {
  mixed := by kernel_rfl
  f101 := Tryd.func61.trans (congrArg some (by kernel_rfl))
  f206 := Tryd.func93.trans (congrArg some (by kernel_rfl))
  f208 := Tryd.func87.trans (congrArg some (by kernel_rfl))
  t3 := Tryd.underlying3
  a3 := Tryd.isAgg3
  z3 := Tryd.sizeOf3
  v3 := Tryd.zeroValue3
  t4 := Tryd.underlying4
  a4 := Tryd.isAgg4
  z4 := Tryd.sizeOf4
  v4 := Tryd.zeroValue4
  t9 := Tryd.underlying9
  a9 := Tryd.isAgg9
  z9 := Tryd.sizeOf9
  v9 := Tryd.zeroValue9 }
open Go.RowKit Go.Lib in
/-- strings.TrimPrefix: "TrimPrefix returns s without the provided leading prefix string. If s doesn't start with prefix, s is returned unchanged.": IT RETURNS 'Lib.trimPrefix s prefix'; the world is as it was. (LAID: no walk: one application.) -/
theorem Tryd.strings_TrimPrefix (s p : ByteArray) (w : World) :
    Calls Tryd.prog 61 #[.string s, .string p] w fun e w' => e = .returned (.string ⟨(Lib.trimPrefix s.data.toList p.data.toList).toArray⟩) ∧ w' = w := Any.strings_TrimPrefix Tryd.lays101 s p w
def Tryd.lays209_ren : Go.Shelf.Ren := ⟨fun | 209 => 82 | 207 => 96 | n => n, fun | 9 => 9 | 4 => 4 | 3 => 3 | n => n, fun | n => n⟩
theorem Tryd.lays209 : Go.Proofs.Lays.n209 Tryd.prog Tryd.lays209_ren := {
  mixed := by kernel_rfl
  f207 := Tryd.func96.trans (congrArg some (by kernel_rfl))
  f209 := Tryd.func82.trans (congrArg some (by kernel_rfl))
  t3 := Tryd.underlying3
  a3 := Tryd.isAgg3
  z3 := Tryd.sizeOf3
  v3 := Tryd.zeroValue3
  t4 := Tryd.underlying4
  a4 := Tryd.isAgg4
  z4 := Tryd.sizeOf4
  v4 := Tryd.zeroValue4
  t9 := Tryd.underlying9
  a9 := Tryd.isAgg9
  z9 := Tryd.sizeOf9
  v9 := Tryd.zeroValue9 }
open Go.RowKit Go.Lib in
/-- internal/stringslite.TrimSuffix (what strings.TrimSuffix calls). (LAID: no walk: one application.) -/
theorem Tryd.stringslite_TrimSuffix (s p : ByteArray) (w : World) (hs : s.size ≤ 9223372036854775807) :
    Calls Tryd.prog 82 #[.string s, .string p] w fun e w' => e = .returned (.string ⟨(Lib.trimSuffix s.data.toList p.data.toList).toArray⟩) ∧ w' = w := Any.stringslite_TrimSuffix Tryd.lays209 s p w hs
def Tryd.lays102_ren : Go.Shelf.Ren := ⟨fun | 102 => 52 | 209 => 82 | 207 => 96 | n => n, fun | 9 => 9 | 4 => 4 | 3 => 3 | n => n, fun | n => n⟩
theorem Tryd.lays102 : Go.Proofs.Lays.n102 Tryd.prog Tryd.lays102_ren := {
  mixed := by kernel_rfl
  f102 := Tryd.func52.trans (congrArg some (by kernel_rfl))
  f207 := Tryd.func96.trans (congrArg some (by kernel_rfl))
  f209 := Tryd.func82.trans (congrArg some (by kernel_rfl))
  t3 := Tryd.underlying3
  a3 := Tryd.isAgg3
  z3 := Tryd.sizeOf3
  v3 := Tryd.zeroValue3
  t4 := Tryd.underlying4
  a4 := Tryd.isAgg4
  z4 := Tryd.sizeOf4
  v4 := Tryd.zeroValue4
  t9 := Tryd.underlying9
  a9 := Tryd.isAgg9
  z9 := Tryd.sizeOf9
  v9 := Tryd.zeroValue9 }
open Go.RowKit Go.Lib in
/-- strings.TrimSuffix: "TrimSuffix returns s without the provided trailing suffix string. If s doesn't end with suffix, s is returned unchanged.": IT RETURNS 'Lib.trimSuffix s suffix'; the world is as it was. (LAID: no walk: one application.) -/
theorem Tryd.strings_TrimSuffix (s p : ByteArray) (w : World) (hs : s.size ≤ 9223372036854775807) :
    Calls Tryd.prog 52 #[.string s, .string p] w fun e w' => e = .returned (.string ⟨(Lib.trimSuffix s.data.toList p.data.toList).toArray⟩) ∧ w' = w := Any.strings_TrimSuffix Tryd.lays102 s p w hs
end Go.Proofs
set_option linter.unusedVariables false
set_option linter.unusedSimpArgs false
namespace Go.Proofs.YtfkaiiconllbhaaDoor.E
open Go.RowKit Go.Proofs.YtfkaiiconllbhaaDoorW.PrintWords
variable {α β S R : Type}

theorem ev_cast {g : Nat → Option α} {r r' : α} (h : Ev g r) (e : r = r') : Ev g r' := e ▸ h
theorem ev_pos {c : Prop} [Decidable c] (h : c) {f g : Nat → Option α} {r : α} (k : Ev f r) : Ev (fun k => if c then f k else g k) r := Ev.congr (fun _ => if_pos h) k
theorem ev_neg {c : Prop} [Decidable c] (h : ¬ c) {f g : Nat → Option α} {r : α} (k : Ev g r) : Ev (fun k => if c then f k else g k) r := Ev.congr (fun _ => if_neg h) k
theorem ev_ite {c : Prop} [Decidable c] {f g : Nat → Option α} {r : α} (h1 : c → Ev f r) (h2 : ¬ c → Ev g r) : Ev (fun k => if c then f k else g k) r := by
  by_cases h : c
  · exact ev_pos h (h1 h)
  · exact ev_neg h (h2 h)
theorem ev_now {r r' : α} (e : r = r') : Ev (fun _ => some r) r' := e ▸ Ev.now r
theorem ev_bind0 {o : Option α} {a : α} (h : o = some a) {f : Nat → α → Option β} {r : β} (k : Ev (fun n => f n a) r) : Ev (fun n => o.bind (f n)) r := by subst h; exact k
/-- With rounds: what a printed function's '.f' tells for ever, told of a number of rounds. -/
theorem ev_get {g : Nat → Option α} {r : α} (h : Ev g r) : ∃ k, g k = some r := Ev.rounds h
theorem wrap_id {x : Int} (h0 : -9223372036854775808 ≤ x) (h1 : x ≤ 9223372036854775807) : wrap64 x = x := IntWalk.wrap64_in x ⟨h0, h1⟩
theorem wrap_succ {i n : Nat} (h : i < n) (hn : n ≤ 9223372036854775807) : wrap64 ((i : Int) + 1) = ((i + 1 : Nat) : Int) := by rw [wrap_id] <;> omega
/-- A loop that asks a test at each place, with a state that is known at each place. -/
theorem ev_all {L : Nat → S → Int → Option R} (n : Nat) (St : Nat → S) (C : Nat → Bool) (F Rn : R) (hend : (∀ j, j < n → C j = true) → Ev (fun k => L k (St n) n) Rn)
    (hs : ∀ i, i < n → (∀ j, j < i → C j = true) → C i = true → ∀ y, Ev (fun k => L k (St (i + 1)) ((i + 1 : Nat) : Int)) y → Ev (fun k => L k (St i) i) y)
    (hf : ∀ i, i < n → (∀ j, j < i → C j = true) → C i = false → Ev (fun k => L k (St i) i) F) : Ev (fun k => L k (St 0) 0) (if (List.range n).all C = true then Rn else F) := by
  have main : ∀ (m i : Nat), m = n - i → i ≤ n → (∀ j, j < i → C j = true) → Ev (fun k => L k (St i) i) (if (List.range n).all C = true then Rn else F) := by
    intro m
    induction m with
    | zero =>
      intro i hm hi hC
      obtain rfl : i = n := by omega
      rw [if_pos (by rw [List.all_eq_true]; intro x hx; exact hC x (List.mem_range.1 hx))]
      exact hend hC
    | succ m ih =>
      intro i hm hi hC
      have hlt : i < n := by omega
      cases hc : C i with
      | true =>
        refine hs i hlt hC hc _ (ih (i + 1) (by omega) (by omega) (fun j hj => ?_))
        by_cases e : j = i
        · rw [e]; exact hc
        · exact hC j (by omega)
      | false =>
        rw [if_neg (by rw [List.all_eq_true]; intro h; rw [h i (List.mem_range.2 hlt)] at hc; cases hc)]
        exact hf i hlt hC hc
  exact main n 0 (by omega) (by omega) (fun j hj => by omega)
theorem all_range {n : Nat} {C : Nat → Bool} : (List.range n).all C = true ↔ ∀ i, i < n → C i = true := by
  rw [List.all_eq_true]
  exact ⟨fun h i hi => h i (List.mem_range.2 hi), fun h i hi => h i (List.mem_range.1 hi)⟩
theorem getD_in {α : Type} {l : List α} {i : Nat} (h : i < l.length) (d : α) : l.getD i d = l[i] := by rw [List.getD_eq_getElem?_getD, List.getElem?_eq_getElem h, Option.getD_some]
end Go.Proofs.YtfkaiiconllbhaaDoor.E
namespace Go.Proofs.YtfkaiiconllbhaaDoor.X
open Go.RowKit Go.Proofs.YtfkaiiconllbhaaDoorW.PrintWords Go.Proofs.YtfkaiiconllbhaaDoorW.PrintLast Go.Proofs.YtfkaiiconllbhaaDoorW.PrintMore Go.Proofs.YtfkaiiconllbhaaDoor.E
attribute [local go_sem] max2_int min2_int max_two min_two max_three min_three max_four min_four   -- for this text's walks alone
set_option linter.unusedVariables false
set_option linter.unusedSimpArgs false
attribute [-simp] ByteArray.size_append ByteArray.size_extract
attribute [-go_sem] ByteArray.size_append'

/-! ### strconv_Itoa: function 44 -/
def strconv_Itoa.f (a0 : Int) : Option ByteArray := if -9223372036854775808 ≤ a0 ∧ a0 ≤ 9223372036854775807 then some ⟨(Lib.itoa a0).toArray⟩ else none
theorem strconv_Itoa.calls (a0 : Int) (r : ByteArray) (w : World) (hG : GT w) (h : strconv_Itoa.f a0 = some r) :
  Calls Tryd.prog 44 #[.int .i64 a0] w fun e w' => e = .returned (.string r) ∧ Below w.heap.size w w' := by
 (unfold strconv_Itoa.f at h); (split at h); (· (rename_i hc); (cases h); (refine (Tryd.strconv_Itoa a0 hc.1 hc.2 w hG).mono ?_); (rintro e w' ⟨rfl, k, os, rfl⟩); (exact ⟨rfl, Lib.below_grow _ _ (Nat.le_refl _) _ _⟩)); (· (cases h))

end Go.Proofs.YtfkaiiconllbhaaDoor.X
namespace Go.Proofs.YtfkaiiconllbhaaDoor.X
open Go.RowKit Go.Proofs.YtfkaiiconllbhaaDoorW.PrintWords Go.Proofs.YtfkaiiconllbhaaDoorW.PrintLast Go.Proofs.YtfkaiiconllbhaaDoorW.PrintMore
attribute [local go_sem] max2_int min2_int max_two min_two max_three min_three max_four min_four   -- for this text's walks alone
set_option linter.unusedVariables false
set_option linter.unusedSimpArgs false
attribute [-simp] ByteArray.size_append ByteArray.size_extract
attribute [-go_sem] ByteArray.size_append'

/-! ### impl_yearText: function 32 -/
def impl_yearText.f (a0 : Int) : Option (ByteArray) := if a0 > 0 then ((strconv_Itoa.f a0).bind fun t101 => (if 3 + t101.size ≤ 9223372036854775807 then (some ((⟨#[65, 68, 32]⟩ : ByteArray) ++ t101)) else (none))) else ((strconv_Itoa.f (wrap64 (1 - a0))).bind fun t102 => (if t102.size + 3 ≤ 9223372036854775807 then (some (t102 ++ (⟨#[32, 66, 67]⟩ : ByteArray))) else (none)))
set_option maxHeartbeats 8000000 in
set_option maxRecDepth 100000 in
theorem impl_yearText.calls (a0 : Int) (r : ByteArray) (w : World) (hG : GT w) (h : impl_yearText.f a0 = some r) :
  Calls Tryd.prog 32 #[.int .i64 a0] w fun e w' => e = .returned (.string r) ∧ Below w.heap.size w w' := by
 (have HG := Aside0.mk hG); clear hG; (have HB := Aside0.mk (Below.refl w.heap.size w)); (unfold impl_yearText.f at h); (have H := h); clear h; (by_cases c2 : a0 > 0)
 ·rw [if_pos c2] at H
  (have c2b0 : decide (0 < a0) = true := decide_eq_true c2); clear c2; (replace H := obS H); (obtain ⟨t101, A3, H⟩ := H); (by_cases c4 : 3 + t101.size ≤ 9223372036854775807); (· (rw [if_pos c4] at H); (have c4b0 := eq_true c4); (have c4b1 := decide_eq_true c4); (try have c4b2 : (9223372036854775807 < 3 + t101.size) = False := eq_false (Nat.not_lt.2 c4)); (obtain rfl := Option.some.inj H); (go_enter Tryd.func32, Tryd.ntmps32); (go_wp2_with (first | ((with_reducible refine gate_callee (f := 44) rfl ?_); refine gL (some 6) Tryd.func44 #[.int .i64 a0] ?_; (with_reducible refine (strconv_Itoa.calls a0 t101 _ ?side1 A3.out).mono ?_); (case side1 => first | exact GT.below HG.out (eI HB) | (repeat (first | exact HG.out | (with_reducible first | apply GT.drewN | apply GT.drew | apply GT.alloc)))); rintro e w5 ⟨rfl, hb⟩; refine ⟨_, rfl, ?_⟩; have n0_ := Aside0.mk (sI hb HB); clear HB; have HB := n0_; clear n0_; (try clear hb); (try clear hb2); (try clear hk); (try clear hi)))); go_ret; (exact ⟨rfl, eI HB⟩)); (· (rw [if_neg c4] at H); (exact absurd H (by simp)))
 ·rw [if_neg c2] at H
  (have c2b0 : decide (0 < a0) = false := decide_eq_false c2); clear c2; (replace H := obS H); (obtain ⟨t102, A6, H⟩ := H); (by_cases c7 : t102.size + 3 ≤ 9223372036854775807); (· (rw [if_pos c7] at H); (have c7b0 := eq_true c7); (have c7b1 := decide_eq_true c7); (try have c7b2 : (9223372036854775807 < t102.size + 3) = False := eq_false (Nat.not_lt.2 c7)); (obtain rfl := Option.some.inj H); (go_enter Tryd.func32, Tryd.ntmps32); (go_wp2_with (first | ((with_reducible refine gate_callee (f := 44) rfl ?_); refine gL (some 10) Tryd.func44 #[.int .i64 (wrap64 (1 - a0))] ?_; (with_reducible refine (strconv_Itoa.calls (wrap64 (1 - a0)) t102 _ ?side1 A6.out).mono ?_); (case side1 => first | exact GT.below HG.out (eI HB) | (repeat (first | exact HG.out | (with_reducible first | apply GT.drewN | apply GT.drew | apply GT.alloc)))); rintro e w8 ⟨rfl, hb⟩; refine ⟨_, rfl, ?_⟩; have n0_ := Aside0.mk (sI hb HB); clear HB; have HB := n0_; clear n0_; (try clear hb); (try clear hb2); (try clear hk); (try clear hi)))); go_ret; (exact ⟨rfl, eI HB⟩)); (· (rw [if_neg c7] at H); (exact absurd H (by simp)))
/-! ### impl_intervalText: function 36 -/
def impl_intervalText.f (a0_0 : Int) (a0_1 : Int) : Option (ByteArray) := if a0_0 = a0_1 then ((impl_yearText.f a0_0).bind fun t102 => (if 3 + t102.size ≤ 9223372036854775807 then (some ((⟨#[105, 110, 32]⟩ : ByteArray) ++ t102)) else (none))) else ((impl_yearText.f a0_0).bind fun t103 => (if 8 + t103.size ≤ 9223372036854775807 then (if ((⟨#[98, 101, 116, 119, 101, 101, 110, 32]⟩ : ByteArray) ++ t103).size + 5 ≤ 9223372036854775807 then ((impl_yearText.f a0_1).bind fun t104 => (if (((⟨#[98, 101, 116, 119, 101, 101, 110, 32]⟩ : ByteArray) ++ t103) ++ (⟨#[32, 97, 110, 100, 32]⟩ : ByteArray)).size + t104.size ≤ 9223372036854775807 then (some ((((⟨#[98, 101, 116, 119, 101, 101, 110, 32]⟩ : ByteArray) ++ t103) ++ (⟨#[32, 97, 110, 100, 32]⟩ : ByteArray)) ++ t104)) else (none))) else (none)) else (none)))
def impl_intervalText.T3 : Bool × List (List Nat × List Nat) := (true, [([], []), ([0], [0]), ([1], [1]), ([2], [2]), ([3], [3]), ([], []), ([5], [5]), ([6, 2], [6]), ([4, 7], [4, 7]), ([8, 7, 0, 1, 2, 3, 4, 5, 6, 7, 8], [8])])
def impl_intervalText.B3 : List Nat := [0, 1, 3, 7, 15, 0, 32, 103, 255, 511]
theorem impl_intervalText.tab3 : rtab .any (opsOf Tryd.f36 3) = impl_intervalText.T3 := by kernel_rfl
theorem impl_intervalText.bits3 : waitsOk impl_intervalText.T3.2 impl_intervalText.B3 = true := by kernel_rfl
set_option maxHeartbeats 8000000 in
set_option maxRecDepth 100000 in
theorem impl_intervalText.calls (a0_0 : Int) (a0_1 : Int) (r : ByteArray) (w : World) (hG : GT w) (h : impl_intervalText.f a0_0 a0_1 = some r) :
  Calls Tryd.prog 36 #[.agg #[.int .i64 a0_0, .int .i64 a0_1]] w fun e w' => e = .returned (.string r) ∧ Below w.heap.size w w' := by
 (have hu28 := Tryd.underlying28); (have HG := Aside0.mk hG); clear hG; (have HB := Aside0.mk (Below.refl w.heap.size w)); (unfold impl_intervalText.f at h); (have H := h); clear h; (by_cases c2 : a0_0 = a0_1)
 ·rw [if_pos c2] at H
  (have c2b0 : (a0_0 == a0_1) = true := beq_iff_eq.mpr c2); (have c2b1 : (a0_0 != a0_1) = false := bne_eq_false_iff_eq.mpr c2); clear c2; (replace H := obS H); (obtain ⟨t102, A3, H⟩ := H); (by_cases c4 : 3 + t102.size ≤ 9223372036854775807); (· (rw [if_pos c4] at H); (have c4b0 := eq_true c4); (have c4b1 := decide_eq_true c4); (try have c4b2 : (9223372036854775807 < 3 + t102.size) = False := eq_false (Nat.not_lt.2 c4)); (obtain rfl := Option.some.inj H); (go_enter Tryd.func36, Tryd.ntmps36); (go_wp2_with (first | ((with_reducible refine gate_dst (N := 1) rfl ?_); refine box_event ?hg (N := 1) ?hd (cs := #[.int .i64 a0_0, .int .i64 a0_1]) (t := 28) ?hr ?_; (case hd => rfl); (case hg => rfl); (case hr => first | (go_simp; done) | (go_simp; rfl)); intro gb101 hg w5 hbox hb; have hB_ := zI hb HB; have n0_ := Aside0.mk (below_step hB_ hb); have n1_ := Aside0.mk (hbox); have n2_ := Aside0.mk (bx0 hg hB_); have n3_ := n2_; clear HB; have HB := n0_; have BK101 := n1_; have GW101 := n2_; have GE101 := n3_; clear n0_ n1_ n2_ n3_ hB_ hb hbox hg; have hcz6_0 := cz BK101.out 0; have hcz6_1 := cz BK101.out 1; have hfz6_0 := blk_frozen BK101.out 0; have hfz6_1 := blk_frozen BK101.out 1) | ((with_reducible refine gate_callee (f := 32) rfl ?_); refine gL (some 10) Tryd.func32 #[.int .i64 a0_0] ?_; (with_reducible refine (impl_yearText.calls a0_0 t102 _ ?side1 A3.out).mono ?_); (case side1 => first | exact GT.below HG.out (eI HB) | (repeat (first | exact HG.out | (with_reducible first | apply GT.drewN | apply GT.drew | apply GT.alloc)))); rintro e w7 ⟨rfl, hb⟩; refine ⟨_, rfl, ?_⟩; have n0_ := Aside0.mk (kbI hb BK101); have n1_ := Aside0.mk (sI hb HB); clear BK101 HB; have BK101 := n0_; have HB := n1_; clear n0_ n1_; (try clear hb); (try clear hb2); (try clear hk); (try clear hi)))); go_ret; (exact ⟨rfl, eI HB⟩)); (· (rw [if_neg c4] at H); (exact absurd H (by simp)))
 ·rw [if_neg c2] at H
  (have c2b0 : (a0_0 == a0_1) = false := beq_eq_false_iff_ne.mpr c2); (have c2b1 : (a0_0 != a0_1) = true := bne_iff_ne.mpr c2); (replace H := obS H); (obtain ⟨t103, A8, H⟩ := H); (by_cases c9 : 8 + t103.size ≤ 9223372036854775807)
  ·rw [if_pos c9] at H
   (have c9b0 := eq_true c9); (have c9b1 := decide_eq_true c9); (try have c9b2 : (9223372036854775807 < 8 + t103.size) = False := eq_false (Nat.not_lt.2 c9)); (by_cases c10 : ((⟨#[98, 101, 116, 119, 101, 101, 110, 32]⟩ : ByteArray) ++ t103).size + 5 ≤ 9223372036854775807)
   ·rw [if_pos c10] at H
    (have c10b0 := eq_true c10); (have c10b1 := decide_eq_true c10); (try have c10n0 := c10b0); (try (push_cast [Int.toNat_natCast, ByteArray.size_append, show (⟨#[98, 101, 116, 119, 101, 101, 110, 32]⟩ : ByteArray).size = 8 from rfl] at c10n0)); (try have c10n1 := c10b1); (try (push_cast [Int.toNat_natCast, ByteArray.size_append, show (⟨#[98, 101, 116, 119, 101, 101, 110, 32]⟩ : ByteArray).size = 8 from rfl] at c10n1)); (try have c10b2 : (9223372036854775807 < ((⟨#[98, 101, 116, 119, 101, 101, 110, 32]⟩ : ByteArray) ++ t103).size + 5) = False := eq_false (Nat.not_lt.2 c10)); (try have c10b3 := c10b2); (try simp only [ByteArray.size_append, show (⟨#[98, 101, 116, 119, 101, 101, 110, 32]⟩ : ByteArray).size = 8 from rfl] at c10b3); (replace H := obS H); (obtain ⟨t104, A11, H⟩ := H); (by_cases c12 : (((⟨#[98, 101, 116, 119, 101, 101, 110, 32]⟩ : ByteArray) ++ t103) ++ (⟨#[32, 97, 110, 100, 32]⟩ : ByteArray)).size + t104.size ≤ 9223372036854775807)
    ·rw [if_pos c12] at H
     (have c12b0 := eq_true c12); (have c12b1 := decide_eq_true c12); (try have c12n0 := c12b0); (try (push_cast [Int.toNat_natCast, ByteArray.size_append, show (⟨#[32, 97, 110, 100, 32]⟩ : ByteArray).size = 5 from rfl, show (⟨#[98, 101, 116, 119, 101, 101, 110, 32]⟩ : ByteArray).size = 8 from rfl] at c12n0)); (try have c12n1 := c12b1); (try (push_cast [Int.toNat_natCast, ByteArray.size_append, show (⟨#[32, 97, 110, 100, 32]⟩ : ByteArray).size = 5 from rfl, show (⟨#[98, 101, 116, 119, 101, 101, 110, 32]⟩ : ByteArray).size = 8 from rfl] at c12n1)); (try have c12b2 : (9223372036854775807 < (((⟨#[98, 101, 116, 119, 101, 101, 110, 32]⟩ : ByteArray) ++ t103) ++ (⟨#[32, 97, 110, 100, 32]⟩ : ByteArray)).size + t104.size) = False := eq_false (Nat.not_lt.2 c12)); (try have c12b3 := c12b2); (try simp only [ByteArray.size_append, show (⟨#[32, 97, 110, 100, 32]⟩ : ByteArray).size = 5 from rfl, show (⟨#[98, 101, 116, 119, 101, 101, 110, 32]⟩ : ByteArray).size = 8 from rfl] at c12b3); (obtain rfl := Option.some.inj H); (go_enter Tryd.func36, Tryd.ntmps36); (try go_wp2_with (first | ((with_reducible refine gate_dst (N := 1) rfl ?_); refine box_event ?hg (N := 1) ?hd (cs := #[.int .i64 a0_0, .int .i64 a0_1]) (t := 28) ?hr ?_; (case hd => rfl); (case hg => rfl); (case hr => first | (go_simp; done) | (go_simp; rfl)); intro gb101 hg w13 hbox hb; have hB_ := zI hb HB; have n0_ := Aside0.mk (below_step hB_ hb); have n1_ := Aside0.mk (hbox); have n2_ := Aside0.mk (bx0 hg hB_); have n3_ := n2_; clear HB; have HB := n0_; have BK101 := n1_; have GW101 := n2_; have GE101 := n3_; clear n0_ n1_ n2_ n3_ hB_ hb hbox hg; have hcz14_0 := cz BK101.out 0; have hcz14_1 := cz BK101.out 1; have hfz14_0 := blk_frozen BK101.out 0; have hfz14_1 := blk_frozen BK101.out 1))); (have n0_ := Aside0.mk (blk_drew BK101.out)); (have n1_ := Aside0.mk (below_drew1 HB.out)); clear BK101 HB; (have BK101 := n0_); (have HB := n1_); clear n0_ n1_; (refine start_ (n := 10) (S := fun w' => w'.cell? ⟨gb101, 0, none⟩ = some (.int .i64 a0_0) ∧ w'.cell? ⟨gb101, 1, none⟩ = some (.int .i64 a0_1)) (ds := []) (cn 10 0) (by kernel_rfl) rfl (by kernel_rfl) ⟨cz BK101.out 0, cz BK101.out 1⟩ (fun hHeld => ?_); refine with_tabW impl_intervalText.tab3 impl_intervalText.bits3 (fun HT_ HW_ => ?_)); (generalize w13.drew = w15 at BK101 HB hHeld ⊢); (refine pB 0 (cn 10 1) (some 12) HT_ (h := ?_)); (refine pB 5 (cb 10 33) (some 17) HT_ (h := ?_)); (refine tB 1 (cb 10 35) (some 13) HT_ HW_ hHeld (h := ?_)); (refine tB 6 (cb 10 99) (some 18) HT_ HW_ hHeld (h := ?_)); (refine oN 2 (some 14) (cb 10 103) HT_ (fun K hK => ?_)); (refine gG Tryd.func32 #[.int .i64 a0_0] ?_); (with_reducible refine (impl_yearText.calls a0_0 t103 _ ?side1 A8.out).mono ?_); ((case side1 => first | exact GT.below HG.out (eI HB) | (repeat (first | exact HG.out | (with_reducible first | apply GT.drewN | apply GT.drew | apply GT.alloc))))); (rintro e w16 ⟨rfl, hb⟩); (refine ⟨_, rfl, ?_⟩); (have n0_ := Aside0.mk (kbI hb BK101)); (have n1_ := Aside0.mk (sI hb HB)); clear BK101 HB; (have BK101 := n0_); (have HB := n1_); clear n0_ n1_; ((try clear hb)); ((try clear hb2)); ((try clear hk)); ((try clear hi)); (refine hK.out _ _ ⟨cz BK101.out 0, cz BK101.out 1⟩ (fun hHeld => ?_)); clear hK K; (refine nP (some 14) (h := ?_)); (refine pB 3 (cb 10 111) (some 15) HT_ (h := ?_))
     (refine pB 4 (cn 10 7) (some 16) HT_ (h := ?_)); (refine oN 7 (some 19) (cn 10 8) HT_ (fun K hK => ?_)); (refine gG Tryd.func32 #[.int .i64 a0_1] ?_); (with_reducible refine (impl_yearText.calls a0_1 t104 _ ?side1 A11.out).mono ?_); ((case side1 => first | exact GT.below HG.out (eI HB) | (repeat (first | exact HG.out | (with_reducible first | apply GT.drewN | apply GT.drew | apply GT.alloc))))); (rintro e w17 ⟨rfl, hb⟩); (refine ⟨_, rfl, ?_⟩); (have n0_ := Aside0.mk (kbI hb BK101)); (have n1_ := Aside0.mk (sI hb HB)); clear BK101 HB; (have BK101 := n0_); (have HB := n1_); clear n0_ n1_; ((try clear hb)); ((try clear hb2)); ((try clear hk)); ((try clear hi)); (refine hK.out _ _ ⟨cz BK101.out 0, cz BK101.out 1⟩ (fun hHeld => ?_)); clear hK K; (refine nP (some 19) (h := ?_)); (refine pB 8 (cn 10 9) (some 20) HT_ (h := ?_)); (refine pB 9 (cn 10 10) (some 2) HT_ (h := ?_)); (refine done_ (done_of HT_.out (by kernel_rfl)) ?_); (try go_wp2); go_ret; (exact ⟨rfl, eI HB⟩)
    ·rw [if_neg c12] at H
     exact absurd H (by simp)
   ·rw [if_neg c10] at H
    exact absurd H (by simp)
  ·rw [if_neg c9] at H
   exact absurd H (by simp)
/-! ### impl_IntervalToEnglish: function 13 -/
def impl_IntervalToEnglish.f (a0_0 : Int) (a0_1 : Int) : Option (ByteArray × Bool) := (impl_isInterval.f a0_0 a0_1).bind fun t102 => (if t102 = true then ((impl_intervalText.f a0_0 a0_1).bind fun t103 => (some (t103, true))) else (some ((⟨#[]⟩ : ByteArray), false)))
set_option maxHeartbeats 8000000 in
set_option maxRecDepth 100000 in
theorem impl_IntervalToEnglish.calls (a0_0 : Int) (a0_1 : Int) (r1 : ByteArray) (r2 : Bool) (w : World) (hG : GT w) (h : impl_IntervalToEnglish.f a0_0 a0_1 = some (r1, r2)) :
  Calls Tryd.prog 13 #[.agg #[.int .i64 a0_0, .int .i64 a0_1]] w fun e w' => e = .returned (.tuple #[.string r1, .bool r2]) ∧ Below w.heap.size w w' := by
 (have hu28 := Tryd.underlying28); (have HG := Aside0.mk hG); clear hG; (have HB := Aside0.mk (Below.refl w.heap.size w)); (unfold impl_IntervalToEnglish.f at h); (have H := h); clear h; (replace H := obS H); (obtain ⟨t102, A2, H⟩ := H); (by_cases c3 : t102 = true)
 ·subst c3
  (rw [if_pos rfl] at H); (replace H := obS H); (obtain ⟨t103, A4, H⟩ := H); (simp only [Option.some.injEq, Prod.mk.injEq] at H); (obtain ⟨rfl, rfl⟩ := H); (go_enter Tryd.func13, Tryd.ntmps13); (go_wp2_with (first | ((with_reducible refine gate_dst (N := 1) rfl ?_); refine box_event ?hg (N := 1) ?hd (cs := #[.int .i64 a0_0, .int .i64 a0_1]) (t := 28) ?hr ?_; (case hd => rfl); (case hg => rfl); (case hr => first | (go_simp; done) | (go_simp; rfl)); intro gb101 hg w5 hbox hb; have hB_ := zI hb HB; have n0_ := Aside0.mk (below_step hB_ hb); have n1_ := Aside0.mk (hbox); have n2_ := Aside0.mk (bx0 hg hB_); have n3_ := n2_; clear HB; have HB := n0_; have BK101 := n1_; have GW101 := n2_; have GE101 := n3_; clear n0_ n1_ n2_ n3_ hB_ hb hbox hg; have hcz6_0 := cz BK101.out 0; have hcz6_1 := cz BK101.out 1; have hfz6_0 := blk_frozen BK101.out 0; have hfz6_1 := blk_frozen BK101.out 1) | ((with_reducible refine gate_callee (f := 35) rfl ?_); refine gL (some 5) Tryd.func35 #[.agg #[.int .i64 a0_0, .int .i64 a0_1]] ?_; (with_reducible refine (impl_isInterval.calls a0_0 a0_1 true _ A2.out).mono ?_); rintro e w7 ⟨rfl, hb⟩; refine ⟨_, rfl, ?_⟩; have n0_ := Aside0.mk (kbI hb BK101); have n1_ := Aside0.mk (sI hb HB); clear BK101 HB; have BK101 := n0_; have HB := n1_; clear n0_ n1_; (try clear hb); (try clear hb2); (try clear hk); (try clear hi); have hcz8_0 := cz BK101.out 0; have hcz8_1 := cz BK101.out 1; have hfz8_0 := blk_frozen BK101.out 0; have hfz8_1 := blk_frozen BK101.out 1) | ((with_reducible refine gate_callee (f := 36) rfl ?_); refine gL (some 8) Tryd.func36 #[.agg #[.int .i64 a0_0, .int .i64 a0_1]] ?_; (with_reducible refine (impl_intervalText.calls a0_0 a0_1 t103 _ ?side1 A4.out).mono ?_); (case side1 => first | exact GT.below HG.out (eI HB) | (repeat (first | exact HG.out | (with_reducible first | apply GT.drewN | apply GT.drew | apply GT.alloc)))); rintro e w9 ⟨rfl, hb⟩; refine ⟨_, rfl, ?_⟩; have n0_ := Aside0.mk (kbI hb BK101); have n1_ := Aside0.mk (sI hb HB); clear BK101 HB; have BK101 := n0_; have HB := n1_; clear n0_ n1_; (try clear hb); (try clear hb2); (try clear hk); (try clear hi)))); (go_ret2); (exact ⟨rfl, eI HB⟩)
 ·replace c3 := Bool.eq_false_iff.mpr c3
  subst c3; (rw [if_neg (show ¬ (false = true) by decide)] at H); (simp only [Option.some.injEq, Prod.mk.injEq] at H); (obtain ⟨rfl, rfl⟩ := H); (go_enter Tryd.func13, Tryd.ntmps13); (go_wp2_with (first | ((with_reducible refine gate_dst (N := 1) rfl ?_); refine box_event ?hg (N := 1) ?hd (cs := #[.int .i64 a0_0, .int .i64 a0_1]) (t := 28) ?hr ?_; (case hd => rfl); (case hg => rfl); (case hr => first | (go_simp; done) | (go_simp; rfl)); intro gb101 hg w10 hbox hb; have hB_ := zI hb HB; have n0_ := Aside0.mk (below_step hB_ hb); have n1_ := Aside0.mk (hbox); have n2_ := Aside0.mk (bx0 hg hB_); have n3_ := n2_; clear HB; have HB := n0_; have BK101 := n1_; have GW101 := n2_; have GE101 := n3_; clear n0_ n1_ n2_ n3_ hB_ hb hbox hg; have hcz11_0 := cz BK101.out 0; have hcz11_1 := cz BK101.out 1; have hfz11_0 := blk_frozen BK101.out 0; have hfz11_1 := blk_frozen BK101.out 1) | ((with_reducible refine gate_callee (f := 35) rfl ?_); refine gL (some 5) Tryd.func35 #[.agg #[.int .i64 a0_0, .int .i64 a0_1]] ?_; (with_reducible refine (impl_isInterval.calls a0_0 a0_1 false _ A2.out).mono ?_); rintro e w12 ⟨rfl, hb⟩; refine ⟨_, rfl, ?_⟩; have n0_ := Aside0.mk (kbI hb BK101); have n1_ := Aside0.mk (sI hb HB); clear BK101 HB; have BK101 := n0_; have HB := n1_; clear n0_ n1_; (try clear hb); (try clear hb2); (try clear hk); (try clear hi)))); (go_ret2); (exact ⟨rfl, eI HB⟩)
/-! ### impl_YearToEnglish: function 10 -/
def impl_YearToEnglish.f (a0 : Int) : Option (ByteArray × Bool) := (impl_isYear.f a0).bind fun t101 => (if t101 = true then ((impl_yearText.f a0).bind fun t102 => (some (t102, true))) else (some ((⟨#[]⟩ : ByteArray), false)))
set_option maxHeartbeats 8000000 in
set_option maxRecDepth 100000 in
theorem impl_YearToEnglish.calls (a0 : Int) (r1 : ByteArray) (r2 : Bool) (w : World) (hG : GT w) (h : impl_YearToEnglish.f a0 = some (r1, r2)) :
  Calls Tryd.prog 10 #[.int .i64 a0] w fun e w' => e = .returned (.tuple #[.string r1, .bool r2]) ∧ Below w.heap.size w w' := by
 (have HG := Aside0.mk hG); clear hG; (have HB := Aside0.mk (Below.refl w.heap.size w)); (unfold impl_YearToEnglish.f at h); (have H := h); clear h; (replace H := obS H); (obtain ⟨t101, A2, H⟩ := H); (by_cases c3 : t101 = true)
 ·subst c3
  (rw [if_pos rfl] at H); (replace H := obS H); (obtain ⟨t102, A4, H⟩ := H); (simp only [Option.some.injEq, Prod.mk.injEq] at H); (obtain ⟨rfl, rfl⟩ := H); (go_enter Tryd.func10, Tryd.ntmps10); (go_wp2_with (first | ((with_reducible refine gate_callee (f := 31) rfl ?_); refine gL (some 5) Tryd.func31 #[.int .i64 a0] ?_; (with_reducible refine (impl_isYear.calls a0 true _ A2.out).mono ?_); rintro e w' ⟨rfl, ⟨nd, rfl⟩⟩; refine ⟨_, rfl, ?_⟩) | ((with_reducible refine gate_callee (f := 32) rfl ?_); refine gL (some 8) Tryd.func32 #[.int .i64 a0] ?_; (with_reducible refine (impl_yearText.calls a0 t102 _ ?side1 A4.out).mono ?_); (case side1 => first | exact GT.below HG.out (eI HB) | (repeat (first | exact HG.out | (with_reducible first | apply GT.drewN | apply GT.drew | apply GT.alloc)))); rintro e w5 ⟨rfl, hb⟩; refine ⟨_, rfl, ?_⟩; have n0_ := Aside0.mk (sI hb HB); clear HB; have HB := n0_; clear n0_; (try clear hb); (try clear hb2); (try clear hk); (try clear hi)))); (go_ret2); (exact ⟨rfl, eI HB⟩)
 ·replace c3 := Bool.eq_false_iff.mpr c3
  subst c3; (rw [if_neg (show ¬ (false = true) by decide)] at H); (simp only [Option.some.injEq, Prod.mk.injEq] at H); (obtain ⟨rfl, rfl⟩ := H); (go_enter Tryd.func10, Tryd.ntmps10); (go_wp2_with (first | ((with_reducible refine gate_callee (f := 31) rfl ?_); refine gL (some 5) Tryd.func31 #[.int .i64 a0] ?_; (with_reducible refine (impl_isYear.calls a0 false _ A2.out).mono ?_); rintro e w' ⟨rfl, ⟨nd, rfl⟩⟩; refine ⟨_, rfl, ?_⟩))); (go_ret2); (exact ⟨rfl, eI HB⟩)
/-! ### stringslite_HasPrefix: function 93 -/
def stringslite_HasPrefix.f (a0 : ByteArray) (a1 : ByteArray) : Option (Bool) := if (a0.size : Int) ≥ (a1.size : Int) then (if 0 ≤ (a1.size : Int) then (if (a1.size : Int) ≤ (a0.size : Int) then (some ((a0.extract 0 a1.size).toList == a1.toList)) else (none)) else (none)) else (some false)
set_option maxHeartbeats 8000000 in
set_option maxRecDepth 100000 in
theorem stringslite_HasPrefix.calls (a0 : ByteArray) (a1 : ByteArray) (r : Bool) (w : World) (h : stringslite_HasPrefix.f a0 a1 = some r) :
  Calls Tryd.prog 93 #[.string a0, .string a1] w fun e w' => e = .returned (.bool r) ∧ Drawn0 w w' := by
 (unfold stringslite_HasPrefix.f at h); (have H := h); clear h; (by_cases c3 : (a0.size : Int) ≥ (a1.size : Int))
 ·rw [if_pos c3] at H
  (have c3b0 : decide ((a1.size : Int) ≤ (a0.size : Int)) = true := decide_eq_true c3); (have c3b1 : decide (a1.size ≤ a0.size) = true := decide_eq_true (Int.ofNat_le.mp c3)); clear c3; (by_cases c4 : 0 ≤ (a1.size : Int))
  ·rw [if_pos c4] at H
   (have c4b0 := eq_true c4); (have c4b1 := decide_eq_true c4); clear c4; (by_cases c5 : (a1.size : Int) ≤ (a0.size : Int)); (· (rw [if_pos c5] at H); (have c5b0 := eq_true c5); (have c5b1 := decide_eq_true c5); clear c5; (obtain rfl := Option.some.inj H); (go_enter Tryd.func93, Tryd.ntmps93); (go_wp2); go_ret; (exact ⟨by first | rfl | (simp; done) | (simp [*]; done), by repeat (first | exact Drawn0.refl _ | apply Drawn0.step)⟩)); (· (rw [if_neg c5] at H); (exact absurd H (by simp)))
  ·rw [if_neg c4] at H
   exact absurd H (by simp)
 ·rw [if_neg c3] at H
  (have c3b0 : decide ((a1.size : Int) ≤ (a0.size : Int)) = false := decide_eq_false c3); (have c3b1 : decide (a1.size ≤ a0.size) = false := decide_eq_false (fun h => c3 (Int.ofNat_le.mpr h))); clear c3; (obtain rfl := Option.some.inj H); (go_enter Tryd.func93, Tryd.ntmps93); (go_wp2); go_ret; (exact ⟨by first | rfl | (simp; done) | (simp [*]; done), by repeat (first | exact Drawn0.refl _ | apply Drawn0.step)⟩)
/-! ### stringslite_CutPrefix: function 80 -/
def stringslite_CutPrefix.f (a0 : ByteArray) (a1 : ByteArray) : Option (ByteArray × Bool) := (stringslite_HasPrefix.f a0 a1).bind fun t101 => (if t101 = true then (if 0 ≤ (a1.size : Int) then (if (a1.size : Int) ≤ (a0.size : Int) then (some (a0.extract a1.size a0.size, true)) else (none)) else (none)) else (some (a0, false)))
set_option maxHeartbeats 8000000 in
set_option maxRecDepth 100000 in
theorem stringslite_CutPrefix.calls (a0 : ByteArray) (a1 : ByteArray) (r1 : ByteArray) (r2 : Bool) (w : World) (h : stringslite_CutPrefix.f a0 a1 = some (r1, r2)) :
  Calls Tryd.prog 80 #[.string a0, .string a1] w fun e w' => e = .returned (.tuple #[.string r1, .bool r2]) ∧ Drawn0 w w' := by
 (unfold stringslite_CutPrefix.f at h); (have H := h); clear h; (replace H := obS H); (obtain ⟨t101, A3, H⟩ := H); (by_cases c4 : t101 = true)
 ·subst c4
  (rw [if_pos rfl] at H); (by_cases c5 : 0 ≤ (a1.size : Int))
  ·rw [if_pos c5] at H
   (have c5b0 := eq_true c5); (have c5b1 := decide_eq_true c5); clear c5; (by_cases c6 : (a1.size : Int) ≤ (a0.size : Int)); (· (rw [if_pos c6] at H); (have c6b0 := eq_true c6); (have c6b1 := decide_eq_true c6); clear c6; (simp only [Option.some.injEq, Prod.mk.injEq] at H); (obtain ⟨rfl, rfl⟩ := H); (go_enter Tryd.func80, Tryd.ntmps80); (go_wp2_with (first | ((with_reducible refine gate_callee (f := 93) rfl ?_); refine gL (some 8) Tryd.func93 #[.string a0, .string a1] ?_; (with_reducible refine (stringslite_HasPrefix.calls a0 a1 true _ A3.out).mono ?_); rintro e w' ⟨rfl, ⟨nd, rfl⟩⟩; refine ⟨_, rfl, ?_⟩))); (go_ret2); (exact ⟨by first | rfl | (simp; done) | (simp [*]; done), by repeat (first | exact Drawn0.refl _ | apply Drawn0.step)⟩)); (· (rw [if_neg c6] at H); (exact absurd H (by simp)))
  ·rw [if_neg c5] at H
   exact absurd H (by simp)
 ·replace c4 := Bool.eq_false_iff.mpr c4
  subst c4; (rw [if_neg (show ¬ (false = true) by decide)] at H); (simp only [Option.some.injEq, Prod.mk.injEq] at H); (obtain ⟨rfl, rfl⟩ := H); (go_enter Tryd.func80, Tryd.ntmps80); (go_wp2_with (first | ((with_reducible refine gate_callee (f := 93) rfl ?_); refine gL (some 8) Tryd.func93 #[.string a0, .string a1] ?_; (with_reducible refine (stringslite_HasPrefix.calls a0 a1 false _ A3.out).mono ?_); rintro e w' ⟨rfl, ⟨nd, rfl⟩⟩; refine ⟨_, rfl, ?_⟩))); (go_ret2); (exact ⟨by first | rfl | (simp; done) | (simp [*]; done), by repeat (first | exact Drawn0.refl _ | apply Drawn0.step)⟩)
/-! ### strings_CutPrefix: function 50 -/
def strings_CutPrefix.f (a0 : ByteArray) (a1 : ByteArray) : Option (ByteArray × Bool) := (stringslite_CutPrefix.f a0 a1).bind fun bt101 => (some (bt101.1, bt101.2))
set_option maxHeartbeats 8000000 in
set_option maxRecDepth 100000 in
theorem strings_CutPrefix.calls (a0 : ByteArray) (a1 : ByteArray) (r1 : ByteArray) (r2 : Bool) (w : World) (h : strings_CutPrefix.f a0 a1 = some (r1, r2)) :
  Calls Tryd.prog 50 #[.string a0, .string a1] w fun e w' => e = .returned (.tuple #[.string r1, .bool r2]) ∧ Drawn0 w w' := by
 (unfold strings_CutPrefix.f at h); (have H := h); clear h; (replace H := obS H); (obtain ⟨⟨t101, t102⟩, A3, H⟩ := H); (replace H : (some (t101, t102)) = some (r1, r2) := H); (simp only [Option.some.injEq, Prod.mk.injEq] at H); (obtain ⟨rfl, rfl⟩ := H); (go_enter Tryd.func50, Tryd.ntmps50); (go_wp2_with (first | ((with_reducible refine gate_callee (f := 80) rfl ?_); refine gL (some 8) Tryd.func80 #[.string a0, .string a1] ?_; (with_reducible refine (stringslite_CutPrefix.calls a0 a1 t101 t102 _ A3.out).mono ?_); rintro e w' ⟨rfl, ⟨nd, rfl⟩⟩; refine ⟨_, rfl, ?_⟩))); (go_ret2); (exact ⟨by first | rfl | (simp; done) | (simp [*]; done), by repeat (first | exact Drawn0.refl _ | apply Drawn0.step)⟩)

end Go.Proofs.YtfkaiiconllbhaaDoor.X
namespace Go.Proofs.YtfkaiiconllbhaaDoor.X
open Go.RowKit Go.Proofs.YtfkaiiconllbhaaDoorW.PrintWords Go.Proofs.YtfkaiiconllbhaaDoorW.PrintLast Go.Proofs.YtfkaiiconllbhaaDoorW.PrintMore Go.Proofs.YtfkaiiconllbhaaDoor.E
attribute [local go_sem] max2_int min2_int max_two min_two max_three min_three max_four min_four   -- for this text's walks alone
set_option linter.unusedVariables false
set_option linter.unusedSimpArgs false
attribute [-simp] ByteArray.size_append ByteArray.size_extract
attribute [-go_sem] ByteArray.size_append'

/-! ### impl_ParseInt: function 51 -/
def parseE (s : ByteArray) : Int × Bool := match Lib.atoiAll s.data.toList with
 | .ok v => if (-999999 ≤ v ∧ v ≤ 999999) ∧ Lib.itoa v = s.data.toList then (v, true) else (0, false)
 | _ => (0, false)
def impl_ParseInt.f (a0 : ByteArray) : Option (Int × Bool) := if a0.size ≤ 281474976710656 then some (parseE a0) else none
theorem atoi_ok_below {s : ByteArray} {v : Int} (hz : s.size ≤ 281474976710656) (h : Lib.atoiAll s.data.toList = .ok v) (w : World) : Calls Tryd.prog 81 #[.string s] w fun e w' => e = .returned (.tuple #[.int .i64 v, .nilIface]) ∧ Below w.heap.size w w' := by
 (refine (Tryd.strconv_Atoi_ok s (by omega) v h w).mono ?_); (rintro e w' ⟨he, hw⟩); (refine ⟨he, ?_⟩); (rcases hw with rfl | ⟨t, rfl⟩); (· (exact Below.refl _ _)); (· (exact Joins.below_bytesWorld _ _ _ _ (Nat.le_refl _)))
theorem atoi_bad {s : ByteArray} (hz : s.size ≤ 281474976710656) (h : ∀ v, Lib.atoiAll s.data.toList ≠ .ok v) (w : World) (hE : GE w) : Calls Tryd.prog 81 #[.string s] w fun e w' => ∃ (n : Int) (t : TypeId) (v : Value), e = .returned (.tuple #[.int .i64 n, .iface t v]) ∧ Below w.heap.size w w' := by
 (obtain ⟨_, ⟨t1, p1, h1⟩, ⟨t2, p2, h2⟩, _⟩ := hE); (cases hc : Lib.atoiAll s.data.toList); (· (rename_i v; exact absurd hc (h v))); (· (exact (Any.strconv_Atoi_syntax Tryd.laysC172 s hz hc _ w h1 (Or.inr ⟨_, _, rfl⟩)).mono fun e w' ⟨N, he, _, _, hb⟩ => ⟨_, _, _, he, hb⟩)); (· (exact (Any.strconv_Atoi_range Tryd.laysC172 s hz hc _ w h2 (Or.inr ⟨_, _, rfl⟩)).mono fun e w' ⟨N, he, _, _, hb⟩ => ⟨_, _, _, he, hb⟩))
set_option maxHeartbeats 1000000 in
set_option maxRecDepth 100000 in
theorem impl_ParseInt.calls (a0 : ByteArray) (r1 : Int) (r2 : Bool) (w : World) (hG : GE w) (h : impl_ParseInt.f a0 = some (r1, r2)) :
  Calls Tryd.prog 51 #[.string a0] w fun e w' => e = .returned (.tuple #[.int .i64 r1, .bool r2]) ∧ Below w.heap.size w w' := by
 (unfold impl_ParseInt.f at h); (split at h)
 case isFalse => cases h
 (rename_i hz); (have HZ := Aside0.mk hz); clear hz; (have h := Option.some.inj h); (have HG := Aside0.mk hG); clear hG; (have HB := Aside0.mk (Below.refl w.heap.size w)); (by_cases hok : ∃ v, Lib.atoiAll a0.data.toList = .ok v)
 case neg =>
  have hbad : ∀ v, Lib.atoiAll a0.data.toList ≠ .ok v := fun v hv => hok ⟨v, hv⟩
  have hr : parseE a0 = (0, false) := by
   (unfold parseE); (split); (· (rename_i v hv; exact absurd hv (hbad v))); (· rfl)
  (rw [hr] at h); (injection h with h1 h2); (subst h1; subst h2); (have HBAD := Aside0.mk hbad); clear hr hbad hok; (go_enter Tryd.func51, Tryd.ntmps51); (go_wp2_with ((with_reducible refine gate_callee (f := 81) rfl ?_); refine gL (some 8) Tryd.func81 #[.string a0] ?_; (with_reducible refine (atoi_bad HZ.out HBAD.out _ HG.out).mono ?_); rintro e w1 ⟨n, t, v, rfl, hb⟩; refine ⟨_, rfl, ?_⟩; have n0_ := Aside0.mk (sI hb HB); clear HB hb; have HB := n0_; clear n0_)); (go_ret2); (exact ⟨rfl, eI HB⟩)
 (obtain ⟨v, hv⟩ := hok); (have hbd := Lib.atoiAll_bounds hv); (have hI : strconv_Itoa.f v = some ⟨(Lib.itoa v).toArray⟩ := by unfold strconv_Itoa.f; rw [if_pos hbd])
 have hW : impl_within.f v (-999999) 999999 = some (decide (-999999 ≤ v ∧ v ≤ 999999)) := by
  (unfold impl_within.f); (by_cases h1 : v ≥ -999999); (· (rw [if_pos h1]; congr 1; rw [decide_eq_decide]; omega)); (· (rw [if_neg h1, decide_eq_false (fun hh => h1 hh.1)]))
 (have HI := Aside0.mk hI); (have HV := Aside0.mk hv); (unfold parseE at h); (rw [hv] at h); (simp only at h); (by_cases c1 : -999999 ≤ v ∧ v ≤ 999999)
 case neg =>
  (rw [if_neg (fun hh => c1 hh.1)] at h); (injection h with h1 h2); (subst h1; subst h2); (rw [decide_eq_false c1] at hW); (have HWI := Aside0.mk hW); clear hv hI hW c1 hbd; (go_enter Tryd.func51, Tryd.ntmps51); (go_wp2_with (first | ((with_reducible refine gate_callee (f := 81) rfl ?_); refine gL (some 8) Tryd.func81 #[.string a0] ?_; (with_reducible refine (atoi_ok_below HZ.out HV.out _).mono ?_); rintro e w1 ⟨rfl, hb⟩; refine ⟨_, rfl, ?_⟩; have n0_ := Aside0.mk (sI hb HB); clear HB hb; have HB := n0_; clear n0_) | ((with_reducible refine gate_callee (f := 64) rfl ?_); refine gate_guard (by first | rfl | kernel_rfl) ?_; refine gL (some 15) Tryd.func64 #[.int .i64 v, .int .i64 (-999999), .int .i64 999999] ?_; (with_reducible refine (impl_within.calls _ _ _ _ _ HWI.out).mono ?_); rintro e w' ⟨rfl, ⟨nd, rfl⟩⟩; refine ⟨_, rfl, ?_⟩))); (go_ret2); (exact ⟨rfl, eI HB⟩)
 (rw [decide_eq_true c1] at hW); (have HWI := Aside0.mk hW); (by_cases c2 : Lib.itoa v = a0.data.toList); (· (rw [if_pos ⟨c1, c2⟩] at h); (injection h with h1 h2); (subst h1; subst h2); (have c3 : (⟨(Lib.itoa v).toArray⟩ : ByteArray) = a0 := by rw [c2]); (rw [c3] at hI); (have HI := Aside0.mk hI); clear hv hI hW c1 c2 c3 hbd; (go_enter Tryd.func51, Tryd.ntmps51); (go_wp2_with (first | ((with_reducible refine gate_callee (f := 81) rfl ?_); refine gL (some 8) Tryd.func81 #[.string a0] ?_; (with_reducible refine (atoi_ok_below HZ.out HV.out _).mono ?_); rintro e w1 ⟨rfl, hb⟩; refine ⟨_, rfl, ?_⟩; have n0_ := Aside0.mk (sI hb HB); clear HB hb; have HB := n0_; clear n0_) | ((with_reducible refine gate_callee (f := 64) rfl ?_); refine gate_guard (by first | rfl | kernel_rfl) ?_; refine gL (some 15) Tryd.func64 #[.int .i64 v, .int .i64 (-999999), .int .i64 999999] ?_; (with_reducible refine (impl_within.calls _ _ _ _ _ HWI.out).mono ?_); rintro e w' ⟨rfl, ⟨nd, rfl⟩⟩; refine ⟨_, rfl, ?_⟩) | ((with_reducible refine gate_callee (f := 44) rfl ?_); refine gate_guard (by first | rfl | kernel_rfl) ?_; refine gL (some 20) Tryd.func44 #[.int .i64 v] ?_; (with_reducible refine (strconv_Itoa.calls _ _ _ (GT.below HG.out.gt (eI HB)) HI.out).mono ?_); rintro e w2 ⟨rfl, hb⟩; refine ⟨_, rfl, ?_⟩; have n0_ := Aside0.mk (sI hb HB); clear HB hb; have HB := n0_; clear n0_))); (go_ret2); (exact ⟨rfl, eI HB⟩))
 ·rw [if_neg (fun hh => c2 hh.2)] at h
  (injection h with h1 h2); (subst h1; subst h2)
  have c3 : ((⟨(Lib.itoa v).toArray⟩ : ByteArray).toList != a0.toList) = true := by
   (rw [bne_iff_ne]); intro he; (rw [Lib.toList_data, Lib.toList_data] at he); (exact c2 (by simpa using he))
  have c4 : (Lib.itoa v == a0.toList) = false := by
   (rw [beq_eq_false_iff_ne]); intro he; (rw [Lib.toList_data] at he); (exact c2 he)
  clear hv hI hW c1 c2 hbd; (go_enter Tryd.func51, Tryd.ntmps51); (go_wp2_with (first | ((with_reducible refine gate_callee (f := 81) rfl ?_); refine gL (some 8) Tryd.func81 #[.string a0] ?_; (with_reducible refine (atoi_ok_below HZ.out HV.out _).mono ?_); rintro e w1 ⟨rfl, hb⟩; refine ⟨_, rfl, ?_⟩; have n0_ := Aside0.mk (sI hb HB); clear HB hb; have HB := n0_; clear n0_) | ((with_reducible refine gate_callee (f := 64) rfl ?_); refine gate_guard (by first | rfl | kernel_rfl) ?_; refine gL (some 15) Tryd.func64 #[.int .i64 v, .int .i64 (-999999), .int .i64 999999] ?_; (with_reducible refine (impl_within.calls _ _ _ _ _ HWI.out).mono ?_); rintro e w' ⟨rfl, ⟨nd, rfl⟩⟩; refine ⟨_, rfl, ?_⟩) | ((with_reducible refine gate_callee (f := 44) rfl ?_); refine gate_guard (by first | rfl | kernel_rfl) ?_; refine gL (some 20) Tryd.func44 #[.int .i64 v] ?_; (with_reducible refine (strconv_Itoa.calls _ _ _ (GT.below HG.out.gt (eI HB)) HI.out).mono ?_); rintro e w2 ⟨rfl, hb⟩; refine ⟨_, rfl, ?_⟩; have n0_ := Aside0.mk (sI hb HB); clear HB hb; have HB := n0_; clear n0_))); (go_ret2); (exact ⟨rfl, eI HB⟩)

end Go.Proofs.YtfkaiiconllbhaaDoor.X
namespace Go.Proofs.YtfkaiiconllbhaaDoor.X
open Go.RowKit Go.Proofs.YtfkaiiconllbhaaDoorW.PrintWords Go.Proofs.YtfkaiiconllbhaaDoorW.PrintLast Go.Proofs.YtfkaiiconllbhaaDoorW.PrintMore
attribute [local go_sem] max2_int min2_int max_two min_two max_three min_three max_four min_four   -- for this text's walks alone
set_option linter.unusedVariables false
set_option linter.unusedSimpArgs false
attribute [-simp] ByteArray.size_append ByteArray.size_extract
attribute [-go_sem] ByteArray.size_append'

/-! ### stringslite_HasSuffix: function 96 -/
def stringslite_HasSuffix.f (a0 : ByteArray) (a1 : ByteArray) : Option (Bool) := if (a0.size : Int) ≥ (a1.size : Int) then (if 0 ≤ (wrap64 ((a0.size : Int) - (a1.size : Int))) then (if (wrap64 ((a0.size : Int) - (a1.size : Int))) ≤ (a0.size : Int) then (some ((a0.extract ((wrap64 ((a0.size : Int) - (a1.size : Int))) : Int).toNat a0.size).toList == a1.toList)) else (none)) else (none)) else (some false)
set_option maxHeartbeats 8000000 in
set_option maxRecDepth 100000 in
theorem stringslite_HasSuffix.calls (a0 : ByteArray) (a1 : ByteArray) (r : Bool) (w : World) (h : stringslite_HasSuffix.f a0 a1 = some r) :
  Calls Tryd.prog 96 #[.string a0, .string a1] w fun e w' => e = .returned (.bool r) ∧ Drawn0 w w' := by
 (unfold stringslite_HasSuffix.f at h); (have H := h); clear h; (by_cases c3 : (a0.size : Int) ≥ (a1.size : Int))
 ·rw [if_pos c3] at H
  (have c3b0 : decide ((a1.size : Int) ≤ (a0.size : Int)) = true := decide_eq_true c3); (have c3b1 : decide (a1.size ≤ a0.size) = true := decide_eq_true (Int.ofNat_le.mp c3)); clear c3; (obtain ⟨ji4, hji4⟩ : ∃ j_ : Int, (wrap64 ((a0.size : Int) - (a1.size : Int))) = j_ := ⟨_, rfl⟩); (replace H : (if 0 ≤ (ji4) then (if (ji4) ≤ (a0.size : Int) then (some ((a0.extract ((ji4) : Int).toNat a0.size).toList == a1.toList)) else (none)) else (none)) = some r := by first | (rw [hji4] at H; exact H) | (simp only [hji4] at H ⊢; exact H)); (have hji4w : (IntKind.i64.wrap ((a0.size : Int) - (a1.size : Int))) = ji4 := (i64_w _).trans hji4); (by_cases c5 : 0 ≤ (ji4))
  ·rw [if_pos c5] at H
   (have c5b0 := eq_true c5); (have c5b1 := decide_eq_true c5); clear c5; (by_cases c6 : (ji4) ≤ (a0.size : Int)); (· (rw [if_pos c6] at H); (have c6b0 := eq_true c6); (have c6b1 := decide_eq_true c6); clear c6; (obtain rfl := Option.some.inj H); (go_enter Tryd.func96, Tryd.ntmps96); (go_wp2); go_ret; (exact ⟨by first | rfl | (simp; done) | (simp only [← hji4] <;> (first | rfl | simp)) | (simp [*]; done), by repeat (first | exact Drawn0.refl _ | apply Drawn0.step)⟩)); (· (rw [if_neg c6] at H); (exact absurd H (by simp)))
  ·rw [if_neg c5] at H
   exact absurd H (by simp)
 ·rw [if_neg c3] at H
  (have c3b0 : decide ((a1.size : Int) ≤ (a0.size : Int)) = false := decide_eq_false c3); (have c3b1 : decide (a1.size ≤ a0.size) = false := decide_eq_false (fun h => c3 (Int.ofNat_le.mpr h))); clear c3; (obtain rfl := Option.some.inj H); (go_enter Tryd.func96, Tryd.ntmps96); (go_wp2); go_ret; (exact ⟨by first | rfl | (simp; done) | (simp [*]; done), by repeat (first | exact Drawn0.refl _ | apply Drawn0.step)⟩)
/-! ### stringslite_TrimSuffix: function 82 -/
def stringslite_TrimSuffix.f (a0 : ByteArray) (a1 : ByteArray) : Option (ByteArray) := (stringslite_HasSuffix.f a0 a1).bind fun t101 => (if t101 = true then (if 0 ≤ (wrap64 ((a0.size : Int) - (a1.size : Int))) then (if (wrap64 ((a0.size : Int) - (a1.size : Int))) ≤ (a0.size : Int) then (some (a0.extract 0 ((wrap64 ((a0.size : Int) - (a1.size : Int))) : Int).toNat)) else (none)) else (none)) else (some a0))
set_option maxHeartbeats 8000000 in
set_option maxRecDepth 100000 in
theorem stringslite_TrimSuffix.calls (a0 : ByteArray) (a1 : ByteArray) (r : ByteArray) (w : World) (h : stringslite_TrimSuffix.f a0 a1 = some r) :
  Calls Tryd.prog 82 #[.string a0, .string a1] w fun e w' => e = .returned (.string r) ∧ Drawn0 w w' := by
 (unfold stringslite_TrimSuffix.f at h); (have H := h); clear h; (replace H := obS H); (obtain ⟨t101, A3, H⟩ := H); (by_cases c4 : t101 = true)
 ·subst c4
  (rw [if_pos rfl] at H); (obtain ⟨ji5, hji5⟩ : ∃ j_ : Int, (wrap64 ((a0.size : Int) - (a1.size : Int))) = j_ := ⟨_, rfl⟩); (replace H : (if 0 ≤ (ji5) then (if (ji5) ≤ (a0.size : Int) then (some (a0.extract 0 ((ji5) : Int).toNat)) else (none)) else (none)) = some r := by first | (rw [hji5] at H; exact H) | (simp only [hji5] at H ⊢; exact H)); ((try rw [hji5] at A3)); (have hji5w : (IntKind.i64.wrap ((a0.size : Int) - (a1.size : Int))) = ji5 := (i64_w _).trans hji5); (by_cases c6 : 0 ≤ (ji5))
  ·rw [if_pos c6] at H
   (have c6b0 := eq_true c6); (have c6b1 := decide_eq_true c6); clear c6; (by_cases c7 : (ji5) ≤ (a0.size : Int)); (· (rw [if_pos c7] at H); (have c7b0 := eq_true c7); (have c7b1 := decide_eq_true c7); clear c7; (obtain rfl := Option.some.inj H); (go_enter Tryd.func82, Tryd.ntmps82); (go_wp2_with (first | ((with_reducible refine gate_callee (f := 96) rfl ?_); refine gL (some 7) Tryd.func96 #[.string a0, .string a1] ?_; (with_reducible refine (stringslite_HasSuffix.calls a0 a1 true _ A3.out).mono ?_); rintro e w' ⟨rfl, ⟨nd, rfl⟩⟩; refine ⟨_, rfl, ?_⟩))); go_ret; (exact ⟨by first | rfl | (simp; done) | (simp only [← hji5] <;> (first | rfl | simp)) | (simp [*]; done), by repeat (first | exact Drawn0.refl _ | apply Drawn0.step)⟩)); (· (rw [if_neg c7] at H); (exact absurd H (by simp)))
  ·rw [if_neg c6] at H
   exact absurd H (by simp)
 ·replace c4 := Bool.eq_false_iff.mpr c4
  subst c4; (rw [if_neg (show ¬ (false = true) by decide)] at H); (obtain rfl := Option.some.inj H); (go_enter Tryd.func82, Tryd.ntmps82); (go_wp2_with (first | ((with_reducible refine gate_callee (f := 96) rfl ?_); refine gL (some 7) Tryd.func96 #[.string a0, .string a1] ?_; (with_reducible refine (stringslite_HasSuffix.calls a0 a1 false _ A3.out).mono ?_); rintro e w' ⟨rfl, ⟨nd, rfl⟩⟩; refine ⟨_, rfl, ?_⟩))); go_ret; (exact ⟨by first | rfl | (simp; done) | (simp [*]; done), by repeat (first | exact Drawn0.refl _ | apply Drawn0.step)⟩)
/-! ### strings_TrimSuffix: function 52 -/
def strings_TrimSuffix.f (a0 : ByteArray) (a1 : ByteArray) : Option (ByteArray) := (stringslite_TrimSuffix.f a0 a1).bind fun t101 => (some t101)
set_option maxHeartbeats 8000000 in
set_option maxRecDepth 100000 in
theorem strings_TrimSuffix.calls (a0 : ByteArray) (a1 : ByteArray) (r : ByteArray) (w : World) (h : strings_TrimSuffix.f a0 a1 = some r) :
  Calls Tryd.prog 52 #[.string a0, .string a1] w fun e w' => e = .returned (.string r) ∧ Drawn0 w w' := by
 (unfold strings_TrimSuffix.f at h); (have H := h); clear h; (replace H := obS H); (obtain ⟨t101, A3, H⟩ := H); (obtain rfl := Option.some.inj H); (go_enter Tryd.func52, Tryd.ntmps52); (go_wp2_with (first | ((with_reducible refine gate_callee (f := 82) rfl ?_); refine gL (some 7) Tryd.func82 #[.string a0, .string a1] ?_; (with_reducible refine (stringslite_TrimSuffix.calls a0 a1 t101 _ A3.out).mono ?_); rintro e w' ⟨rfl, ⟨nd, rfl⟩⟩; refine ⟨_, rfl, ?_⟩))); go_ret; (exact ⟨by first | rfl | (simp; done) | (simp [*]; done), by repeat (first | exact Drawn0.refl _ | apply Drawn0.step)⟩)
/-! ### impl_EnglishToYear: function 20 -/
def impl_EnglishToYear.f (a0 : ByteArray) : Option (Int × Bool) := (strings_CutPrefix.f a0 (⟨#[65, 68, 32]⟩ : ByteArray)).bind fun bt101 => (if bt101.2 = true then ((impl_ParseInt.f bt101.1).bind fun bt103 => ((impl_YearToEnglish.f bt103.1).bind fun bt105 => (if bt105.2 = true then (if bt105.1.toList = a0.toList then (some (bt103.1, true)) else (some (0, false))) else (some (0, false))))) else ((strings_TrimSuffix.f a0 (⟨#[32, 66, 67]⟩ : ByteArray)).bind fun t107 => ((impl_ParseInt.f t107).bind fun bt108 => ((impl_YearToEnglish.f (wrap64 (1 - bt108.1))).bind fun bt110 => (if bt110.2 = true then (if bt110.1.toList = a0.toList then (some (wrap64 (1 - bt108.1), true)) else (some (0, false))) else (some (0, false)))))))
set_option maxHeartbeats 8000000 in
set_option maxRecDepth 100000 in
theorem impl_EnglishToYear.calls (a0 : ByteArray) (r1 : Int) (r2 : Bool) (w : World) (hG : GE w) (h : impl_EnglishToYear.f a0 = some (r1, r2)) :
  Calls Tryd.prog 20 #[.string a0] w fun e w' => e = .returned (.tuple #[.int .i64 r1, .bool r2]) ∧ Below w.heap.size w w' := by
 (have HG := Aside0.mk hG); clear hG; (have HB := Aside0.mk (Below.refl w.heap.size w)); (unfold impl_EnglishToYear.f at h); (have H := h); clear h; (replace H := obS H); (obtain ⟨⟨t101, t102⟩, A2, H⟩ := H); (replace H : (if t102 = true then ((impl_ParseInt.f t101).bind fun bt103 => ((impl_YearToEnglish.f bt103.1).bind fun bt105 => (if bt105.2 = true then (if bt105.1.toList = a0.toList then (some (bt103.1, true)) else (some (0, false))) else (some (0, false))))) else ((strings_TrimSuffix.f a0 (⟨#[32, 66, 67]⟩ : ByteArray)).bind fun t107 => ((impl_ParseInt.f t107).bind fun bt108 => ((impl_YearToEnglish.f (wrap64 (1 - bt108.1))).bind fun bt110 => (if bt110.2 = true then (if bt110.1.toList = a0.toList then (some (wrap64 (1 - bt108.1), true)) else (some (0, false))) else (some (0, false))))))) = some (r1, r2) := H); (by_cases c3 : t102 = true)
 ·subst c3
  (rw [if_pos rfl] at H); (replace H := obS H); (obtain ⟨⟨t103, t104⟩, A4, H⟩ := H); (replace H : ((impl_YearToEnglish.f t103).bind fun bt105 => (if bt105.2 = true then (if bt105.1.toList = a0.toList then (some (t103, true)) else (some (0, false))) else (some (0, false)))) = some (r1, r2) := H); (replace H := obS H); (obtain ⟨⟨t105, t106⟩, A5, H⟩ := H); (replace H : (if t106 = true then (if t105.toList = a0.toList then (some (t103, true)) else (some (0, false))) else (some (0, false))) = some (r1, r2) := H); (by_cases c6 : t106 = true)
  ·subst c6
   (rw [if_pos rfl] at H); (by_cases c7 : t105.toList = a0.toList); (· (rw [if_pos c7] at H); (have c7b0 : (t105.toList == a0.toList) = true := beq_iff_eq.mpr c7); (have c7b1 : (t105.toList != a0.toList) = false := bne_eq_false_iff_eq.mpr c7); clear c7; (simp only [Option.some.injEq, Prod.mk.injEq] at H); (obtain ⟨rfl, rfl⟩ := H); (go_enter Tryd.func20, Tryd.ntmps20); (go_wp2_with (first | ((with_reducible refine gate_callee (f := 50) rfl ?_); refine gL (some 13) Tryd.func50 #[.string a0, .string (⟨#[65, 68, 32]⟩ : ByteArray)] ?_; (with_reducible refine (strings_CutPrefix.calls a0 (⟨#[65, 68, 32]⟩ : ByteArray) t101 true _ A2.out).mono ?_); rintro e w' ⟨rfl, ⟨nd, rfl⟩⟩; refine ⟨_, rfl, ?_⟩) | ((with_reducible refine gate_callee (f := 51) rfl ?_); refine gL (some 19) Tryd.func51 #[.string t101] ?_; (with_reducible refine (impl_ParseInt.calls t101 t103 t104 _ ?side1 A4.out).mono ?_); (case side1 => first | exact GE.below HG.out (eI HB) | (repeat (first | exact HG.out | (with_reducible first | apply GE.drewN | apply GE.drew | apply GE.alloc)))); rintro e w8 ⟨rfl, hb⟩; refine ⟨_, rfl, ?_⟩; have n0_ := Aside0.mk (sI hb HB); clear HB; have HB := n0_; clear n0_; (try clear hb); (try clear hb2); (try clear hk); (try clear hi)) | ((with_reducible refine gate_callee (f := 10) rfl ?_); refine gL (some 32) Tryd.func10 #[.int .i64 t103] ?_; (with_reducible refine (impl_YearToEnglish.calls t103 t105 true _ ?side1 A5.out).mono ?_); (case side1 => first | exact GT.below HG.out.gt (eI HB) | (repeat (first | exact HG.out.gt | (with_reducible first | apply GT.drewN | apply GT.drew | apply GT.alloc)))); rintro e w9 ⟨rfl, hb⟩; refine ⟨_, rfl, ?_⟩; have n0_ := Aside0.mk (sI hb HB); clear HB; have HB := n0_; clear n0_; (try clear hb); (try clear hb2); (try clear hk); (try clear hi)))); (go_ret2); (exact ⟨rfl, eI HB⟩)); (· (rw [if_neg c7] at H); (have c7b0 : (t105.toList == a0.toList) = false := beq_eq_false_iff_ne.mpr c7); (have c7b1 : (t105.toList != a0.toList) = true := bne_iff_ne.mpr c7); (simp only [Option.some.injEq, Prod.mk.injEq] at H); (obtain ⟨rfl, rfl⟩ := H); (go_enter Tryd.func20, Tryd.ntmps20); (go_wp2_with (first | ((with_reducible refine gate_callee (f := 50) rfl ?_); refine gL (some 13) Tryd.func50 #[.string a0, .string (⟨#[65, 68, 32]⟩ : ByteArray)] ?_; (with_reducible refine (strings_CutPrefix.calls a0 (⟨#[65, 68, 32]⟩ : ByteArray) t101 true _ A2.out).mono ?_); rintro e w' ⟨rfl, ⟨nd, rfl⟩⟩; refine ⟨_, rfl, ?_⟩) | ((with_reducible refine gate_callee (f := 51) rfl ?_); refine gL (some 19) Tryd.func51 #[.string t101] ?_; (with_reducible refine (impl_ParseInt.calls t101 t103 t104 _ ?side1 A4.out).mono ?_); (case side1 => first | exact GE.below HG.out (eI HB) | (repeat (first | exact HG.out | (with_reducible first | apply GE.drewN | apply GE.drew | apply GE.alloc)))); rintro e w10 ⟨rfl, hb⟩; refine ⟨_, rfl, ?_⟩; have n0_ := Aside0.mk (sI hb HB); clear HB; have HB := n0_; clear n0_; (try clear hb); (try clear hb2); (try clear hk); (try clear hi)) | ((with_reducible refine gate_callee (f := 10) rfl ?_); refine gL (some 32) Tryd.func10 #[.int .i64 t103] ?_; (with_reducible refine (impl_YearToEnglish.calls t103 t105 true _ ?side1 A5.out).mono ?_); (case side1 => first | exact GT.below HG.out.gt (eI HB) | (repeat (first | exact HG.out.gt | (with_reducible first | apply GT.drewN | apply GT.drew | apply GT.alloc)))); rintro e w11 ⟨rfl, hb⟩; refine ⟨_, rfl, ?_⟩; have n0_ := Aside0.mk (sI hb HB); clear HB; have HB := n0_; clear n0_; (try clear hb); (try clear hb2); (try clear hk); (try clear hi)))); (go_ret2); (exact ⟨rfl, eI HB⟩))
  ·replace c6 := Bool.eq_false_iff.mpr c6
   subst c6; (rw [if_neg (show ¬ (false = true) by decide)] at H); (simp only [Option.some.injEq, Prod.mk.injEq] at H); (obtain ⟨rfl, rfl⟩ := H); (go_enter Tryd.func20, Tryd.ntmps20); (go_wp2_with (first | ((with_reducible refine gate_callee (f := 50) rfl ?_); refine gL (some 13) Tryd.func50 #[.string a0, .string (⟨#[65, 68, 32]⟩ : ByteArray)] ?_; (with_reducible refine (strings_CutPrefix.calls a0 (⟨#[65, 68, 32]⟩ : ByteArray) t101 true _ A2.out).mono ?_); rintro e w' ⟨rfl, ⟨nd, rfl⟩⟩; refine ⟨_, rfl, ?_⟩) | ((with_reducible refine gate_callee (f := 51) rfl ?_); refine gL (some 19) Tryd.func51 #[.string t101] ?_; (with_reducible refine (impl_ParseInt.calls t101 t103 t104 _ ?side1 A4.out).mono ?_); (case side1 => first | exact GE.below HG.out (eI HB) | (repeat (first | exact HG.out | (with_reducible first | apply GE.drewN | apply GE.drew | apply GE.alloc)))); rintro e w12 ⟨rfl, hb⟩; refine ⟨_, rfl, ?_⟩; have n0_ := Aside0.mk (sI hb HB); clear HB; have HB := n0_; clear n0_; (try clear hb); (try clear hb2); (try clear hk); (try clear hi)) | ((with_reducible refine gate_callee (f := 10) rfl ?_); refine gL (some 32) Tryd.func10 #[.int .i64 t103] ?_; (with_reducible refine (impl_YearToEnglish.calls t103 t105 false _ ?side1 A5.out).mono ?_); (case side1 => first | exact GT.below HG.out.gt (eI HB) | (repeat (first | exact HG.out.gt | (with_reducible first | apply GT.drewN | apply GT.drew | apply GT.alloc)))); rintro e w13 ⟨rfl, hb⟩; refine ⟨_, rfl, ?_⟩; have n0_ := Aside0.mk (sI hb HB); clear HB; have HB := n0_; clear n0_; (try clear hb); (try clear hb2); (try clear hk); (try clear hi)))); (go_ret2); (exact ⟨rfl, eI HB⟩)
 ·replace c3 := Bool.eq_false_iff.mpr c3
  subst c3; (rw [if_neg (show ¬ (false = true) by decide)] at H); (replace H := obS H); (obtain ⟨t107, A14, H⟩ := H); (replace H := obS H); (obtain ⟨⟨t108, t109⟩, A15, H⟩ := H); (replace H : ((impl_YearToEnglish.f (wrap64 (1 - t108))).bind fun bt110 => (if bt110.2 = true then (if bt110.1.toList = a0.toList then (some (wrap64 (1 - t108), true)) else (some (0, false))) else (some (0, false)))) = some (r1, r2) := H); (replace H := obS H); (obtain ⟨⟨t110, t111⟩, A16, H⟩ := H); (replace H : (if t111 = true then (if t110.toList = a0.toList then (some (wrap64 (1 - t108), true)) else (some (0, false))) else (some (0, false))) = some (r1, r2) := H); (by_cases c17 : t111 = true)
  ·subst c17
   (rw [if_pos rfl] at H); (by_cases c18 : t110.toList = a0.toList); (· (rw [if_pos c18] at H); (have c18b0 : (t110.toList == a0.toList) = true := beq_iff_eq.mpr c18); (have c18b1 : (t110.toList != a0.toList) = false := bne_eq_false_iff_eq.mpr c18); clear c18; (simp only [Option.some.injEq, Prod.mk.injEq] at H); (obtain ⟨rfl, rfl⟩ := H); (go_enter Tryd.func20, Tryd.ntmps20); (go_wp2_with (first | ((with_reducible refine gate_callee (f := 50) rfl ?_); refine gL (some 13) Tryd.func50 #[.string a0, .string (⟨#[65, 68, 32]⟩ : ByteArray)] ?_; (with_reducible refine (strings_CutPrefix.calls a0 (⟨#[65, 68, 32]⟩ : ByteArray) t101 false _ A2.out).mono ?_); rintro e w' ⟨rfl, ⟨nd, rfl⟩⟩; refine ⟨_, rfl, ?_⟩) | ((with_reducible refine gate_callee (f := 52) rfl ?_); refine gL (some 24) Tryd.func52 #[.string a0, .string (⟨#[32, 66, 67]⟩ : ByteArray)] ?_; (with_reducible refine (strings_TrimSuffix.calls a0 (⟨#[32, 66, 67]⟩ : ByteArray) t107 _ A14.out).mono ?_); rintro e w' ⟨rfl, ⟨nd, rfl⟩⟩; refine ⟨_, rfl, ?_⟩) | ((with_reducible refine gate_callee (f := 51) rfl ?_); refine gL (some 25) Tryd.func51 #[.string t107] ?_; (with_reducible refine (impl_ParseInt.calls t107 t108 t109 _ ?side1 A15.out).mono ?_); (case side1 => first | exact GE.below HG.out (eI HB) | (repeat (first | exact HG.out | (with_reducible first | apply GE.drewN | apply GE.drew | apply GE.alloc)))); rintro e w19 ⟨rfl, hb⟩; refine ⟨_, rfl, ?_⟩; have n0_ := Aside0.mk (sI hb HB); clear HB; have HB := n0_; clear n0_; (try clear hb); (try clear hb2); (try clear hk); (try clear hi)) | ((with_reducible refine gate_callee (f := 10) rfl ?_); refine gL (some 32) Tryd.func10 #[.int .i64 (wrap64 (1 - t108))] ?_; (with_reducible refine (impl_YearToEnglish.calls (wrap64 (1 - t108)) t110 true _ ?side1 A16.out).mono ?_); (case side1 => first | exact GT.below HG.out.gt (eI HB) | (repeat (first | exact HG.out.gt | (with_reducible first | apply GT.drewN | apply GT.drew | apply GT.alloc)))); rintro e w20 ⟨rfl, hb⟩; refine ⟨_, rfl, ?_⟩; have n0_ := Aside0.mk (sI hb HB); clear HB; have HB := n0_; clear n0_; (try clear hb); (try clear hb2); (try clear hk); (try clear hi)))); (go_ret2); (exact ⟨rfl, eI HB⟩)); (· (rw [if_neg c18] at H); (have c18b0 : (t110.toList == a0.toList) = false := beq_eq_false_iff_ne.mpr c18); (have c18b1 : (t110.toList != a0.toList) = true := bne_iff_ne.mpr c18); (simp only [Option.some.injEq, Prod.mk.injEq] at H); (obtain ⟨rfl, rfl⟩ := H); (go_enter Tryd.func20, Tryd.ntmps20); (go_wp2_with (first | ((with_reducible refine gate_callee (f := 50) rfl ?_); refine gL (some 13) Tryd.func50 #[.string a0, .string (⟨#[65, 68, 32]⟩ : ByteArray)] ?_; (with_reducible refine (strings_CutPrefix.calls a0 (⟨#[65, 68, 32]⟩ : ByteArray) t101 false _ A2.out).mono ?_); rintro e w' ⟨rfl, ⟨nd, rfl⟩⟩; refine ⟨_, rfl, ?_⟩) | ((with_reducible refine gate_callee (f := 52) rfl ?_); refine gL (some 24) Tryd.func52 #[.string a0, .string (⟨#[32, 66, 67]⟩ : ByteArray)] ?_; (with_reducible refine (strings_TrimSuffix.calls a0 (⟨#[32, 66, 67]⟩ : ByteArray) t107 _ A14.out).mono ?_); rintro e w' ⟨rfl, ⟨nd, rfl⟩⟩; refine ⟨_, rfl, ?_⟩) | ((with_reducible refine gate_callee (f := 51) rfl ?_); refine gL (some 25) Tryd.func51 #[.string t107] ?_; (with_reducible refine (impl_ParseInt.calls t107 t108 t109 _ ?side1 A15.out).mono ?_); (case side1 => first | exact GE.below HG.out (eI HB) | (repeat (first | exact HG.out | (with_reducible first | apply GE.drewN | apply GE.drew | apply GE.alloc)))); rintro e w21 ⟨rfl, hb⟩; refine ⟨_, rfl, ?_⟩; have n0_ := Aside0.mk (sI hb HB); clear HB; have HB := n0_; clear n0_; (try clear hb); (try clear hb2); (try clear hk); (try clear hi)) | ((with_reducible refine gate_callee (f := 10) rfl ?_); refine gL (some 32) Tryd.func10 #[.int .i64 (wrap64 (1 - t108))] ?_; (with_reducible refine (impl_YearToEnglish.calls (wrap64 (1 - t108)) t110 true _ ?side1 A16.out).mono ?_); (case side1 => first | exact GT.below HG.out.gt (eI HB) | (repeat (first | exact HG.out.gt | (with_reducible first | apply GT.drewN | apply GT.drew | apply GT.alloc)))); rintro e w22 ⟨rfl, hb⟩; refine ⟨_, rfl, ?_⟩; have n0_ := Aside0.mk (sI hb HB); clear HB; have HB := n0_; clear n0_; (try clear hb); (try clear hb2); (try clear hk); (try clear hi)))); (go_ret2); (exact ⟨rfl, eI HB⟩))
  ·replace c17 := Bool.eq_false_iff.mpr c17
   subst c17; (rw [if_neg (show ¬ (false = true) by decide)] at H); (simp only [Option.some.injEq, Prod.mk.injEq] at H); (obtain ⟨rfl, rfl⟩ := H); (go_enter Tryd.func20, Tryd.ntmps20); (go_wp2_with (first | ((with_reducible refine gate_callee (f := 50) rfl ?_); refine gL (some 13) Tryd.func50 #[.string a0, .string (⟨#[65, 68, 32]⟩ : ByteArray)] ?_; (with_reducible refine (strings_CutPrefix.calls a0 (⟨#[65, 68, 32]⟩ : ByteArray) t101 false _ A2.out).mono ?_); rintro e w' ⟨rfl, ⟨nd, rfl⟩⟩; refine ⟨_, rfl, ?_⟩) | ((with_reducible refine gate_callee (f := 52) rfl ?_); refine gL (some 24) Tryd.func52 #[.string a0, .string (⟨#[32, 66, 67]⟩ : ByteArray)] ?_; (with_reducible refine (strings_TrimSuffix.calls a0 (⟨#[32, 66, 67]⟩ : ByteArray) t107 _ A14.out).mono ?_); rintro e w' ⟨rfl, ⟨nd, rfl⟩⟩; refine ⟨_, rfl, ?_⟩) | ((with_reducible refine gate_callee (f := 51) rfl ?_); refine gL (some 25) Tryd.func51 #[.string t107] ?_; (with_reducible refine (impl_ParseInt.calls t107 t108 t109 _ ?side1 A15.out).mono ?_); (case side1 => first | exact GE.below HG.out (eI HB) | (repeat (first | exact HG.out | (with_reducible first | apply GE.drewN | apply GE.drew | apply GE.alloc)))); rintro e w23 ⟨rfl, hb⟩; refine ⟨_, rfl, ?_⟩; have n0_ := Aside0.mk (sI hb HB); clear HB; have HB := n0_; clear n0_; (try clear hb); (try clear hb2); (try clear hk); (try clear hi)) | ((with_reducible refine gate_callee (f := 10) rfl ?_); refine gL (some 32) Tryd.func10 #[.int .i64 (wrap64 (1 - t108))] ?_; (with_reducible refine (impl_YearToEnglish.calls (wrap64 (1 - t108)) t110 false _ ?side1 A16.out).mono ?_); (case side1 => first | exact GT.below HG.out.gt (eI HB) | (repeat (first | exact HG.out.gt | (with_reducible first | apply GT.drewN | apply GT.drew | apply GT.alloc)))); rintro e w24 ⟨rfl, hb⟩; refine ⟨_, rfl, ?_⟩; have n0_ := Aside0.mk (sI hb HB); clear HB; have HB := n0_; clear n0_; (try clear hb); (try clear hb2); (try clear hk); (try clear hi)))); (go_ret2); (exact ⟨rfl, eI HB⟩)

end Go.Proofs.YtfkaiiconllbhaaDoor.X
namespace Go.Proofs.YtfkaiiconllbhaaDoor.X
open Go.RowKit Go.Proofs.YtfkaiiconllbhaaDoorW.PrintWords Go.Proofs.YtfkaiiconllbhaaDoorW.PrintLast Go.Proofs.YtfkaiiconllbhaaDoorW.PrintMore Go.Proofs.YtfkaiiconllbhaaDoor.E
attribute [local go_sem] max2_int min2_int max_two min_two max_three min_three max_four min_four   -- for this text's walks alone
set_option linter.unusedVariables false
set_option linter.unusedSimpArgs false
attribute [-simp] ByteArray.size_append ByteArray.size_extract
attribute [-go_sem] ByteArray.size_append'

/-! ### strings_Cut: function 60 -/
def strings_Cut.f (a0 : ByteArray) (a1 : ByteArray) : Option (ByteArray × ByteArray × Bool) := if a0.size < 4294967281 then some (⟨(Lib.cut a0.data.toList a1.data.toList).1.toArray⟩, ⟨(Lib.cut a0.data.toList a1.data.toList).2.1.toArray⟩, (Lib.cut a0.data.toList a1.data.toList).2.2) else none
theorem strings_Cut.calls (a0 : ByteArray) (a1 : ByteArray) (r1 : ByteArray) (r2 : ByteArray) (r3 : Bool) (w : World) (hG : GE w) (h : strings_Cut.f a0 a1 = some (r1, r2, r3)) :
  Calls Tryd.prog 60 #[.string a0, .string a1] w fun e w' => e = .returned (.tuple #[.string r1, .string r2, .bool r3]) ∧ Below w.heap.size w w' := by
 (unfold strings_Cut.f at h); (split at h)
 case isFalse => cases h
 (rename_i hz); (have h := Option.some.inj h); (injection h with h1 h2); (injection h2 with h2 h3); (subst h1; subst h2; subst h3); (obtain ⟨m, hm⟩ := hG.mx); (refine (Tryd.strings_Cut a0 a1 m w hz hm).mono ?_); (rintro e w' ⟨rfl, ⟨n, rfl⟩⟩); (exact ⟨rfl, pw_below_drewN (Below.refl _ _) n⟩)

end Go.Proofs.YtfkaiiconllbhaaDoor.X
namespace Go.Proofs.YtfkaiiconllbhaaDoor.X
open Go.RowKit Go.Proofs.YtfkaiiconllbhaaDoorW.PrintWords Go.Proofs.YtfkaiiconllbhaaDoorW.PrintLast Go.Proofs.YtfkaiiconllbhaaDoorW.PrintMore
attribute [local go_sem] max2_int min2_int max_two min_two max_three min_three max_four min_four   -- for this text's walks alone
set_option linter.unusedVariables false
set_option linter.unusedSimpArgs false
attribute [-simp] ByteArray.size_append ByteArray.size_extract
attribute [-go_sem] ByteArray.size_append'

/-! ### stringslite_TrimPrefix: function 87 -/
def stringslite_TrimPrefix.f (a0 : ByteArray) (a1 : ByteArray) : Option (ByteArray) := (stringslite_HasPrefix.f a0 a1).bind fun t101 => (if t101 = true then (if 0 ≤ (a1.size : Int) then (if (a1.size : Int) ≤ (a0.size : Int) then (some (a0.extract a1.size a0.size)) else (none)) else (none)) else (some a0))
set_option maxHeartbeats 8000000 in
set_option maxRecDepth 100000 in
theorem stringslite_TrimPrefix.calls (a0 : ByteArray) (a1 : ByteArray) (r : ByteArray) (w : World) (h : stringslite_TrimPrefix.f a0 a1 = some r) :
  Calls Tryd.prog 87 #[.string a0, .string a1] w fun e w' => e = .returned (.string r) ∧ Drawn0 w w' := by
 (unfold stringslite_TrimPrefix.f at h); (have H := h); clear h; (replace H := obS H); (obtain ⟨t101, A3, H⟩ := H); (by_cases c4 : t101 = true)
 ·subst c4
  (rw [if_pos rfl] at H); (by_cases c5 : 0 ≤ (a1.size : Int))
  ·rw [if_pos c5] at H
   (have c5b0 := eq_true c5); (have c5b1 := decide_eq_true c5); clear c5; (by_cases c6 : (a1.size : Int) ≤ (a0.size : Int)); (· (rw [if_pos c6] at H); (have c6b0 := eq_true c6); (have c6b1 := decide_eq_true c6); clear c6; (obtain rfl := Option.some.inj H); (go_enter Tryd.func87, Tryd.ntmps87); (go_wp2_with (first | ((with_reducible refine gate_callee (f := 93) rfl ?_); refine gL (some 7) Tryd.func93 #[.string a0, .string a1] ?_; (with_reducible refine (stringslite_HasPrefix.calls a0 a1 true _ A3.out).mono ?_); rintro e w' ⟨rfl, ⟨nd, rfl⟩⟩; refine ⟨_, rfl, ?_⟩))); go_ret; (exact ⟨by first | rfl | (simp; done) | (simp [*]; done), by repeat (first | exact Drawn0.refl _ | apply Drawn0.step)⟩)); (· (rw [if_neg c6] at H); (exact absurd H (by simp)))
  ·rw [if_neg c5] at H
   exact absurd H (by simp)
 ·replace c4 := Bool.eq_false_iff.mpr c4
  subst c4; (rw [if_neg (show ¬ (false = true) by decide)] at H); (obtain rfl := Option.some.inj H); (go_enter Tryd.func87, Tryd.ntmps87); (go_wp2_with (first | ((with_reducible refine gate_callee (f := 93) rfl ?_); refine gL (some 7) Tryd.func93 #[.string a0, .string a1] ?_; (with_reducible refine (stringslite_HasPrefix.calls a0 a1 false _ A3.out).mono ?_); rintro e w' ⟨rfl, ⟨nd, rfl⟩⟩; refine ⟨_, rfl, ?_⟩))); go_ret; (exact ⟨by first | rfl | (simp; done) | (simp [*]; done), by repeat (first | exact Drawn0.refl _ | apply Drawn0.step)⟩)
/-! ### strings_TrimPrefix: function 61 -/
def strings_TrimPrefix.f (a0 : ByteArray) (a1 : ByteArray) : Option (ByteArray) := (stringslite_TrimPrefix.f a0 a1).bind fun t101 => (some t101)
set_option maxHeartbeats 8000000 in
set_option maxRecDepth 100000 in
theorem strings_TrimPrefix.calls (a0 : ByteArray) (a1 : ByteArray) (r : ByteArray) (w : World) (h : strings_TrimPrefix.f a0 a1 = some r) :
  Calls Tryd.prog 61 #[.string a0, .string a1] w fun e w' => e = .returned (.string r) ∧ Drawn0 w w' := by
 (unfold strings_TrimPrefix.f at h); (have H := h); clear h; (replace H := obS H); (obtain ⟨t101, A3, H⟩ := H); (obtain rfl := Option.some.inj H); (go_enter Tryd.func61, Tryd.ntmps61); (go_wp2_with (first | ((with_reducible refine gate_callee (f := 87) rfl ?_); refine gL (some 7) Tryd.func87 #[.string a0, .string a1] ?_; (with_reducible refine (stringslite_TrimPrefix.calls a0 a1 t101 _ A3.out).mono ?_); rintro e w' ⟨rfl, ⟨nd, rfl⟩⟩; refine ⟨_, rfl, ?_⟩))); go_ret; (exact ⟨by first | rfl | (simp; done) | (simp [*]; done), by repeat (first | exact Drawn0.refl _ | apply Drawn0.step)⟩)

end Go.Proofs.YtfkaiiconllbhaaDoor.X
