/- For all forms and answers the law FnExactClearHidden answers true. No condition beyond what a reading tells.
This file (part 2 of 4) holds what the proof needs: plain functions with rounds and contracts written by programs of this work over the translation, and the lemmas. -/
import Derived.Test.YtcjloeeomhiblaaProg
import Derived.Below
import Derived.Deep.Draws
import Derived.Deep.AppendLies
import Derived.Maps.AppendAt
import Derived.OwnWalk
import Derived.Laws.BytesArg
import Derived.Laws.MakeOwn
import Derived.Laws.OwnMore
import Derived.Deep.OwnRows
import Derived.Tactics
import Derived.Lib.ConvBytes
import Derived.Laws.Slices
import Derived.WalkKit
import Derived.KernelRfl
import Derived.RowKit3
import Derived.Deep.LoopGhost
import Derived.Deep.QuietTactic
import Derived.BigQuiet
import Derived.WideLaws
import Derived.Deep.DeepCutAuto
import Derived.Deep.CutBlock
import Derived.Deep.RegionHeld3
import Derived.Laws.Rows
import Derived.Lib.AppendStr
import Derived.ArgAppend
import Derived.Laws.IdiomCopy
import Derived.OrdersHeld
import Derived.Laws.BitsLemmas
import Derived.RowKit
import Derived.Test.YtcjloeeomhiblaaZFnExactClearHidden1
import Derived.IntWalk
namespace Go.Proofs.Ytcjloeeomhiblaa.X
open Go.RowKit Go.Proofs.YtcjloeeomhiblaaW.PrintWords Go.Proofs.YtcjloeeomhiblaaW.PrintLast Go.Proofs.YtcjloeeomhiblaaW.PrintMore
attribute [local go_sem] max2_int min2_int max_two min_two max_three min_three max_four min_four   -- for this text's walks alone
set_option linter.unusedVariables false
set_option linter.unusedSimpArgs false
attribute [-simp] ByteArray.size_append ByteArray.size_extract
attribute [-go_sem] ByteArray.size_append'



def errW : Option Int → Value
 | none => .nilIface
 | some c => .iface 0 (.int .i64 c)
theorem errW_none : errW none = .nilIface := rfl
theorem errW_some (c : Int) : errW (some c) = .iface 0 (.int .i64 c) := rfl

theorem aS1 {α : Type} (l : List α) (i : Nat) (a : α) : l.toArray.setIfInBounds i a = (l.set i a).toArray := List.setIfInBounds_toArray l i a
theorem aS2 {α : Type} {x : α} {xs : List α} {a : α} : (x :: xs).set 0 a = a :: xs := List.set_cons_zero
theorem aS3 {α : Type} {x : α} {xs : List α} {i : Nat} {a : α} : (x :: xs).set (i + 1) a = x :: xs.set i a := List.set_cons_succ
theorem aM1 {α β : Type} {f : α → β} {l : List α} : Array.map f l.toArray = (List.map f l).toArray := List.map_toArray
theorem aM2 {α β : Type} {f : α → β} {a : α} {l : List α} : List.map f (a :: l) = f a :: List.map f l := List.map_cons
theorem aM3 {α β : Type} {f : α → β} : List.map f [] = [] := List.map_nil
theorem bltc (w : World) (a : Addr) {u : Value} (h : w.cell? a = some u) : a.block < w.heap.size := World.block_lt_of_cell? w a h
theorem cz {w : World} {g : Nat} {t : TypeId} {cs : Array Value} (h : w.heap[g]? = some (.cells cs t (0, 0))) (i : Nat) {v : Value} (hv : cs[i]? = some v := by rfl) : w.cell? ⟨g, i, none⟩ = some v := (blk_cell h i).trans hv
theorem gL {P : Program} {ops : Array Oper} {Q : Exit → Act → World → Prop} {rest : List Oper} {oi : Oper} {a : Act} {w : World} (N : Option Tmp) {f : FuncId} {fn : Func} {as_ : Array Operand} {ts : Array TypeId} (hf : P.funcs[f]? = some fn) (args : Array Value) (h : Calls P f args w fun e w' => ∃ v, e = .returned v ∧ wpList P ops Q rest (a.put N v) w')
  (hd : oi.dst = N := by rfl) (hg : oi.guard = none := by rfl) (hname : (fn.name == "runtime.NumGoroutine") = false := by kernel_rfl) (hb : fn.body.isSome = true := by rfl) (hop : oi.op = .call { callee := .value (.func f), args := as_, argTypes := ts } := by rfl) (hargs : as_.map a.eval = args := by ((try simp only [aM1, aM2, aM3]); first | done | rfl | (simp only [List.length_drop, List.length_take]; rfl))) : wpList P ops Q (oi :: rest) a w := goesL_ N hd hg hf hname hb args hop hargs h
theorem bz {b : Nat} {w W w' : World} (h : Below b w W) (_ : Below W.heap.size W w') : Below b w W := h
abbrev cA := @Kd.C_alloc
abbrev cN := @Kd.C_drewN
abbrev cD := @Kd.C_drew
abbrev rA := @Kd.R_alloc
abbrev rN := @Kd.R_drewN
abbrev rD := @Kd.R_drew
abbrev bA := @below_alloc
abbrev bN := @pw_below_drewN
abbrev bD := @below_drew1
abbrev kN := @blk_drewN
abbrev kD := @blk_drew
abbrev kA := @blk_alloc
def cb (n m : Nat) : Array Bool := ((List.range n).map (fun i => m.testBit i)).toArray
def cn (n i : Nat) : Array Bool := (List.replicate i true ++ List.replicate (n - i) false).toArray
theorem pA (i : Nat) (l' : Array Bool) (N : Option Tmp) {P : Program} {md : Region.Mode} {ops : Array Oper} {Q : Exit → Act → World → Prop} {S : World → Prop} {ds : List Nat} {T : Bool × List (List Nat × List Nat)} (HT : Aside0 (rtab md ops = T)) {oi : Oper} {v : Value} {fuel : Nat} {l : Array Bool} {a : Act} {w : World} (hi : ops[i]? = some oi) (hN : oi.dst = N) (hc : anyT T l.toList l'.toList i = true) (hQ : ∀ c a w, Q (.panic c) (a.put oi.dst v) w → Q (.panic c) a w) (hy : Yields P ops oi v a) {a' : Act} (ha : a.put N v = a') (h : wpAnyLast P md ops Q S ds fuel l' a' w) : wpAnyLast P md ops Q S ds (fuel + 1) l a w := pure_ (i := i) (N := N) l' hi hN (any_of HT.out hc) hQ hy ha h
theorem tA (i : Nat) (l' : Array Bool) (N : Option Tmp) {P : Program} {md : Region.Mode} {ops : Array Oper} {Q : Exit → Act → World → Prop} {S : World → Prop} {ds : List Nat} {T : Bool × List (List Nat × List Nat)} {B : List Nat} (HT : Aside0 (rtab md ops = T)) (HW : Aside0 (waitsOk T.2 B = true)) {oi : Oper} {v : Value} {fuel : Nat} {l : Array Bool} {a : Act} {w : World} (hi : ops[i]? = some oi) (hN : oi.dst = N) (hc : takeW T B ds l.toList l'.toList i = true) (hQ : ∀ c a w, Q (.panic c) (a.put oi.dst v) w → Q (.panic c) a w) (hy : YieldsIf P ops S oi v a) (hS : S w) {a' : Act} (ha : a.put N v = a') (h : wpAnyLast P md ops Q S ds fuel l' a' w) : wpAnyLast P md ops Q S ds (fuel + 1) l a w := take_ (i := i) (N := N) l' hi hN (take_ofW HT.out HW.out hc) hQ hy hS ha h
theorem pB (i : Nat) (l' : Array Bool) (N : Option Tmp) {P : Program} {md : Region.Mode} {ops : Array Oper} {Q : Exit → Act → World → Prop} {S : World → Prop} {ds : List Nat} {T : Bool × List (List Nat × List Nat)} (HT : Aside0 (rtab md ops = T)) {oi : Oper} {v : Value} {fuel : Nat} {l : Array Bool} {a a' : Act} {w : World}
  (hi : ops[i]? = some oi := by rfl) (hN : oi.dst = N := by rfl) (hc : anyT T l.toList l'.toList i = true := by kernel_rfl) (hQ : ∀ c a w, Q (.panic c) (a.put oi.dst v) w → Q (.panic c) a w := by exact fun _ _ _ h => h)
  (hw : Region.wanted oi (yielded ops a.tmps) = true := by rfl) (hy : ∀ w', (execOp a.eval oi).run P w' = .ok (.value v) w' := by (intro w'; go_simp; with_reducible rfl)) (ha : a.put N v = a' := by (simp only [Act.put, aS1, aS2, aS3, i64_w, i32_w]; rfl))
  (h : wpAnyLast P md ops Q S ds fuel l' a' w) : wpAnyLast P md ops Q S ds (fuel + 1) l a w := pA i l' N HT hi hN hc hQ (Or.inl ⟨hw, hy⟩) ha h
theorem tB (i : Nat) (l' : Array Bool) (N : Option Tmp) {P : Program} {md : Region.Mode} {ops : Array Oper} {Q : Exit → Act → World → Prop} {S : World → Prop} {ds : List Nat} {T : Bool × List (List Nat × List Nat)} {B : List Nat} (HT : Aside0 (rtab md ops = T)) (HW : Aside0 (waitsOk T.2 B = true)) {oi : Oper} {v : Value} {fuel : Nat} {l : Array Bool} {a a' : Act} {w : World} (hS : S w)
  (hi : ops[i]? = some oi := by rfl) (hN : oi.dst = N := by rfl) (hc : takeW T B ds l.toList l'.toList i = true := by kernel_rfl) (hQ : ∀ c a w, Q (.panic c) (a.put oi.dst v) w → Q (.panic c) a w := by exact fun _ _ _ h => h)
  (hw : Region.wanted oi (yielded ops a.tmps) = true := by rfl) (hy : ∀ w', S w' → (execOp a.eval oi).run P w' = .ok (.value v) w' := by (intro w'; (try simp only [and_imp]); intros; go_simp; with_reducible rfl)) (ha : a.put N v = a' := by (simp only [Act.put, aS1, aS2, aS3, i64_w, i32_w]; rfl))
  (h : wpAnyLast P md ops Q S ds fuel l' a' w) : wpAnyLast P md ops Q S ds (fuel + 1) l a w := tA i l' N HT HW hi hN hc hQ (Or.inl ⟨hw, hy⟩) hS ha h
theorem dN2 (w : World) (n m : Nat) : (w.drewN n).drewN m = w.drewN (n + m) := World.drewN_drewN w n m
theorem dN3 (w : World) (a b c : Nat) : (w.drewN (a + b)).drewN c = w.drewN (a + (b + c)) := Eq.trans (World.drewN_drewN _ _ _) (congrArg (World.drewN _) (Nat.add_assoc _ _ _))

class Lat (W W' : World) : Prop where out : Below W.heap.size W W'
instance (W : World) : Lat W W := ⟨Below.refl _ _⟩
instance (W W' : World) (o : Obj) [h : Lat W W'] : Lat W (W'.alloc o) := ⟨below_alloc h.out o⟩
instance (W W' : World) [h : Lat W W'] : Lat W W'.drew := ⟨below_drew1 h.out⟩
instance (W W' : World) (n : Nat) [h : Lat W W'] : Lat W (W'.drewN n) := ⟨pw_below_drewN h.out n⟩
theorem eI {w W W' : World} (h : Aside0 (Below w.heap.size w W)) [k : Lat W W'] : Below w.heap.size w W' := below_step h.out k.out
theorem kI {W W' : World} {g : Nat} {o : Obj} (h : Aside0 (W.heap[g]? = some o)) [k : Lat W W'] : W'.heap[g]? = some o := blk_below h.out k.out
theorem cI {α : Type} {d : Kd α} {W W' : World} {A : Option Addr} {n : Nat} {xs : List α} (h : d.C W A n xs) [k : Lat W W'] : d.C W' A n xs := Kd.C_below h k.out
theorem rI {α : Type} {d : Kd α} {e : Nat} {W W' : World} {base : Nat} {ok : Nat → Prop} {v : Value} {xs : List α} (h : Aside0 (d.R e W base ok v xs)) [k : Lat W W'] : d.R e W' base ok v xs := Kd.R_below h.out k.out
theorem zI {w W W' W2 : World} (hb : Below W'.heap.size W' W2) (h : Aside0 (Below w.heap.size w W)) [k : Lat W W'] : Below w.heap.size w W' := below_step h.out k.out
theorem sI {w W W' W2 : World} (hb : Below W'.heap.size W' W2) (h : Aside0 (Below w.heap.size w W)) [k : Lat W W'] : Below w.heap.size w W2 := below_step (below_step h.out k.out) hb
theorem kbI {W W' W2 : World} (hb : Below W'.heap.size W' W2) {g : Nat} {o : Obj} (h : Aside0 (W.heap[g]? = some o)) [k : Lat W W'] : W2.heap[g]? = some o := blk_below (blk_below h.out k.out) hb
theorem rbI {α : Type} {d : Kd α} {e : Nat} {W W' W2 : World} (hb : Below W'.heap.size W' W2) {base : Nat} {ok : Nat → Prop} {v : Value} {xs : List α} (h : Aside0 (d.R e W base ok v xs)) [k : Lat W W'] : d.R e W2 base ok v xs := Kd.R_below (Kd.R_below h.out k.out) hb
theorem hcI {w W : World} {a : Addr} {v : Value} (h : Aside0 (Below w.heap.size w W)) (hx : w.cell? a = some v) : W.cell? a = some v := (h.out.cell (bltc w _ hx)).trans hx
theorem odt {p : Prop} [Decidable p] (h : decide p = true := by first | (with_reducible assumption) | assumption) : p := of_decide_eq_true h
theorem obS {α β : Type} {o : Option α} {f : α → Option β} {r : β} (h : o.bind f = some r) : ∃ a, Aside0 (o = some a) ∧ f a = some r := by
 obtain ⟨a, h1, h2⟩ := Option.bind_eq_some_iff.mp h
 exact ⟨a, ⟨h1⟩, h2⟩
theorem oN (i : Nat) (N : Option Tmp) (l' : Array Bool) {P : Program} {md : Region.Mode} {ops : Array Oper} {Q : Exit → Act → World → Prop} {S : World → Prop} {ds : List Nat} {T : Bool × List (List Nat × List Nat)} (HT : Aside0 (rtab md ops = T)) {oi : Oper} {fuel : Nat} {l : Array Bool} {a : Act} {w : World}
  (h : ∀ K : Act → World → Prop, Shut (∀ a' w', S w' → (S w' → wpAnyLast P md ops Q S ds fuel l' a' w') → K a' w') → if Region.wanted oi (yielded ops a.tmps) = true then Oper.wp P oi a w K Q else K (a.put N undef) w)
  (hi : ops[i]? = some oi := by rfl) (hN : oi.dst = N := by rfl) (hc : (readyT T.2 l.toList == [i] && l.toList.set i true == l'.toList) = true := by kernel_rfl) (hd : i ∉ ds := by decide) : wpAnyLast P md ops Q S ds (fuel + 1) l a w := one_ l' hi hN (one_of HT.out hc) hd h
theorem nP (N : Option Tmp) {P : Program} {md : Region.Mode} {ops : Array Oper} {Q : Exit → Act → World → Prop} {S : World → Prop} {ds : List Nat} {fuel : Nat} {l : Array Bool} {a a' : Act} {v : Value} {w : World} (h : wpAnyLast P md ops Q S ds fuel l a' w) (ha : a.put N v = a' := by (simp only [Act.put, aS1, aS2, aS3, i64_w, i32_w]; rfl)) : wpAnyLast P md ops Q S ds fuel l (a.put N v) w := norm_ ha h
theorem gG {P : Program} {ops : Array Oper} {Q : Exit → Act → World → Prop} {f : FuncId} {fn : Func} (hf : P.funcs[f]? = some fn) (args : Array Value) {oi : Oper} {N : Option Tmp} {a : Act} {w : World} {K : Act → World → Prop} {as_ : Array Operand} {ts : Array TypeId}
  (h : Calls P f args w fun e w' => ∃ v, e = .returned v ∧ K (a.put N v) w') (hname : (fn.name == "runtime.NumGoroutine") = false := by kernel_rfl) (hb : fn.body.isSome = true := by rfl)
  (hw : Region.wanted oi (yielded ops a.tmps) = true := by rfl) (hN : oi.dst = N := by rfl) (hop : oi.op = .call { callee := .value (.func f), args := as_, argTypes := ts } := by rfl) (hargs : as_.map a.eval = args := by ((try simp only [aM1, aM2, aM3]); first | done | rfl | (simp only [List.length_drop, List.length_take]; rfl))) : if Region.wanted oi (yielded ops a.tmps) = true then Oper.wp P oi a w K Q else K (a.put N undef) w := goes_ hf hname hb args hw hN hop hargs h
theorem bx0 {w W : World} {gb : Nat} (hg : gb = W.heap.size) (hB : Below w.heap.size w W) : w.heap.size ≤ gb := by rw [hg]; exact below_size hB

theorem info4 : (Try.prog.info? 4).map (fun i => (i.zero, i.size, i.bytes)) = some (some (.bool false), 1, 1) := by kernel_rfl
theorem info9 : (Try.prog.info? 9).map (fun i => (i.zero, i.size, i.bytes)) = some (some (.string ⟨#[]⟩), 1, 16) := by kernel_rfl
theorem info48 : (Try.prog.info? 48).map (fun i => (i.zero, i.size, i.bytes)) = some (some (.agg #[(.string ⟨#[]⟩), (.string ⟨#[]⟩)]), 2, 32) := by kernel_rfl
theorem info49 : (Try.prog.info? 49).map (fun i => (i.zero, i.size, i.bytes)) = some (some (.agg #[(.string ⟨#[]⟩), (.int .i64 0), (.int .i64 0), (.int .i64 0), (.slice none 0 0), (.bool false), (.string ⟨#[]⟩)]), 7, 88) := by kernel_rfl
structure S40 where
 f0 : ByteArray
 f1 : Int
 f2 : Int
 f3 : Int
 f4 : (List ByteArray)
 f5 : Bool
 f6 : ByteArray
def z40 : S40 := ⟨(⟨#[]⟩ : ByteArray), (0 : Int), (0 : Int), (0 : Int), ([] : List ByteArray), false, (⟨#[]⟩ : ByteArray)⟩
def k40 : Kd S40 := Kd.iso (Kd.pair Kd.string (Kd.pair (Kd.int .i64) (Kd.pair (Kd.int .i64) (Kd.pair (Kd.int .i64) (Kd.pair (Kd.slice 9 Kd.string) (Kd.pair Kd.bool Kd.string)))))) (fun x : S40 => (x.f0, x.f1, x.f2, x.f3, x.f4, x.f5, x.f6))
theorem k40_open {w : World} {x : S40} {cs : List Value} (h : k40.K w x cs) : ∃ A4 c4, cs = [.string x.f0, .int .i64 x.f1, .int .i64 x.f2, .int .i64 x.f3, .slice A4 x.f4.length c4, .bool x.f5, .string x.f6] ∧ x.f4.length ≤ c4 ∧ Kd.string.C w A4 x.f4.length x.f4 := by
 obtain ⟨_, _, rfl, rfl, ⟨_, _, rfl, rfl, ⟨_, _, rfl, rfl, ⟨_, _, rfl, rfl, ⟨_, _, rfl, ⟨A4, c4, rfl, l4, g4⟩, ⟨_, _, rfl, rfl, rfl⟩⟩⟩⟩⟩⟩ := h
 exact ⟨A4, c4, rfl, l4, g4⟩
def rd_T40 (xs : List S40) (i : Int) : S40 := xs.getD i.toNat z40
theorem at_T40 {w : World} {A : Option Addr} {n : Nat} {xs : List S40} (h : Kd.C k40 w A n xs) (i : Int) (h0 : 0 ≤ i) (h1 : i < n) : ∃ ad A4 c4, A = some ad ∧ w.cell? (ad.add (i.toNat * 7)) = some (.string (rd_T40 xs i).f0) ∧ w.cell? ⟨(ad.add (i.toNat * 7)).block, (ad.add (i.toNat * 7)).off + 1, none⟩ = some (.int .i64 (rd_T40 xs i).f1) ∧ w.cell? ⟨(ad.add (i.toNat * 7)).block, (ad.add (i.toNat * 7)).off + 2, none⟩ = some (.int .i64 (rd_T40 xs i).f2) ∧ w.cell? ⟨(ad.add (i.toNat * 7)).block, (ad.add (i.toNat * 7)).off + 3, none⟩ = some (.int .i64 (rd_T40 xs i).f3) ∧ w.cell? ⟨(ad.add (i.toNat * 7)).block, (ad.add (i.toNat * 7)).off + 4, none⟩ = some (.slice A4 (rd_T40 xs i).f4.length c4) ∧ w.cell? ⟨(ad.add (i.toNat * 7)).block, (ad.add (i.toNat * 7)).off + 5, none⟩ = some (.bool (rd_T40 xs i).f5) ∧ w.cell? ⟨(ad.add (i.toNat * 7)).block, (ad.add (i.toNat * 7)).off + 6, none⟩ = some (.string (rd_T40 xs i).f6) ∧ (rd_T40 xs i).f4.length ≤ c4 ∧ Kd.string.C w A4 (rd_T40 xs i).f4.length (rd_T40 xs i).f4 := by
 obtain ⟨ad, c, e, _, hK, hc0⟩ := Kd.C_get h z40 i h0 h1
 have hc : ∀ j u, c[j]? = some u → w.cell? (ad.add (i.toNat * 7 + j)) = some u := hc0
 obtain ⟨A4, c4, rfl, l4, g4⟩ := k40_open hK
 exact ⟨ad, A4, c4, e, hc 0 _ rfl, by rw [← add_field _ _ 1 (by omega)]; exact hc 1 _ rfl, by rw [← add_field _ _ 2 (by omega)]; exact hc 2 _ rfl, by rw [← add_field _ _ 3 (by omega)]; exact hc 3 _ rfl, by rw [← add_field _ _ 4 (by omega)]; exact hc 4 _ rfl, by rw [← add_field _ _ 5 (by omega)]; exact hc 5 _ rfl, by rw [← add_field _ _ 6 (by omega)]; exact hc 6 _ rfl, l4, g4⟩

structure S43 where
 f0 : ByteArray
 f1 : ByteArray
def z43 : S43 := ⟨(⟨#[]⟩ : ByteArray), (⟨#[]⟩ : ByteArray)⟩
def k43 : Kd S43 := Kd.iso (Kd.pair Kd.string Kd.string) (fun x : S43 => (x.f0, x.f1))
theorem k43_open {w : World} {x : S43} {cs : List Value} (h : k43.K w x cs) : cs = [.string x.f0, .string x.f1] := by
 obtain ⟨_, _, rfl, rfl, rfl⟩ := h
 exact rfl
def rd_T43 (xs : List S43) (i : Int) : S43 := xs.getD i.toNat z43
theorem at_T43 {w : World} {A : Option Addr} {n : Nat} {xs : List S43} (h : Kd.C k43 w A n xs) (i : Int) (h0 : 0 ≤ i) (h1 : i < n) : ∃ ad , A = some ad ∧ w.cell? (ad.add (i.toNat * 2)) = some (.string (rd_T43 xs i).f0) ∧ w.cell? ⟨(ad.add (i.toNat * 2)).block, (ad.add (i.toNat * 2)).off + 1, none⟩ = some (.string (rd_T43 xs i).f1) := by
 obtain ⟨ad, c, e, _, hK, hc0⟩ := Kd.C_get h z43 i h0 h1
 have hc : ∀ j u, c[j]? = some u → w.cell? (ad.add (i.toNat * 2 + j)) = some u := hc0
 obtain rfl := k43_open hK
 exact ⟨ad, e, hc 0 _ rfl, by rw [← add_field _ _ 1 (by omega)]; exact hc 1 _ rfl⟩

structure S49 where
 f0 : ByteArray
 f1 : Int
 f2 : Int
 f3 : Int
 f4 : (List ByteArray)
 f5 : Bool
 f6 : ByteArray
def z49 : S49 := ⟨(⟨#[]⟩ : ByteArray), (0 : Int), (0 : Int), (0 : Int), ([] : List ByteArray), false, (⟨#[]⟩ : ByteArray)⟩
def k49 : Kd S49 := Kd.iso (Kd.pair Kd.string (Kd.pair (Kd.int .i64) (Kd.pair (Kd.int .i64) (Kd.pair (Kd.int .i64) (Kd.pair (Kd.slice 9 Kd.string) (Kd.pair Kd.bool Kd.string)))))) (fun x : S49 => (x.f0, x.f1, x.f2, x.f3, x.f4, x.f5, x.f6))
theorem k49_open {w : World} {x : S49} {cs : List Value} (h : k49.K w x cs) : ∃ A4 c4, cs = [.string x.f0, .int .i64 x.f1, .int .i64 x.f2, .int .i64 x.f3, .slice A4 x.f4.length c4, .bool x.f5, .string x.f6] ∧ x.f4.length ≤ c4 ∧ Kd.string.C w A4 x.f4.length x.f4 := by
 obtain ⟨_, _, rfl, rfl, ⟨_, _, rfl, rfl, ⟨_, _, rfl, rfl, ⟨_, _, rfl, rfl, ⟨_, _, rfl, ⟨A4, c4, rfl, l4, g4⟩, ⟨_, _, rfl, rfl, rfl⟩⟩⟩⟩⟩⟩ := h
 exact ⟨A4, c4, rfl, l4, g4⟩
theorem k49_openM {w : World} {base : Nat} {ok : Nat → Prop} {x : S49} {cs : List Value} (h : k49.M w base ok x cs) : ∃ v4, cs = [.string x.f0, .int .i64 x.f1, .int .i64 x.f2, .int .i64 x.f3, v4, .bool x.f5, .string x.f6] ∧ Kd.string.R 9 w base ok v4 x.f4 := by
 obtain ⟨_, _, rfl, rfl, ⟨_, _, rfl, rfl, ⟨_, _, rfl, rfl, ⟨_, _, rfl, rfl, ⟨_, _, rfl, ⟨v4, rfl, g4⟩, ⟨_, _, rfl, rfl, rfl⟩⟩⟩⟩⟩⟩ := h
 exact ⟨v4, rfl, g4⟩
theorem k49_mkM (w : World) (base : Nat) (ok : Nat → Prop) (x : S49) {v4 : Value} (g4 : Kd.string.R 9 w base ok v4 x.f4) : k49.M w base ok x [.string x.f0, .int .i64 x.f1, .int .i64 x.f2, .int .i64 x.f3, v4, .bool x.f5, .string x.f6] := ⟨[.string x.f0], [.int .i64 x.f1, .int .i64 x.f2, .int .i64 x.f3, v4, .bool x.f5, .string x.f6], rfl, rfl, ⟨[.int .i64 x.f1], [.int .i64 x.f2, .int .i64 x.f3, v4, .bool x.f5, .string x.f6], rfl, rfl, ⟨[.int .i64 x.f2], [.int .i64 x.f3, v4, .bool x.f5, .string x.f6], rfl, rfl, ⟨[.int .i64 x.f3], [v4, .bool x.f5, .string x.f6], rfl, rfl, ⟨[v4], [.bool x.f5, .string x.f6], rfl, ⟨v4, rfl, g4⟩, ⟨[.bool x.f5], [.string x.f6], rfl, rfl, rfl⟩⟩⟩⟩⟩⟩
def rd_T49 (xs : List S49) (i : Int) : S49 := xs.getD i.toNat z49
theorem at_T49 {w : World} {A : Option Addr} {n : Nat} {xs : List S49} (h : Kd.C k49 w A n xs) (i : Int) (h0 : 0 ≤ i) (h1 : i < n) : ∃ ad A4 c4, A = some ad ∧ w.cell? (ad.add (i.toNat * 7)) = some (.string (rd_T49 xs i).f0) ∧ w.cell? ⟨(ad.add (i.toNat * 7)).block, (ad.add (i.toNat * 7)).off + 1, none⟩ = some (.int .i64 (rd_T49 xs i).f1) ∧ w.cell? ⟨(ad.add (i.toNat * 7)).block, (ad.add (i.toNat * 7)).off + 2, none⟩ = some (.int .i64 (rd_T49 xs i).f2) ∧ w.cell? ⟨(ad.add (i.toNat * 7)).block, (ad.add (i.toNat * 7)).off + 3, none⟩ = some (.int .i64 (rd_T49 xs i).f3) ∧ w.cell? ⟨(ad.add (i.toNat * 7)).block, (ad.add (i.toNat * 7)).off + 4, none⟩ = some (.slice A4 (rd_T49 xs i).f4.length c4) ∧ w.cell? ⟨(ad.add (i.toNat * 7)).block, (ad.add (i.toNat * 7)).off + 5, none⟩ = some (.bool (rd_T49 xs i).f5) ∧ w.cell? ⟨(ad.add (i.toNat * 7)).block, (ad.add (i.toNat * 7)).off + 6, none⟩ = some (.string (rd_T49 xs i).f6) ∧ (rd_T49 xs i).f4.length ≤ c4 ∧ Kd.string.C w A4 (rd_T49 xs i).f4.length (rd_T49 xs i).f4 := by
 obtain ⟨ad, c, e, _, hK, hc0⟩ := Kd.C_get h z49 i h0 h1
 have hc : ∀ j u, c[j]? = some u → w.cell? (ad.add (i.toNat * 7 + j)) = some u := hc0
 obtain ⟨A4, c4, rfl, l4, g4⟩ := k49_open hK
 exact ⟨ad, A4, c4, e, hc 0 _ rfl, by rw [← add_field _ _ 1 (by omega)]; exact hc 1 _ rfl, by rw [← add_field _ _ 2 (by omega)]; exact hc 2 _ rfl, by rw [← add_field _ _ 3 (by omega)]; exact hc 3 _ rfl, by rw [← add_field _ _ 4 (by omega)]; exact hc 4 _ rfl, by rw [← add_field _ _ 5 (by omega)]; exact hc 5 _ rfl, by rw [← add_field _ _ 6 (by omega)]; exact hc 6 _ rfl, l4, g4⟩

structure S48 where
 f0 : ByteArray
 f1 : ByteArray
def z48 : S48 := ⟨(⟨#[]⟩ : ByteArray), (⟨#[]⟩ : ByteArray)⟩
def k48 : Kd S48 := Kd.iso (Kd.pair Kd.string Kd.string) (fun x : S48 => (x.f0, x.f1))
theorem k48_open {w : World} {x : S48} {cs : List Value} (h : k48.K w x cs) : cs = [.string x.f0, .string x.f1] := by
 obtain ⟨_, _, rfl, rfl, rfl⟩ := h
 exact rfl
theorem k48_openM {w : World} {base : Nat} {ok : Nat → Prop} {x : S48} {cs : List Value} (h : k48.M w base ok x cs) : cs = [.string x.f0, .string x.f1] := by
 obtain ⟨_, _, rfl, rfl, rfl⟩ := h
 exact rfl
theorem k48_mkM (w : World) (base : Nat) (ok : Nat → Prop) (x : S48)  : k48.M w base ok x [.string x.f0, .string x.f1] := ⟨[.string x.f0], [.string x.f1], rfl, rfl, rfl⟩
def rd_T48 (xs : List S48) (i : Int) : S48 := xs.getD i.toNat z48
theorem at_T48 {w : World} {A : Option Addr} {n : Nat} {xs : List S48} (h : Kd.C k48 w A n xs) (i : Int) (h0 : 0 ≤ i) (h1 : i < n) : ∃ ad , A = some ad ∧ w.cell? (ad.add (i.toNat * 2)) = some (.string (rd_T48 xs i).f0) ∧ w.cell? ⟨(ad.add (i.toNat * 2)).block, (ad.add (i.toNat * 2)).off + 1, none⟩ = some (.string (rd_T48 xs i).f1) := by
 obtain ⟨ad, c, e, _, hK, hc0⟩ := Kd.C_get h z48 i h0 h1
 have hc : ∀ j u, c[j]? = some u → w.cell? (ad.add (i.toNat * 2 + j)) = some u := hc0
 obtain rfl := k48_open hK
 exact ⟨ad, e, hc 0 _ rfl, by rw [← add_field _ _ 1 (by omega)]; exact hc 1 _ rfl⟩

end Go.Proofs.Ytcjloeeomhiblaa.X
set_option linter.unusedVariables false
set_option linter.unusedSimpArgs false
namespace Go.Proofs.Ytcjloeeomhiblaa.X
open Go.RowKit Go.Proofs.YtcjloeeomhiblaaW.PrintWords Go.Proofs.YtcjloeeomhiblaaW.PrintLast Go.Proofs.YtcjloeeomhiblaaW.PrintMore
theorem needS {c : Prop} [Decidable c] {α : Type} {x : Option α} {r : α} (h : (if c then x else none) = some r) : c ∧ x = some r := by
  by_cases hc : c
  · rw [if_pos hc] at h; exact ⟨hc, h⟩
  · rw [if_neg hc] at h; exact absurd h (by simp)
structure RngMk (w W w1 : World) (lo hi : Nat) : Prop where
  r : ∀ {α : Type} {d : Kd α} {e : Nat} {v : Value} {xs : List α}, d.R e w1 W.heap.size (fun _ => True) v xs → d.R e w1 w.heap.size (fun k_ => lo ≤ k_ ∧ k_ < hi) v xs
  s : ∀ {α : Type} {d : Kd α} {e : Nat} {v : Value} {xs : List α}, Kd.S d e w1 W.heap.size (fun _ => True) v xs → Kd.S d e w1 w.heap.size (fun k_ => lo ≤ k_ ∧ k_ < hi) v xs
theorem newRng {s : Nat} {w W0 W w1 : World} (HB : Aside0 (Below w.heap.size w W0)) (HS : Aside0 (s ≤ W0.heap.size)) (hb : Below W.heap.size W w1) [k : Lat W0 W] : ∃ lo hi, (s ≤ lo ∧ lo ≤ hi) ∧ hi ≤ w1.heap.size ∧ RngMk w W w1 lo hi := by
  have h1 := k.out.size
  have h2 := HS.out
  have h3 := HB.out.size
  refine ⟨W.heap.size, w1.heap.size, ⟨Nat.le_trans h2 h1, hb.size⟩, Nat.le_refl _, fun h => ?_, fun h => ?_⟩
  · exact Kd.R_lower (Kd.R_mono (Kd.R_bound h) (fun k hk => ⟨hk.2.1, hk.2.2.1⟩)) (Nat.le_trans h3 h1)
  · exact Kd.S_lower (Kd.S_mono (Kd.S_bound h) (fun k hk => ⟨hk.2.1, hk.2.2.1⟩)) (Nat.le_trans h3 h1)
theorem leI {s : Nat} {W0 W w1 : World} (hb : Below W.heap.size W w1) (HS : Aside0 (s ≤ W0.heap.size)) [k : Lat W0 W] : s ≤ w1.heap.size := Nat.le_trans (Nat.le_trans HS.out k.out.size) hb.size
theorem leK {s : Nat} {W0 W w1 : World} {S : Nat → Prop} (hk : Kept W w1 S) (HS : Aside0 (s ≤ W0.heap.size)) [k : Lat W0 W] : s ≤ w1.heap.size := Nat.le_trans (Nat.le_trans HS.out k.out.size) hk.1
theorem sbI0 {α : Type} {d : Kd α} {e : Nat} {W W' : World} {base : Nat} {ok : Nat → Prop} {v : Value} {xs : List α} (h : Aside0 (Kd.S d e W base ok v xs)) [k : Lat W W'] : Kd.S d e W' base ok v xs := Kd.S_below h.out k.out
theorem sbI {α : Type} {d : Kd α} {e : Nat} {W W' W2 : World} (hb : Below W'.heap.size W' W2) {base : Nat} {ok : Nat → Prop} {v : Value} {xs : List α} (h : Aside0 (Kd.S d e W base ok v xs)) [k : Lat W W'] : Kd.S d e W2 base ok v xs := Kd.S_below (Kd.S_below h.out k.out) hb
theorem rcI {α : Type} {d : Kd α} {e : Nat} {W W' : World} {base n c : Nat} {ok : Nat → Prop} {A : Option Addr} {xs : List α} (h : Aside0 (d.R e W base ok (.slice A n c) xs)) [k : Lat W W'] : d.C W' A xs.length xs ∧ xs.length ≤ c := by
  obtain ⟨h1, h2, h3⟩ := Kd.R_reads' (Kd.R_below h.out k.out)
  subst h1
  exact ⟨h3, h2⟩
theorem scI {α : Type} {d : Kd α} {e : Nat} {W W' : World} {base n c : Nat} {ok : Nat → Prop} {A : Option Addr} {xs : List α} (h : Aside0 (Kd.S d e W base ok (.slice A n c) xs)) [k : Lat W W'] : d.C W' A xs.length xs ∧ xs.length ≤ c := rcI ⟨Kd.S_R h.out⟩
theorem rcR {α : Type} {d : Kd α} {e : Nat} {W : World} {base n c : Nat} {ok : Nat → Prop} {A : Option Addr} {xs : List α} (h : Aside0 (d.R e W base ok (.slice A n c) xs)) : d.C W A xs.length xs ∧ xs.length ≤ c := rcI h
theorem scR {α : Type} {d : Kd α} {e : Nat} {W : World} {base n c : Nat} {ok : Nat → Prop} {A : Option Addr} {xs : List α} (h : Aside0 (Kd.S d e W base ok (.slice A n c) xs)) : d.C W A xs.length xs ∧ xs.length ≤ c := scI h
theorem rlI {α : Type} {d : Kd α} {e : Nat} {W : World} {base n c : Nat} {ok : Nat → Prop} {A : Option Addr} {xs : List α} (h : Aside0 (d.R e W base ok (.slice A n c) xs)) : n = xs.length := (Kd.R_reads' h.out).1
theorem keptRng {W w1 : World} {S : Nat → Prop} {lo hi : Nat} (hk : Kept W w1 S) (hs : ∀ k_, S k_ → lo ≤ k_ ∧ k_ < hi) : Kept W w1 (fun k_ => lo ≤ k_ ∧ k_ < hi) := hk.mono hs
theorem krI {α : Type} {d : Kd α} {e lo hi lo2 hi2 : Nat} {W W' W2 : World} (hk : Kept W' W2 (fun k_ => lo2 ≤ k_ ∧ k_ < hi2)) {base : Nat} {v : Value} {xs : List α} (h : Aside0 (d.R e W base (fun k_ => lo ≤ k_ ∧ k_ < hi) v xs)) (hd : hi ≤ lo2 ∨ hi2 ≤ lo) [k : Lat W W'] : d.R e W2 base (fun k_ => lo ≤ k_ ∧ k_ < hi) v xs :=
  Kd.R_kept (Kd.R_below h.out k.out) hk (fun k_ h1 h2 => by omega)
theorem ksI {α : Type} {d : Kd α} {e lo hi lo2 hi2 : Nat} {W W' W2 : World} (hk : Kept W' W2 (fun k_ => lo2 ≤ k_ ∧ k_ < hi2)) {base : Nat} {v : Value} {xs : List α} (h : Aside0 (Kd.S d e W base (fun k_ => lo ≤ k_ ∧ k_ < hi) v xs)) (hd : hi ≤ lo2 ∨ hi2 ≤ lo) [k : Lat W W'] : Kd.S d e W2 base (fun k_ => lo ≤ k_ ∧ k_ < hi) v xs :=
  Kd.S_kept (Kd.S_below h.out k.out) hk (fun k_ h1 h2 => by omega)
end Go.Proofs.Ytcjloeeomhiblaa.X
namespace Go.Proofs.Ytcjloeeomhiblaa.X
open Go.RowKit Go.Proofs.YtcjloeeomhiblaaW.PrintWords Go.Proofs.YtcjloeeomhiblaaW.PrintLast Go.Proofs.YtcjloeeomhiblaaW.PrintMore
attribute [local go_sem] max2_int min2_int max_two min_two max_three min_three max_four min_four   -- for this text's walks alone
set_option linter.unusedVariables false
set_option linter.unusedSimpArgs false
attribute [-simp] ByteArray.size_append ByteArray.size_extract
attribute [-go_sem] ByteArray.size_append'

/-! ### laws_eqAnswer: function 28 -/
def laws_eqAnswer.f (a0_0 : ByteArray) (a0_1 : ByteArray) (a1_0 : ByteArray) (a1_1 : ByteArray) : Option (Bool) := if a0_0.toList = a1_0.toList then (if a0_1.toList = a1_1.toList then (some true) else (some false)) else (some false)
set_option maxHeartbeats 8000000 in
set_option maxRecDepth 100000 in
theorem laws_eqAnswer.calls (a0_0 : ByteArray) (a0_1 : ByteArray) (a1_0 : ByteArray) (a1_1 : ByteArray) (r : Bool) (w : World) (h : laws_eqAnswer.f a0_0 a0_1 a1_0 a1_1 = some r) (ht_ : Aside0 (r = true)) :
  Calls Try.prog 28 #[.agg #[.string a0_0, .string a0_1], .agg #[.string a1_0, .string a1_1]] w fun e w' => e = .returned (.bool r) ∧ Below w.heap.size w w' := by
 (have hu48 := Try.underlying48); (have HB := Aside0.mk (Below.refl w.heap.size w)); (unfold laws_eqAnswer.f at h); (have H := h); clear h; (by_cases c3 : a0_0.toList = a1_0.toList)
 ·rw [if_pos c3] at H
  (have c3b0 : (a0_0.toList == a1_0.toList) = true := beq_iff_eq.mpr c3); (have c3b1 : (a0_0.toList != a1_0.toList) = false := bne_eq_false_iff_eq.mpr c3); clear c3; (by_cases c4 : a0_1.toList = a1_1.toList); (· (rw [if_pos c4] at H); (have c4b0 : (a0_1.toList == a1_1.toList) = true := beq_iff_eq.mpr c4); (have c4b1 : (a0_1.toList != a1_1.toList) = false := bne_eq_false_iff_eq.mpr c4); clear c4; (obtain rfl := Option.some.inj H); (go_enter Try.func28, Try.ntmps28); (go_wp2_with (first | ((with_reducible refine gate_dst (N := 2) rfl ?_); refine box_event ?hg (N := 2) ?hd (cs := #[.string a0_0, .string a0_1]) (t := 48) ?hr ?_; (case hd => rfl); (case hg => rfl); (case hr => first | (go_simp; done) | (go_simp; rfl)); intro gb101 hg w5 hbox hb; have hB_ := zI hb HB; have n0_ := Aside0.mk (below_step hB_ hb); have n1_ := Aside0.mk (hbox); have n2_ := Aside0.mk (bx0 hg hB_); have n3_ := n2_; clear HB; have HB := n0_; have BK101 := n1_; have GW101 := n2_; have GE101 := n3_; clear n0_ n1_ n2_ n3_ hB_ hb hbox hg) | ((with_reducible refine gate_dst (N := 3) rfl ?_); refine box_event ?hg (N := 3) ?hd (cs := #[.string a1_0, .string a1_1]) (t := 48) ?hr ?_; (case hd => rfl); (case hg => rfl); (case hr => first | (go_simp; done) | (go_simp; rfl)); intro gb102 hg w6 hbox hb; have n0_ := Aside0.mk (kbI hb BK101); have hB_ := zI hb HB; have n1_ := Aside0.mk (below_step hB_ hb); have n2_ := Aside0.mk (hbox); have n3_ := Aside0.mk (bx0 hg hB_); have n4_ := n3_; have n5_ := Aside0.mk ((by rw [hg]; exact Nat.ne_of_lt (blk_lt (kI BK101)) : gb101 ≠ gb102)); have n6_ := Aside0.mk (Ne.symm n5_.out); clear BK101 HB; have BK101 := n0_; have HB := n1_; have BK102 := n2_; have GW102 := n3_; have GE102 := n4_; have NB101_102 := n5_; have NB102_101 := n6_; clear n0_ n1_ n2_ n3_ n4_ n5_ n6_ hB_ hb hbox hg; have hnb7 := NB101_102.out; have hnc7 := NB102_101.out; have hcz8_0 := cz BK101.out 0; have hcz8_1 := cz BK101.out 1; have hfz8_0 := blk_frozen BK101.out 0; have hfz8_1 := blk_frozen BK101.out 1; have hcz9_0 := cz BK102.out 0; have hcz9_1 := cz BK102.out 1; have hfz9_0 := blk_frozen BK102.out 0; have hfz9_1 := blk_frozen BK102.out 1))); go_ret; (exact ⟨rfl, eI HB⟩)); (· (rw [if_neg c4] at H); (have c4b0 : (a0_1.toList == a1_1.toList) = false := beq_eq_false_iff_ne.mpr c4); (have c4b1 : (a0_1.toList != a1_1.toList) = true := bne_iff_ne.mpr c4); (obtain rfl := Option.some.inj H); (exact absurd ht_.out (by decide)))
 ·rw [if_neg c3] at H
  (have c3b0 : (a0_0.toList == a1_0.toList) = false := beq_eq_false_iff_ne.mpr c3); (have c3b1 : (a0_0.toList != a1_0.toList) = true := bne_iff_ne.mpr c3); (obtain rfl := Option.some.inj H); (exact absurd ht_.out (by decide))
/-! ### laws_eqAnswerS: function 10 -/
def laws_eqAnswerS.l0 : Nat → List (S48) → List (S48) → Int → Option (Bool)
 | 0, _, _, _ => none
 | k + 1, x0, x1, x5 => if x5 < (x0.length : Int) then (if 0 ≤ x5 then (if x5 < (x1.length : Int) then ((laws_eqAnswer.f ((rd_T48 x0 x5).f0) ((rd_T48 x0 x5).f1) ((rd_T48 x1 x5).f0) ((rd_T48 x1 x5).f1)).bind fun t103 => (if t103 = true then (laws_eqAnswerS.l0 k x0 x1 (wrap64 (x5 + 1))) else (some false))) else (none)) else (none)) else (some true)
def laws_eqAnswerS.f (k : Nat) (l0 : List (S48)) (l1 : List (S48)) : Option (Bool) := if (l0.length : Int) = (l1.length : Int) then (laws_eqAnswerS.l0 k l0 l1 0) else (some false)
def laws_eqAnswerS.T6 : Bool × List (List Nat × List Nat) := (true, [([], []), ([], []), ([0, 1], [0, 1]), ([2], [2]), ([], []), ([], []), ([4, 5], [4, 5]), ([6], [6]), ([3, 7], [3, 7]), ([8], [8])])
def laws_eqAnswerS.B6 : List Nat := [0, 0, 3, 7, 0, 0, 48, 112, 255, 511]
theorem laws_eqAnswerS.tab6 : rtab .any (opsOf Try.f10 6) = laws_eqAnswerS.T6 := by kernel_rfl
theorem laws_eqAnswerS.bits6 : waitsOk laws_eqAnswerS.T6.2 laws_eqAnswerS.B6 = true := by kernel_rfl
set_option maxHeartbeats 8000000 in
set_option maxRecDepth 100000 in
theorem laws_eqAnswerS.calls (k : Nat) (A0 : Option Addr) (c0 : Nat) (l0 : List (S48)) (A1 : Option Addr) (c1 : Nat) (l1 : List (S48)) (r : Bool) (w : World) (hr0 : Kd.C k48 w A0 l0.length l0) (hc0 : l0.length ≤ c0) (hr1 : Kd.C k48 w A1 l1.length l1) (hc1 : l1.length ≤ c1) (h : laws_eqAnswerS.f k l0 l1 = some r) (ht_ : Aside0 (r = true)) :
  Calls Try.prog 10 #[.slice A0 l0.length c0, .slice A1 l1.length c1] w fun e w' => e = .returned (.bool r) ∧ Below w.heap.size w w' := by
 (have hu48 := Try.underlying48); (have HR0 := Aside0.mk hr0); (have HC0 := Aside0.mk hc0); clear hr0 hc0; (have HR1 := Aside0.mk hr1); (have HC1 := Aside0.mk hc1); clear hr1 hc1; (have HB := Aside0.mk (Below.refl w.heap.size w)); (unfold laws_eqAnswerS.f at h); (have H := h); clear h; (by_cases c3 : (l0.length : Int) = (l1.length : Int))
 ·rw [if_pos c3] at H
  (have c3b0 : ((l0.length : Int) == (l1.length : Int)) = true := beq_iff_eq.mpr c3); (have c3b1 : ((l0.length : Int) != (l1.length : Int)) = false := bne_eq_false_iff_eq.mpr c3); (have c3b2 : (l0.length == l1.length) = true := by first | simpa using c3 | (simp at c3 ⊢; omega)); clear c3; (have H' := Aside0.mk H); clear H; (go_enter Try.func10, Try.ntmps10); (go_wp2); (go_loopg [5] k (fun kq v5 w' => ∃ (x5_1 : Int), v5 = .int .i64 x5_1 ∧ Aside0 (laws_eqAnswerS.l0 kq l0 l1 x5_1 = some r) ∧ Aside0 (kq ≤ k) ∧ Aside0 (Below w.heap.size w w')))
  case atStart => exact ⟨(0), (by first | rfl | (simp; done) | (simp [*]; done)), H', ⟨Nat.le_refl _⟩, ⟨eI HB⟩⟩
  case round =>
   (clear H'); (try clear c1); (try clear p2); (try clear c3); (try clear c3b0); (try clear c3b1); (try clear c3b2); (obtain ⟨x5_1, rfl, HA, HK1, HB⟩ := hrel)
   cases gk with
   | zero => exact absurd HA.out (by simp [laws_eqAnswerS.l0])
   | succ k1 =>
    (have H := HA.out); clear HA; (simp only [laws_eqAnswerS.l0] at H); (by_cases c4 : x5_1 < (l0.length : Int))
    ·rw [if_pos c4] at H
     (have c4b0 := decide_eq_true c4); clear c4; (by_cases c5 : 0 ≤ x5_1)
     ·rw [if_pos c5] at H
      (have c5b0 := decide_eq_true c5); clear c5; (by_cases c6 : x5_1 < (l1.length : Int))
      ·rw [if_pos c6] at H
       (have c6b0 := decide_eq_true c6); clear c6; (replace H := obS H); (obtain ⟨t103, A7, H⟩ := H); (by_cases c8 : t103 = true)
       ·subst c8
        (rw [if_pos rfl] at H); (have H' := Aside0.mk H); clear H; (try go_wp2); (have n0_ := Aside0.mk (below_drew1 HB.out)); clear HB; (have HB := n0_); clear n0_; (have p101 : 0 ≤ (x5_1 : Int) := odt); (have q101 : x5_1 < (l0.length : Int) := odt); (obtain ⟨ad101, e101, hx101_0, hx101_1⟩ := at_T48 HR0.out x5_1 p101 q101); (have hw101_1 := hx101_1); (have hw101_0 := hx101_0); (cases e101); (replace hx101_0 := hcI HB hx101_0); (replace hx101_1 := hcI HB hx101_1); (replace p101 := eq_true p101); (replace q101 := eq_true q101); (have p102 : 0 ≤ (x5_1 : Int) := odt); (have q102 : x5_1 < (l1.length : Int) := odt); (obtain ⟨ad102, e102, hx102_0, hx102_1⟩ := at_T48 HR1.out x5_1 p102 q102); (have hw102_1 := hx102_1); (have hw102_0 := hx102_0); (cases e102); (replace hx102_0 := hcI HB hx102_0); (replace hx102_1 := hcI HB hx102_1); (replace p102 := eq_true p102); (replace q102 := eq_true q102); (refine start_ (n := 10) (S := fun w' => w'.cell? (ad101.add ((x5_1).toNat * 2)) = some (.string ((rd_T48 l0 x5_1).f0)) ∧ w'.cell? ⟨(ad101.add ((x5_1).toNat * 2)).block, (ad101.add ((x5_1).toNat * 2)).off + 1, none⟩ = some (.string ((rd_T48 l0 x5_1).f1)) ∧ w'.cell? (ad102.add ((x5_1).toNat * 2)) = some (.string ((rd_T48 l1 x5_1).f0)) ∧ w'.cell? ⟨(ad102.add ((x5_1).toNat * 2)).block, (ad102.add ((x5_1).toNat * 2)).off + 1, none⟩ = some (.string ((rd_T48 l1 x5_1).f1))) (ds := []) (cn 10 0) (by kernel_rfl) rfl (by kernel_rfl) ⟨(hcI HB hw101_0), (hcI HB hw101_1), (hcI HB hw102_0), (hcI HB hw102_1)⟩ (fun hHeld => ?_); refine with_tabW laws_eqAnswerS.tab6 laws_eqAnswerS.bits6 (fun HT_ HW_ => ?_)); (generalize wr.drew = w9 at HB hx101_0 hx101_1 hx102_0 hx102_1 hHeld ⊢); (refine pB 0 (cn 10 1) (some 17) HT_ (h := ?_)); (refine pB 1 (cn 10 2) (some 18) HT_ (h := ?_)); (refine pB 2 (cn 10 3) (some 19) HT_ (h := ?_)); (refine pB 4 (cb 10 23) (some 21) HT_ (h := ?_)); (refine pB 5 (cb 10 55) (some 22) HT_ (h := ?_)); (refine pB 6 (cb 10 119) (some 23) HT_ (h := ?_)); (refine tB 3 (cn 10 7) (some 20) HT_ HW_ hHeld (h := ?_)); (refine tB 7 (cn 10 8) (some 24) HT_ HW_ hHeld (h := ?_)); (refine oN 8 (some 25) (cn 10 9) HT_ (fun K hK => ?_)); (refine gG Try.func28 #[.agg #[.string ((rd_T48 l0 x5_1).f0), .string ((rd_T48 l0 x5_1).f1)], .agg #[.string ((rd_T48 l1 x5_1).f0), .string ((rd_T48 l1 x5_1).f1)]] ?_); (with_reducible refine (laws_eqAnswer.calls ((rd_T48 l0 x5_1).f0) ((rd_T48 l0 x5_1).f1) ((rd_T48 l1 x5_1).f0) ((rd_T48 l1 x5_1).f1) true _ A7.out ⟨rfl⟩).mono ?_); (rintro e w10 ⟨rfl, hb⟩); (refine ⟨_, rfl, ?_⟩); (have n0_ := Aside0.mk (sI hb HB)); clear HB; (have HB := n0_); clear n0_; ((try clear hb)); ((try clear hb2)); ((try clear hk)); ((try clear hi))
        (refine hK.out _ _ ⟨(hcI HB hw101_0), (hcI HB hw101_1), (hcI HB hw102_0), (hcI HB hw102_1)⟩ (fun hHeld => ?_)); clear hK K; (refine nP (some 25) (h := ?_)); (refine pB 9 (cn 10 10) (some 26) HT_ (h := ?_)); (refine done_ (done_of HT_.out (by kernel_rfl)) ?_); (try go_wp2); go_roundg k1
        case measure => have := HK1.out; omega
        case rel => exact ⟨(wrap64 (x5_1 + 1)), (by first | rfl | (simp; done) | (simp [*]; done)), H', ⟨by have := HK1.out; omega⟩, ⟨eI HB⟩⟩
       ·replace c8 := Bool.eq_false_iff.mpr c8
        subst c8; (rw [if_neg (show ¬ (false = true) by decide)] at H); (obtain rfl := Option.some.inj H); (exact absurd ht_.out (by decide))
      ·rw [if_neg c6] at H
       exact absurd H (by simp)
     ·rw [if_neg c5] at H
      exact absurd H (by simp)
    ·rw [if_neg c4] at H
     (have c4b0 := decide_eq_false c4); clear c4; (obtain rfl := Option.some.inj H); (go_wp2); go_ret; (exact ⟨rfl, eI HB⟩)
 ·rw [if_neg c3] at H
  (have c3b0 : ((l0.length : Int) == (l1.length : Int)) = false := beq_eq_false_iff_ne.mpr c3); (have c3b1 : ((l0.length : Int) != (l1.length : Int)) = true := bne_iff_ne.mpr c3); (have c3b2 : (l0.length == l1.length) = false := by first | simpa using c3 | (simp at c3 ⊢; omega)); (obtain rfl := Option.some.inj H); (exact absurd ht_.out (by decide))
/-! ### laws_eqStringS: function 43 -/
def laws_eqStringS.l0 : Nat → List ByteArray → List ByteArray → Int → Option (Bool)
 | 0, _, _, _ => none
 | k + 1, x0, x1, x5 => if x5 < (x0.length : Int) then (if 0 ≤ x5 then (if x5 < (x1.length : Int) then (if (rdOf ByteArray.empty x0 x5).toList = (rdOf ByteArray.empty x1 x5).toList then (laws_eqStringS.l0 k x0 x1 (wrap64 (x5 + 1))) else (some false)) else (none)) else (none)) else (some true)
def laws_eqStringS.f (k : Nat) (l0 : List ByteArray) (l1 : List ByteArray) : Option (Bool) := if (l0.length : Int) = (l1.length : Int) then (laws_eqStringS.l0 k l0 l1 0) else (some false)
set_option maxHeartbeats 8000000 in
set_option maxRecDepth 100000 in
theorem laws_eqStringS.calls (k : Nat) (A0 : Option Addr) (c0 : Nat) (l0 : List ByteArray) (A1 : Option Addr) (c1 : Nat) (l1 : List ByteArray) (r : Bool) (w : World) (hr0 : Kd.C Kd.string w A0 l0.length l0) (hc0 : l0.length ≤ c0) (hr1 : Kd.C Kd.string w A1 l1.length l1) (hc1 : l1.length ≤ c1) (h : laws_eqStringS.f k l0 l1 = some r) (ht_ : Aside0 (r = true)) :
  Calls Try.prog 43 #[.slice A0 l0.length c0, .slice A1 l1.length c1] w fun e w' => e = .returned (.bool r) ∧ Drawn0 w w' := by
 (have HR0 := Aside0.mk hr0); (have HC0 := Aside0.mk hc0); clear hr0 hc0; (have HR1 := Aside0.mk hr1); (have HC1 := Aside0.mk hc1); clear hr1 hc1; (unfold laws_eqStringS.f at h); (have H := h); clear h; (by_cases c3 : (l0.length : Int) = (l1.length : Int))
 ·rw [if_pos c3] at H
  (have c3b0 : ((l0.length : Int) == (l1.length : Int)) = true := beq_iff_eq.mpr c3); (have c3b1 : ((l0.length : Int) != (l1.length : Int)) = false := bne_eq_false_iff_eq.mpr c3); (have c3b2 : (l0.length == l1.length) = true := by first | simpa using c3 | (simp at c3 ⊢; omega)); clear c3; (have H' := Aside0.mk H); clear H; (go_enter Try.func43, Try.ntmps43); (go_wp2); (repeat (go_quiet (fail); try go_wp2)); (go_loopg [5] k (fun kq v5 w' => ∃ (x5_1 : Int), v5 = .int .i64 x5_1 ∧ Aside0 (laws_eqStringS.l0 kq l0 l1 x5_1 = some r) ∧ Aside0 (kq ≤ k) ∧ Drawn0 w w'))
  case atStart => exact ⟨(0), (by first | rfl | (simp; done) | (simp [*]; done)), H', ⟨Nat.le_refl _⟩, by repeat (first | exact Drawn0.refl _ | apply Drawn0.step)⟩
  case round =>
   (clear H'); (try clear c1); (try clear p2); (try clear c3); (try clear c3b0); (try clear c3b1); (try clear c3b2); (obtain ⟨x5_1, rfl, HA, HK1, ⟨m1, rfl⟩⟩ := hrel)
   cases gk with
   | zero => exact absurd HA.out (by simp [laws_eqStringS.l0])
   | succ k1 =>
    (have H := HA.out); clear HA; (simp only [laws_eqStringS.l0] at H); (by_cases c4 : x5_1 < (l0.length : Int))
    ·rw [if_pos c4] at H
     (have c4b0 := decide_eq_true c4); clear c4; (by_cases c5 : 0 ≤ x5_1)
     ·rw [if_pos c5] at H
      (have c5b0 := decide_eq_true c5); clear c5; (by_cases c6 : x5_1 < (l1.length : Int))
      ·rw [if_pos c6] at H
       (have c6b0 := decide_eq_true c6); clear c6; (by_cases c7 : (rdOf ByteArray.empty l0 x5_1).toList = (rdOf ByteArray.empty l1 x5_1).toList)
       ·rw [if_pos c7] at H
        (have c7b0 : ((rdOf ByteArray.empty l0 x5_1).toList == (rdOf ByteArray.empty l1 x5_1).toList) = true := beq_iff_eq.mpr c7); (have c7b1 : ((rdOf ByteArray.empty l0 x5_1).toList != (rdOf ByteArray.empty l1 x5_1).toList) = false := bne_eq_false_iff_eq.mpr c7); clear c7; (have H' := Aside0.mk H); clear H; (have p101 : 0 ≤ (x5_1 : Int) := odt); (have q101 : x5_1 < (l0.length : Int) := odt); (obtain ⟨ad101, e101, hx101_0⟩ := Kd.at_string HR0.out x5_1 p101 q101); (cases e101); (replace p101 := eq_true p101); (replace q101 := eq_true q101); (have p102 : 0 ≤ (x5_1 : Int) := odt); (have q102 : x5_1 < (l1.length : Int) := odt); (obtain ⟨ad102, e102, hx102_0⟩ := Kd.at_string HR1.out x5_1 p102 q102); (cases e102); (replace p102 := eq_true p102); (replace q102 := eq_true q102); (go_wp2); (repeat (go_quiet (fail); try go_wp2)); go_roundg k1
        case measure => have := HK1.out; omega
        case rel => exact ⟨(wrap64 (x5_1 + 1)), (by first | rfl | (simp; done) | (simp [*]; done)), H', ⟨by have := HK1.out; omega⟩, by repeat (first | exact Drawn0.refl _ | apply Drawn0.step)⟩
       ·rw [if_neg c7] at H
        (have c7b0 : ((rdOf ByteArray.empty l0 x5_1).toList == (rdOf ByteArray.empty l1 x5_1).toList) = false := beq_eq_false_iff_ne.mpr c7); (have c7b1 : ((rdOf ByteArray.empty l0 x5_1).toList != (rdOf ByteArray.empty l1 x5_1).toList) = true := bne_iff_ne.mpr c7); (obtain rfl := Option.some.inj H); (have p101 : 0 ≤ (x5_1 : Int) := odt); (have q101 : x5_1 < (l0.length : Int) := odt); (obtain ⟨ad101, e101, hx101_0⟩ := Kd.at_string HR0.out x5_1 p101 q101); (cases e101); (replace p101 := eq_true p101); (replace q101 := eq_true q101); (have p102 : 0 ≤ (x5_1 : Int) := odt); (have q102 : x5_1 < (l1.length : Int) := odt); (obtain ⟨ad102, e102, hx102_0⟩ := Kd.at_string HR1.out x5_1 p102 q102); (cases e102); (replace p102 := eq_true p102); (replace q102 := eq_true q102); (go_wp2); (repeat (go_quiet (fail); try go_wp2)); go_ret; (exact ⟨by first | rfl | (simp; done) | (simp [*]; done), by repeat (first | exact Drawn0.refl _ | apply Drawn0.step)⟩)
      ·rw [if_neg c6] at H
       exact absurd H (by simp)
     ·rw [if_neg c5] at H
      exact absurd H (by simp)
    ·rw [if_neg c4] at H
     (have c4b0 := decide_eq_false c4); clear c4; (obtain rfl := Option.some.inj H); (go_wp2); (repeat (go_quiet (fail); try go_wp2)); go_ret; (exact ⟨by first | rfl | (simp; done) | (simp [*]; done), by repeat (first | exact Drawn0.refl _ | apply Drawn0.step)⟩)
 ·rw [if_neg c3] at H
  (have c3b0 : ((l0.length : Int) == (l1.length : Int)) = false := beq_eq_false_iff_ne.mpr c3); (have c3b1 : ((l0.length : Int) != (l1.length : Int)) = true := bne_iff_ne.mpr c3); (have c3b2 : (l0.length == l1.length) = false := by first | simpa using c3 | (simp at c3 ⊢; omega)); (obtain rfl := Option.some.inj H); (exact absurd ht_.out (by decide))
/-! ### laws_eqField: function 29 -/
def laws_eqField.f (k : Nat) (a0_0 : ByteArray) (a0_1 : Int) (a0_2 : Int) (a0_3 : Int) (l0_4 : List ByteArray) (a0_5 : Bool) (a0_6 : ByteArray) (a1_0 : ByteArray) (a1_1 : Int) (a1_2 : Int) (a1_3 : Int) (l1_4 : List ByteArray) (a1_5 : Bool) (a1_6 : ByteArray) : Option (Bool) := if a0_0.toList = a1_0.toList then (if a0_1 = a1_1 then (if a0_2 = a1_2 then (if a0_3 = a1_3 then ((laws_eqStringS.f k l0_4 l1_4).bind fun t103 => (if t103 = true then (if (a0_5 != a1_5) = true then (some false) else (if a0_6.toList = a1_6.toList then (some true) else (some false))) else (some false))) else (some false)) else (some false)) else (some false)) else (some false)
set_option maxHeartbeats 8000000 in
set_option maxRecDepth 100000 in
theorem laws_eqField.calls (k : Nat) (a0_0 : ByteArray) (a0_1 : Int) (a0_2 : Int) (a0_3 : Int) (A0_4 : Option Addr) (c0_4 : Nat) (l0_4 : List ByteArray) (a0_5 : Bool) (a0_6 : ByteArray) (a1_0 : ByteArray) (a1_1 : Int) (a1_2 : Int) (a1_3 : Int) (A1_4 : Option Addr) (c1_4 : Nat) (l1_4 : List ByteArray) (a1_5 : Bool) (a1_6 : ByteArray) (r : Bool) (w : World) (hr0_4 : Kd.C Kd.string w A0_4 l0_4.length l0_4) (hc0_4 : l0_4.length ≤ c0_4) (hr1_4 : Kd.C Kd.string w A1_4 l1_4.length l1_4) (hc1_4 : l1_4.length ≤ c1_4) (h : laws_eqField.f k a0_0 a0_1 a0_2 a0_3 l0_4 a0_5 a0_6 a1_0 a1_1 a1_2 a1_3 l1_4 a1_5 a1_6 = some r) (ht_ : Aside0 (r = true)) :
  Calls Try.prog 29 #[.agg #[.string a0_0, .int .i64 a0_1, .int .i64 a0_2, .int .i64 a0_3, .slice A0_4 l0_4.length c0_4, .bool a0_5, .string a0_6], .agg #[.string a1_0, .int .i64 a1_1, .int .i64 a1_2, .int .i64 a1_3, .slice A1_4 l1_4.length c1_4, .bool a1_5, .string a1_6]] w fun e w' => e = .returned (.bool r) ∧ Below w.heap.size w w' := by
 (have hu49 := Try.underlying49); (have HR0_4 := Aside0.mk hr0_4); (have HC0_4 := Aside0.mk hc0_4); clear hr0_4 hc0_4; (have HR1_4 := Aside0.mk hr1_4); (have HC1_4 := Aside0.mk hc1_4); clear hr1_4 hc1_4; (have HB := Aside0.mk (Below.refl w.heap.size w)); (unfold laws_eqField.f at h); (have H := h); clear h; (by_cases c3 : a0_0.toList = a1_0.toList)
 ·rw [if_pos c3] at H
  (have c3b0 : (a0_0.toList == a1_0.toList) = true := beq_iff_eq.mpr c3); (have c3b1 : (a0_0.toList != a1_0.toList) = false := bne_eq_false_iff_eq.mpr c3); clear c3; (by_cases c4 : a0_1 = a1_1)
  ·rw [if_pos c4] at H
   (have c4b0 : (a0_1 == a1_1) = true := beq_iff_eq.mpr c4); (have c4b1 : (a0_1 != a1_1) = false := bne_eq_false_iff_eq.mpr c4); clear c4; (by_cases c5 : a0_2 = a1_2)
   ·rw [if_pos c5] at H
    (have c5b0 : (a0_2 == a1_2) = true := beq_iff_eq.mpr c5); (have c5b1 : (a0_2 != a1_2) = false := bne_eq_false_iff_eq.mpr c5); clear c5; (by_cases c6 : a0_3 = a1_3)
    ·rw [if_pos c6] at H
     (have c6b0 : (a0_3 == a1_3) = true := beq_iff_eq.mpr c6); (have c6b1 : (a0_3 != a1_3) = false := bne_eq_false_iff_eq.mpr c6); clear c6; (replace H := obS H); (obtain ⟨t103, A7, H⟩ := H); (by_cases c8 : t103 = true)
     ·subst c8
      (rw [if_pos rfl] at H); (by_cases c9 : (a0_5 != a1_5) = true); (· (rw [if_pos c9] at H); (have c9b0 : (a0_5 != a1_5) = true := c9); ((try (have c9b1 : decide (a0_5 = a1_5) = false := by simpa using c9))); ((try (have c9b2 : (a0_5 == a1_5) = false := by simpa using c9))); ((try (have c9b3 : ¬ (a0_5 = a1_5) := by simpa using c9))); clear c9; (obtain rfl := Option.some.inj H); (exact absurd ht_.out (by decide)))
      ·rw [if_neg c9] at H
       (have c9b0 : (a0_5 != a1_5) = false := by simpa using c9); ((try (have c9b1 : decide (a0_5 = a1_5) = true := by simpa using c9))); ((try (have c9b2 : (a0_5 == a1_5) = true := by simpa using c9))); clear c9; (by_cases c15 : a0_6.toList = a1_6.toList); (· (rw [if_pos c15] at H); (have c15b0 : (a0_6.toList == a1_6.toList) = true := beq_iff_eq.mpr c15); (have c15b1 : (a0_6.toList != a1_6.toList) = false := bne_eq_false_iff_eq.mpr c15); clear c15; (obtain rfl := Option.some.inj H); (go_enter Try.func29, Try.ntmps29); (go_wp2_with (first | ((with_reducible refine gate_dst (N := 2) rfl ?_); refine box_event ?hg (N := 2) ?hd (cs := #[.string a0_0, .int .i64 a0_1, .int .i64 a0_2, .int .i64 a0_3, .slice A0_4 l0_4.length c0_4, .bool a0_5, .string a0_6]) (t := 49) ?hr ?_; (case hd => rfl); (case hg => rfl); (case hr => first | (go_simp; done) | (go_simp; rfl)); intro gb101 hg w16 hbox hb; have hB_ := zI hb HB; have n0_ := Aside0.mk (below_step hB_ hb); have n1_ := Aside0.mk (hbox); have n2_ := Aside0.mk (bx0 hg hB_); have n3_ := n2_; clear HB; have HB := n0_; have BK101 := n1_; have GW101 := n2_; have GE101 := n3_; clear n0_ n1_ n2_ n3_ hB_ hb hbox hg) | ((with_reducible refine gate_dst (N := 3) rfl ?_); refine box_event ?hg (N := 3) ?hd (cs := #[.string a1_0, .int .i64 a1_1, .int .i64 a1_2, .int .i64 a1_3, .slice A1_4 l1_4.length c1_4, .bool a1_5, .string a1_6]) (t := 49) ?hr ?_; (case hd => rfl); (case hg => rfl); (case hr => first | (go_simp; done) | (go_simp; rfl)); intro gb102 hg w17 hbox hb; have n0_ := Aside0.mk (kbI hb BK101); have hB_ := zI hb HB; have n1_ := Aside0.mk (below_step hB_ hb); have n2_ := Aside0.mk (hbox); have n3_ := Aside0.mk (bx0 hg hB_); have n4_ := n3_; have n5_ := Aside0.mk ((by rw [hg]; exact Nat.ne_of_lt (blk_lt (kI BK101)) : gb101 ≠ gb102)); have n6_ := Aside0.mk (Ne.symm n5_.out); clear BK101 HB; have BK101 := n0_; have HB := n1_; have BK102 := n2_; have GW102 := n3_; have GE102 := n4_; have NB101_102 := n5_; have NB102_101 := n6_; clear n0_ n1_ n2_ n3_ n4_ n5_ n6_ hB_ hb hbox hg; have hnb18 := NB101_102.out; have hnc18 := NB102_101.out; have hcz19_0 := cz BK101.out 0; have hcz19_1 := cz BK101.out 1; have hcz19_2 := cz BK101.out 2; have hcz19_3 := cz BK101.out 3; have hcz19_4 := cz BK101.out 4; have hcz19_5 := cz BK101.out 5; have hcz19_6 := cz BK101.out 6; have hfz19_0 := blk_frozen BK101.out 0; have hfz19_1 := blk_frozen BK101.out 1; have hfz19_2 := blk_frozen BK101.out 2; have hfz19_3 := blk_frozen BK101.out 3; have hfz19_4 := blk_frozen BK101.out 4; have hfz19_5 := blk_frozen BK101.out 5; have hfz19_6 := blk_frozen BK101.out 6; have hcz20_0 := cz BK102.out 0; have hcz20_1 := cz BK102.out 1; have hcz20_2 := cz BK102.out 2; have hcz20_3 := cz BK102.out 3; have hcz20_4 := cz BK102.out 4; have hcz20_5 := cz BK102.out 5; have hcz20_6 := cz BK102.out 6; have hfz20_0 := blk_frozen BK102.out 0; have hfz20_1 := blk_frozen BK102.out 1; have hfz20_2 := blk_frozen BK102.out 2; have hfz20_3 := blk_frozen BK102.out 3; have hfz20_4 := blk_frozen BK102.out 4; have hfz20_5 := blk_frozen BK102.out 5; have hfz20_6 := blk_frozen BK102.out 6) | ((with_reducible refine gate_callee (f := 43) rfl ?_); refine gL (some 29) Try.func43 #[.slice A0_4 l0_4.length c0_4, .slice A1_4 l1_4.length c1_4] ?_; (with_reducible refine (laws_eqStringS.calls k _ _ l0_4 _ _ l1_4 true _ ?side1 ?side2 ?side3 ?side4 A7.out ⟨rfl⟩).mono ?_); (case side1 => exact Kd.C_below HR0_4.out (eI HB)); (case side2 => exact HC0_4.out); (case side3 => exact Kd.C_below HR1_4.out (eI HB)); (case side4 => exact HC1_4.out); rintro e w' ⟨rfl, ⟨nd, rfl⟩⟩; refine ⟨_, rfl, ?_⟩))); go_ret; (exact ⟨rfl, eI HB⟩)); (· (rw [if_neg c15] at H); (have c15b0 : (a0_6.toList == a1_6.toList) = false := beq_eq_false_iff_ne.mpr c15); (have c15b1 : (a0_6.toList != a1_6.toList) = true := bne_iff_ne.mpr c15); (obtain rfl := Option.some.inj H); (exact absurd ht_.out (by decide)))
     ·replace c8 := Bool.eq_false_iff.mpr c8
      subst c8; (rw [if_neg (show ¬ (false = true) by decide)] at H); (obtain rfl := Option.some.inj H); (exact absurd ht_.out (by decide))
    ·rw [if_neg c6] at H
     (have c6b0 : (a0_3 == a1_3) = false := beq_eq_false_iff_ne.mpr c6); (have c6b1 : (a0_3 != a1_3) = true := bne_iff_ne.mpr c6); (obtain rfl := Option.some.inj H); (exact absurd ht_.out (by decide))
   ·rw [if_neg c5] at H
    (have c5b0 : (a0_2 == a1_2) = false := beq_eq_false_iff_ne.mpr c5); (have c5b1 : (a0_2 != a1_2) = true := bne_iff_ne.mpr c5); (obtain rfl := Option.some.inj H); (exact absurd ht_.out (by decide))
  ·rw [if_neg c4] at H
   (have c4b0 : (a0_1 == a1_1) = false := beq_eq_false_iff_ne.mpr c4); (have c4b1 : (a0_1 != a1_1) = true := bne_iff_ne.mpr c4); (obtain rfl := Option.some.inj H); (exact absurd ht_.out (by decide))
 ·rw [if_neg c3] at H
  (have c3b0 : (a0_0.toList == a1_0.toList) = false := beq_eq_false_iff_ne.mpr c3); (have c3b1 : (a0_0.toList != a1_0.toList) = true := bne_iff_ne.mpr c3); (obtain rfl := Option.some.inj H); (exact absurd ht_.out (by decide))
/-! ### laws_eqFieldS: function 11 -/
def laws_eqFieldS.l0 : Nat → List (S49) → List (S49) → Int → Option (Bool)
 | 0, _, _, _ => none
 | k + 1, x0, x1, x5 => if x5 < (x0.length : Int) then (if 0 ≤ x5 then (if x5 < (x1.length : Int) then ((laws_eqField.f k ((rd_T49 x0 x5).f0) ((rd_T49 x0 x5).f1) ((rd_T49 x0 x5).f2) ((rd_T49 x0 x5).f3) ((rd_T49 x0 x5).f4) ((rd_T49 x0 x5).f5) ((rd_T49 x0 x5).f6) ((rd_T49 x1 x5).f0) ((rd_T49 x1 x5).f1) ((rd_T49 x1 x5).f2) ((rd_T49 x1 x5).f3) ((rd_T49 x1 x5).f4) ((rd_T49 x1 x5).f5) ((rd_T49 x1 x5).f6)).bind fun t103 => (if t103 = true then (laws_eqFieldS.l0 k x0 x1 (wrap64 (x5 + 1))) else (some false))) else (none)) else (none)) else (some true)
def laws_eqFieldS.f (k : Nat) (l0 : List (S49)) (l1 : List (S49)) : Option (Bool) := if (l0.length : Int) = (l1.length : Int) then (laws_eqFieldS.l0 k l0 l1 0) else (some false)
def laws_eqFieldS.T6 : Bool × List (List Nat × List Nat) := (true, [([], []), ([], []), ([0, 1], [0, 1]), ([2], [2]), ([], []), ([], []), ([4, 5], [4, 5]), ([6], [6]), ([3, 7], [3, 7]), ([8], [8])])
def laws_eqFieldS.B6 : List Nat := [0, 0, 3, 7, 0, 0, 48, 112, 255, 511]
theorem laws_eqFieldS.tab6 : rtab .any (opsOf Try.f11 6) = laws_eqFieldS.T6 := by kernel_rfl
theorem laws_eqFieldS.bits6 : waitsOk laws_eqFieldS.T6.2 laws_eqFieldS.B6 = true := by kernel_rfl
set_option maxHeartbeats 8000000 in
set_option maxRecDepth 100000 in
theorem laws_eqFieldS.calls (k : Nat) (A0 : Option Addr) (c0 : Nat) (l0 : List (S49)) (A1 : Option Addr) (c1 : Nat) (l1 : List (S49)) (r : Bool) (w : World) (hr0 : Kd.C k49 w A0 l0.length l0) (hc0 : l0.length ≤ c0) (hr1 : Kd.C k49 w A1 l1.length l1) (hc1 : l1.length ≤ c1) (h : laws_eqFieldS.f k l0 l1 = some r) (ht_ : Aside0 (r = true)) :
  Calls Try.prog 11 #[.slice A0 l0.length c0, .slice A1 l1.length c1] w fun e w' => e = .returned (.bool r) ∧ Below w.heap.size w w' := by
 (have hu49 := Try.underlying49); (have HR0 := Aside0.mk hr0); (have HC0 := Aside0.mk hc0); clear hr0 hc0; (have HR1 := Aside0.mk hr1); (have HC1 := Aside0.mk hc1); clear hr1 hc1; (have HB := Aside0.mk (Below.refl w.heap.size w)); (unfold laws_eqFieldS.f at h); (have H := h); clear h; (by_cases c3 : (l0.length : Int) = (l1.length : Int))
 ·rw [if_pos c3] at H
  (have c3b0 : ((l0.length : Int) == (l1.length : Int)) = true := beq_iff_eq.mpr c3); (have c3b1 : ((l0.length : Int) != (l1.length : Int)) = false := bne_eq_false_iff_eq.mpr c3); (have c3b2 : (l0.length == l1.length) = true := by first | simpa using c3 | (simp at c3 ⊢; omega)); clear c3; (have H' := Aside0.mk H); clear H; (go_enter Try.func11, Try.ntmps11); (go_wp2); (go_loopg [5] k (fun kq v5 w' => ∃ (x5_1 : Int), v5 = .int .i64 x5_1 ∧ Aside0 (laws_eqFieldS.l0 kq l0 l1 x5_1 = some r) ∧ Aside0 (kq ≤ k) ∧ Aside0 (Below w.heap.size w w')))
  case atStart => exact ⟨(0), (by first | rfl | (simp; done) | (simp [*]; done)), H', ⟨Nat.le_refl _⟩, ⟨eI HB⟩⟩
  case round =>
   (clear H'); (try clear c1); (try clear p2); (try clear c3); (try clear c3b0); (try clear c3b1); (try clear c3b2); (obtain ⟨x5_1, rfl, HA, HK1, HB⟩ := hrel)
   cases gk with
   | zero => exact absurd HA.out (by simp [laws_eqFieldS.l0])
   | succ k1 =>
    (have H := HA.out); clear HA; (simp only [laws_eqFieldS.l0] at H); (by_cases c4 : x5_1 < (l0.length : Int))
    ·rw [if_pos c4] at H
     (have c4b0 := decide_eq_true c4); clear c4; (by_cases c5 : 0 ≤ x5_1)
     ·rw [if_pos c5] at H
      (have c5b0 := decide_eq_true c5); clear c5; (by_cases c6 : x5_1 < (l1.length : Int))
      ·rw [if_pos c6] at H
       (have c6b0 := decide_eq_true c6); clear c6; (replace H := obS H); (obtain ⟨t103, A7, H⟩ := H); (by_cases c8 : t103 = true)
       ·subst c8
        (rw [if_pos rfl] at H); (have H' := Aside0.mk H); clear H; (try go_wp2); (have n0_ := Aside0.mk (below_drew1 HB.out)); clear HB; (have HB := n0_); clear n0_; (have p101 : 0 ≤ (x5_1 : Int) := odt); (have q101 : x5_1 < (l0.length : Int) := odt); (obtain ⟨ad101, A101_4, c101_4, e101, hx101_0, hx101_1, hx101_2, hx101_3, hx101_4, hx101_5, hx101_6, hl101_4, hi101_4⟩ := at_T49 HR0.out x5_1 p101 q101); (have hw101_6 := hx101_6); (have hw101_5 := hx101_5); (have hw101_4 := hx101_4); (have hw101_3 := hx101_3); (have hw101_2 := hx101_2); (have hw101_1 := hx101_1); (have hw101_0 := hx101_0); (cases e101); (replace hx101_0 := hcI HB hx101_0); (replace hx101_1 := hcI HB hx101_1); (replace hx101_2 := hcI HB hx101_2); (replace hx101_3 := hcI HB hx101_3); (replace hx101_4 := hcI HB hx101_4); (replace hx101_5 := hcI HB hx101_5); (replace hx101_6 := hcI HB hx101_6); (have HR101_4 := Aside0.mk hi101_4); (have HC101_4 := Aside0.mk hl101_4); clear hi101_4 hl101_4; (replace p101 := eq_true p101); (replace q101 := eq_true q101); (have p102 : 0 ≤ (x5_1 : Int) := odt); (have q102 : x5_1 < (l1.length : Int) := odt); (obtain ⟨ad102, A102_4, c102_4, e102, hx102_0, hx102_1, hx102_2, hx102_3, hx102_4, hx102_5, hx102_6, hl102_4, hi102_4⟩ := at_T49 HR1.out x5_1 p102 q102); (have hw102_6 := hx102_6); (have hw102_5 := hx102_5); (have hw102_4 := hx102_4); (have hw102_3 := hx102_3); (have hw102_2 := hx102_2); (have hw102_1 := hx102_1); (have hw102_0 := hx102_0); (cases e102); (replace hx102_0 := hcI HB hx102_0); (replace hx102_1 := hcI HB hx102_1); (replace hx102_2 := hcI HB hx102_2); (replace hx102_3 := hcI HB hx102_3); (replace hx102_4 := hcI HB hx102_4); (replace hx102_5 := hcI HB hx102_5); (replace hx102_6 := hcI HB hx102_6); (have HR102_4 := Aside0.mk hi102_4); (have HC102_4 := Aside0.mk hl102_4); clear hi102_4 hl102_4; (replace p102 := eq_true p102); (replace q102 := eq_true q102); (refine start_ (n := 10) (S := fun w' => w'.cell? (ad101.add ((x5_1).toNat * 7)) = some (.string ((rd_T49 l0 x5_1).f0)) ∧ w'.cell? ⟨(ad101.add ((x5_1).toNat * 7)).block, (ad101.add ((x5_1).toNat * 7)).off + 1, none⟩ = some (.int .i64 ((rd_T49 l0 x5_1).f1)) ∧ w'.cell? ⟨(ad101.add ((x5_1).toNat * 7)).block, (ad101.add ((x5_1).toNat * 7)).off + 2, none⟩ = some (.int .i64 ((rd_T49 l0 x5_1).f2)) ∧ w'.cell? ⟨(ad101.add ((x5_1).toNat * 7)).block, (ad101.add ((x5_1).toNat * 7)).off + 3, none⟩ = some (.int .i64 ((rd_T49 l0 x5_1).f3)) ∧ w'.cell? ⟨(ad101.add ((x5_1).toNat * 7)).block, (ad101.add ((x5_1).toNat * 7)).off + 4, none⟩ = some (.slice A101_4 ((rd_T49 l0 x5_1).f4).length c101_4) ∧ w'.cell? ⟨(ad101.add ((x5_1).toNat * 7)).block, (ad101.add ((x5_1).toNat * 7)).off + 5, none⟩ = some (.bool ((rd_T49 l0 x5_1).f5)) ∧ w'.cell? ⟨(ad101.add ((x5_1).toNat * 7)).block, (ad101.add ((x5_1).toNat * 7)).off + 6, none⟩ = some (.string ((rd_T49 l0 x5_1).f6)) ∧ w'.cell? (ad102.add ((x5_1).toNat * 7)) = some (.string ((rd_T49 l1 x5_1).f0)) ∧ w'.cell? ⟨(ad102.add ((x5_1).toNat * 7)).block, (ad102.add ((x5_1).toNat * 7)).off + 1, none⟩ = some (.int .i64 ((rd_T49 l1 x5_1).f1)) ∧ w'.cell? ⟨(ad102.add ((x5_1).toNat * 7)).block, (ad102.add ((x5_1).toNat * 7)).off + 2, none⟩ = some (.int .i64 ((rd_T49 l1 x5_1).f2)) ∧ w'.cell? ⟨(ad102.add ((x5_1).toNat * 7)).block, (ad102.add ((x5_1).toNat * 7)).off + 3, none⟩ = some (.int .i64 ((rd_T49 l1 x5_1).f3)) ∧ w'.cell? ⟨(ad102.add ((x5_1).toNat * 7)).block, (ad102.add ((x5_1).toNat * 7)).off + 4, none⟩ = some (.slice A102_4 ((rd_T49 l1 x5_1).f4).length c102_4) ∧ w'.cell? ⟨(ad102.add ((x5_1).toNat * 7)).block, (ad102.add ((x5_1).toNat * 7)).off + 5, none⟩ = some (.bool ((rd_T49 l1 x5_1).f5)) ∧ w'.cell? ⟨(ad102.add ((x5_1).toNat * 7)).block, (ad102.add ((x5_1).toNat * 7)).off + 6, none⟩ = some (.string ((rd_T49 l1 x5_1).f6))) (ds := []) (cn 10 0) (by kernel_rfl) rfl (by kernel_rfl) ⟨(hcI HB hw101_0), (hcI HB hw101_1), (hcI HB hw101_2), (hcI HB hw101_3), (hcI HB hw101_4), (hcI HB hw101_5), (hcI HB hw101_6), (hcI HB hw102_0), (hcI HB hw102_1), (hcI HB hw102_2), (hcI HB hw102_3), (hcI HB hw102_4), (hcI HB hw102_5), (hcI HB hw102_6)⟩ (fun hHeld => ?_); refine with_tabW laws_eqFieldS.tab6 laws_eqFieldS.bits6 (fun HT_ HW_ => ?_))
        (generalize wr.drew = w9 at HB HR101_4 HR102_4 hx101_0 hx101_1 hx101_2 hx101_3 hx101_4 hx101_5 hx101_6 hx102_0 hx102_1 hx102_2 hx102_3 hx102_4 hx102_5 hx102_6 hHeld ⊢); (refine pB 0 (cn 10 1) (some 17) HT_ (h := ?_)); (refine pB 1 (cn 10 2) (some 18) HT_ (h := ?_)); (refine pB 2 (cn 10 3) (some 19) HT_ (h := ?_)); (refine pB 4 (cb 10 23) (some 21) HT_ (h := ?_)); (refine pB 5 (cb 10 55) (some 22) HT_ (h := ?_)); (refine pB 6 (cb 10 119) (some 23) HT_ (h := ?_)); (refine tB 3 (cn 10 7) (some 20) HT_ HW_ hHeld (h := ?_)); (refine tB 7 (cn 10 8) (some 24) HT_ HW_ hHeld (h := ?_)); (refine oN 8 (some 25) (cn 10 9) HT_ (fun K hK => ?_)); (refine gG Try.func29 #[.agg #[.string ((rd_T49 l0 x5_1).f0), .int .i64 ((rd_T49 l0 x5_1).f1), .int .i64 ((rd_T49 l0 x5_1).f2), .int .i64 ((rd_T49 l0 x5_1).f3), .slice A101_4 ((rd_T49 l0 x5_1).f4).length c101_4, .bool ((rd_T49 l0 x5_1).f5), .string ((rd_T49 l0 x5_1).f6)], .agg #[.string ((rd_T49 l1 x5_1).f0), .int .i64 ((rd_T49 l1 x5_1).f1), .int .i64 ((rd_T49 l1 x5_1).f2), .int .i64 ((rd_T49 l1 x5_1).f3), .slice A102_4 ((rd_T49 l1 x5_1).f4).length c102_4, .bool ((rd_T49 l1 x5_1).f5), .string ((rd_T49 l1 x5_1).f6)]] ?_); (with_reducible refine (laws_eqField.calls k1 ((rd_T49 l0 x5_1).f0) ((rd_T49 l0 x5_1).f1) ((rd_T49 l0 x5_1).f2) ((rd_T49 l0 x5_1).f3) _ _ ((rd_T49 l0 x5_1).f4) ((rd_T49 l0 x5_1).f5) ((rd_T49 l0 x5_1).f6) ((rd_T49 l1 x5_1).f0) ((rd_T49 l1 x5_1).f1) ((rd_T49 l1 x5_1).f2) ((rd_T49 l1 x5_1).f3) _ _ ((rd_T49 l1 x5_1).f4) ((rd_T49 l1 x5_1).f5) ((rd_T49 l1 x5_1).f6) true _ ?side1 ?side2 ?side3 ?side4 A7.out ⟨rfl⟩).mono ?_); ((case side1 => exact Kd.C_below HR101_4.out (eI HB))); ((case side2 => exact HC101_4.out)); ((case side3 => exact Kd.C_below HR102_4.out (eI HB))); ((case side4 => exact HC102_4.out)); (rintro e w10 ⟨rfl, hb⟩); (refine ⟨_, rfl, ?_⟩); (have n0_ := Aside0.mk (sI hb HB)); clear HB; (have HB := n0_); clear n0_; ((try clear hb)); ((try clear hb2)); ((try clear hk)); ((try clear hi)); (refine hK.out _ _ ⟨(hcI HB hw101_0), (hcI HB hw101_1), (hcI HB hw101_2), (hcI HB hw101_3), (hcI HB hw101_4), (hcI HB hw101_5), (hcI HB hw101_6), (hcI HB hw102_0), (hcI HB hw102_1), (hcI HB hw102_2), (hcI HB hw102_3), (hcI HB hw102_4), (hcI HB hw102_5), (hcI HB hw102_6)⟩ (fun hHeld => ?_)); clear hK K; (refine norm_ (a' := ?_) ?_ ?_); rotate_left
        (· (show Act.put _ (some 25) _ = _); (simp only [Act.put, aS1, aS2, aS3, i64_w, i32_w]); rfl); (refine pB 9 (cn 10 10) (some 26) HT_ (h := ?_)); (refine done_ (done_of HT_.out (by kernel_rfl)) ?_); (try go_wp2); go_roundg k1
        case measure => have := HK1.out; omega
        case rel => exact ⟨(wrap64 (x5_1 + 1)), (by first | rfl | (simp; done) | (simp [*]; done)), H', ⟨by have := HK1.out; omega⟩, ⟨eI HB⟩⟩
       ·replace c8 := Bool.eq_false_iff.mpr c8
        subst c8; (rw [if_neg (show ¬ (false = true) by decide)] at H); (obtain rfl := Option.some.inj H); (exact absurd ht_.out (by decide))
      ·rw [if_neg c6] at H
       exact absurd H (by simp)
     ·rw [if_neg c5] at H
      exact absurd H (by simp)
    ·rw [if_neg c4] at H
     (have c4b0 := decide_eq_false c4); clear c4; (obtain rfl := Option.some.inj H); (go_wp2); go_ret; (exact ⟨rfl, eI HB⟩)
 ·rw [if_neg c3] at H
  (have c3b0 : ((l0.length : Int) == (l1.length : Int)) = false := beq_eq_false_iff_ne.mpr c3); (have c3b1 : ((l0.length : Int) != (l1.length : Int)) = true := bne_iff_ne.mpr c3); (have c3b2 : (l0.length == l1.length) = false := by first | simpa using c3 | (simp at c3 ⊢; omega)); (obtain rfl := Option.some.inj H); (exact absurd ht_.out (by decide))
/-! ### laws_markText: function 30 -/
def laws_markText.l0 : Nat → Int → ByteArray → Option (ByteArray)
 | 0, _, _ => none
 | k + 1, x0, x3 => if x0 > 0 then ((some (([(wrap64 (48 + (Int.tmod x0 10))) % 256] : List Int) : List Int)).bind fun y101 => (if (strOfNums y101).size + x3.size ≤ 9223372036854775807 then (laws_markText.l0 k (wrap64 (Int.tdiv x0 10)) ((strOfNums y101) ++ x3)) else (none))) else (if 1 + x3.size ≤ 9223372036854775807 then (some ((⟨#[109]⟩ : ByteArray) ++ x3)) else (none))
def laws_markText.f (k : Nat) (a0 : Int) : Option (ByteArray) := if a0 ≤ 0 then (some (⟨#[109, 48]⟩ : ByteArray)) else (laws_markText.l0 k a0 (⟨#[]⟩ : ByteArray))
set_option maxHeartbeats 8000000 in
set_option maxRecDepth 100000 in
theorem laws_markText.calls (k : Nat) (a0 : Int) (r : ByteArray) (w : World) (h : laws_markText.f k a0 = some r) :
  Calls Try.prog 30 #[.int .i64 a0] w fun e w' => e = .returned (.string r) ∧ Below w.heap.size w w' := by
 (have HB := Aside0.mk (Below.refl w.heap.size w)); (unfold laws_markText.f at h); (have H := h); clear h; (by_cases c2 : a0 ≤ 0); (· (rw [if_pos c2] at H); (have c2b0 := decide_eq_true c2); clear c2; (obtain rfl := Option.some.inj H); (go_enter Try.func30, Try.ntmps30); (go_wp2); go_ret; (exact ⟨rfl, eI HB⟩))
 ·rw [if_neg c2] at H
  (have c2b0 := decide_eq_false c2); clear c2; (have H' := Aside0.mk H); clear H; (go_enter Try.func30, Try.ntmps30); (go_wp2); (go_loopg [0, 3] k (fun kq v0 v3 w' => ∃ (x0_1 : Int) (x3_1 : ByteArray), v0 = .int .i64 x0_1 ∧ v3 = .string x3_1 ∧ Aside0 (laws_markText.l0 kq x0_1 x3_1 = some r) ∧ Aside0 (kq ≤ k) ∧ Aside0 (Below w.heap.size w w')))
  case atStart => exact ⟨(a0), ((⟨#[]⟩ : ByteArray)), (by first | rfl | (simp; done) | (simp [*]; done)), (by first | rfl | (simp; done) | (simp [*]; done)), H', ⟨Nat.le_refl _⟩, ⟨eI HB⟩⟩
  case round =>
   (clear H'); (try clear c2); (try clear c2b0); (try clear p2); (obtain ⟨x0_1, x3_1, rfl, rfl, HA, HK1, HB⟩ := hrel)
   cases gk with
   | zero => exact absurd HA.out (by simp [laws_markText.l0])
   | succ k1 =>
    (have H := HA.out); clear HA; (simp only [laws_markText.l0] at H); (by_cases c3 : x0_1 > 0)
    ·rw [if_pos c3] at H
     (have c3b0 : decide (0 < x0_1) = true := decide_eq_true c3); clear c3; (obtain ⟨y101, hy101⟩ : ∃ y_ : List Int, y_ = (([(wrap64 (48 + (Int.tmod x0_1 10))) % 256] : List Int)) := ⟨_, rfl⟩); (replace H : (if (strOfNums y101).size + x3_1.size ≤ 9223372036854775807 then (laws_markText.l0 k1 (wrap64 (Int.tdiv x0_1 10)) ((strOfNums y101) ++ x3_1)) else (none)) = some r := by first | (rw [hy101]; with_reducible exact H) | (have H2_ := (Option.bind_some _ _).symm.trans H; rw [hy101]; with_reducible exact H2_) | (have H2_ := (Option.bind_some _ _).symm.trans H; with_reducible exact H2_) | with_reducible exact H | (rw [hy101]; exact H) | exact H); (have Ny101 := Aside0.mk hy101); clear hy101; (by_cases c4 : (strOfNums y101).size + x3_1.size ≤ 9223372036854775807)
     ·rw [if_pos c4] at H
      (have c4b0 := eq_true c4); (have c4b1 := decide_eq_true c4); (try have c4b2 : (9223372036854775807 < (strOfNums y101).size + x3_1.size) = False := eq_false (Nat.not_lt.2 c4)); (have H' := Aside0.mk H); clear H; (go_wp2_with (first | ((with_reducible refine gate_dst (N := 12) rfl ?_); refine Kd.R_lit (Kd.int .u8) _ 5 ?hg (N := 12) ?hd (xs := ([(wrap64 (48 + (Int.tmod x0_1 10))) % 256] : List Int)) (inner := [.int .u8 ((wrap64 (48 + (Int.tmod x0_1 10))) % 256)]) (ok := fun _ => True) (okp := fun _ => True) ?hr ?hp (fun _ hk => hk) trivial (Below.refl _ _) (Nat.le_refl _) (by simp) ?_; (case hd => rfl); (case hg => rfl); (case hr => first | (go_simp; done) | (go_simp; rfl)); (case hp => exact (Reps.one (show Kd.M (Kd.int .u8) _ _ _ ((wrap64 (48 + (Int.tmod x0_1 10))) % 256) [.int .u8 ((wrap64 (48 + (Int.tmod x0_1 10))) % 256)] from rfl) (Reps.none _ _))); intro v102 w5 ho6 hb hg_ hnew_; clear hg_ hnew_; (first | rw [← Ny101.out] at ho6 | (simp only [Int.reduceToNat] at ho6; rw [← Ny101.out] at ho6)); have hB_ := zI hb HB; have n0_ := Aside0.mk (Kd.R_lower ho6 (below_size hB_)); have n1_ := Aside0.mk (below_step hB_ hb); clear HB; have HO103 := n0_; have HB := n1_; clear n0_ n1_ hB_ hb ho6; have hcv7 := own_string (P := Try.prog) Try.underlying68 Try.underlying5 Try.underlying9 (Kd.own_of_R HO103.out)))); go_roundg k1
      case measure => have := HK1.out; omega
      case rel => exact ⟨(wrap64 (Int.tdiv x0_1 10)), ((strOfNums y101) ++ x3_1), (by first | rfl | (simp; done) | (simp [*]; done)), (by first | rfl | (simp; done) | (simp [*]; done)), H', ⟨by have := HK1.out; omega⟩, ⟨eI HB⟩⟩
     ·rw [if_neg c4] at H
      exact absurd H (by simp)
    ·rw [if_neg c3] at H
     (have c3b0 : decide (0 < x0_1) = false := decide_eq_false c3); clear c3; (by_cases c8 : 1 + x3_1.size ≤ 9223372036854775807); (· (rw [if_pos c8] at H); (have c8b0 := eq_true c8); (have c8b1 := decide_eq_true c8); (try have c8b2 : (9223372036854775807 < 1 + x3_1.size) = False := eq_false (Nat.not_lt.2 c8)); (obtain rfl := Option.some.inj H); (go_wp2); go_ret; (exact ⟨rfl, eI HB⟩)); (· (rw [if_neg c8] at H); (exact absurd H (by simp)))
/-! ### laws_markStringS: function 31 -/
def laws_markStringS.l0 : Nat → List ByteArray → Int → Int → Option (Int × List ByteArray)
 | 0, _, _, _ => none
 | k + 1, x0, x1, x5 => if x5 < (x0.length : Int) then ((laws_markText.f k x1).bind fun t101 => (if 0 ≤ x5 then (laws_markStringS.l0 k (x0.set (x5 : Int).toNat t101) (wrap64 (x1 + 1)) (wrap64 (x5 + 1))) else (none))) else (some (x1, x0))
def laws_markStringS.f (k : Nat) (l0 : List ByteArray) (a1 : Int) : Option (Int × List ByteArray) := laws_markStringS.l0 k l0 a1 0
set_option maxHeartbeats 8000000 in
set_option maxRecDepth 100000 in
theorem laws_markStringS.calls (k : Nat) (P0_ : Nat → Prop) (u9000_ : Value) (l0 : List ByteArray) (a1 : Int) (r1 : Int) (r2 : List ByteArray) (w0 w : World) (hB : Below w0.heap.size w0 w) (ho0 : Kd.R Kd.string 9 w w0.heap.size P0_ u9000_ l0) (h : laws_markStringS.f k l0 a1 = some (r1, r2)) :
  Calls Try.prog 31 #[u9000_, .int .i64 a1] w fun e w' => e = .returned (.int .i64 r1) ∧ Kd.R Kd.string 9 w' w0.heap.size (fun k_ => (P0_ k_ ∨ w.heap.size ≤ k_)) u9000_ r2 ∧ Below w0.heap.size w0 w' ∧ Kept w w' (fun k_ => P0_ k_) := by
 (have HO0 := Aside0.mk (show Kd.R Kd.string 9 w w0.heap.size (fun k_ => (P0_ k_ ∨ w.heap.size ≤ k_)) u9000_ l0 from Kd.R_mono ho0 (fun k_ hk => (.inl hk)))); (have HK := Aside0.mk (Kept.refl w (fun k_ => P0_ k_))); (have HW0 := Aside0.mk hB.size); (have HB := Aside0.mk hB); clear hB; (unfold laws_markStringS.f at h); (have H := h); clear h; (have H' := Aside0.mk H); clear H; (go_enter Try.func31, Try.ntmps31); (go_wp2); (go_loopg [1, 5] k (fun kq v1 v5 w' => ∃ (x0_1 : List ByteArray) (x1_1 : Int) (x5_1 : Int), v1 = .int .i64 x1_1 ∧ v5 = .int .i64 x5_1 ∧ Aside0 (laws_markStringS.l0 kq x0_1 x1_1 x5_1 = some (r1, r2)) ∧ Aside0 (kq ≤ k) ∧ Aside0 (Kd.R Kd.string 9 w' w0.heap.size (fun k_ => (P0_ k_ ∨ w.heap.size ≤ k_)) u9000_ x0_1) ∧ Aside0 (Kept w w' (fun k_ => P0_ k_)) ∧ Aside0 (Below w0.heap.size w0 w')))
 case atStart => exact ⟨(l0), (a1), (0), (by first | rfl | (simp; done) | (simp [*]; done)), (by first | rfl | (simp; done) | (simp [*]; done)), H', ⟨Nat.le_refl _⟩, ⟨rI HO0⟩, ⟨by repeat (first | (with_reducible first | exact HK.out | apply Kept.alloc | apply Kept.drewN | apply Kept.drew) | exact HK.out)⟩, ⟨eI HB⟩⟩
 case round =>
  (clear H'); (try clear p2); (obtain ⟨x0_1, x1_1, x5_1, rfl, rfl, HA, HK1, HO_0, HK, HB⟩ := hrel)
  cases gk with
  | zero => exact absurd HA.out (by simp [laws_markStringS.l0])
  | succ k1 =>
   (have H := HA.out); clear HA; (simp only [laws_markStringS.l0] at H); (by_cases c3 : x5_1 < (x0_1.length : Int))
   ·rw [if_pos c3] at H
    (have c3b0 := decide_eq_true c3); clear c3; (replace H := obS H); (obtain ⟨t101, A4, H⟩ := H); (by_cases c5 : 0 ≤ x5_1)
    ·rw [if_pos c5] at H
     (have c5b0 := decide_eq_true c5); clear c5; (obtain ⟨y102, hy102⟩ : ∃ y_ : List ByteArray, y_ = (x0_1.set (x5_1 : Int).toNat t101) := ⟨_, rfl⟩); (replace H : (laws_markStringS.l0 k1 y102 (wrap64 (x1_1 + 1)) (wrap64 (x5_1 + 1))) = some (r1, r2) := by first | (rw [hy102]; with_reducible exact H) | (have H2_ := (Option.bind_some _ _).symm.trans H; rw [hy102]; with_reducible exact H2_) | (have H2_ := (Option.bind_some _ _).symm.trans H; with_reducible exact H2_) | with_reducible exact H | (rw [hy102]; exact H) | exact H); (have Ny102 := Aside0.mk hy102); clear hy102; (have H' := Aside0.mk H); clear H; (obtain ⟨Ao7, co7, eo7⟩ := Kd.R_slice HO_0.out); subst eo7; (go_wp2_with (first | ((with_reducible refine gate_callee (f := 30) rfl ?_); refine gL (some 15) Try.func30 #[.int .i64 x1_1] ?_; (with_reducible refine (laws_markText.calls k1 x1_1 t101 _ A4.out).mono ?_); rintro e w8 ⟨rfl, hb⟩; refine ⟨_, rfl, ?_⟩; have n0_ := Aside0.mk (rbI hb HO_0); have n1_ := Aside0.mk (Kept.below (S := (fun k_ => P0_ k_)) (by repeat (first | (with_reducible first | exact HK.out | apply Kept.alloc | apply Kept.drewN | apply Kept.drew) | exact HK.out)) hb); have n2_ := Aside0.mk (sI hb HB); clear HO_0 HK HB; have HO_0 := n0_; have HK := n1_; have HB := n2_; clear n0_ n1_ n2_; (try clear hb); (try clear hb2); (try clear hk); (try clear hi); have p6 : 0 ≤ (x5_1 : Int) := odt; have q6 : (x5_1 : Int) < ((x0_1.length : Int) : Int) := odt; obtain ⟨go6, co6, eo6, gb6, gl6, cl6, HG6⟩ := Kd.R_form HO_0.out (by omega); (first | cases eo6 | (injection eo6 with ea_ en_ ec_; (first | subst ea_ | (injection ea_ with ea_; subst ea_)); subst ec_; clear en_)); have GB6 := Aside0.mk gb6; have GG6 := Aside0.mk HG6; clear gb6 gl6 HG6; have HMgo6 := Aside0.mk (show (P0_ go6 ∨ w.heap.size ≤ go6) from (HO_0.out.1 _ rfl)); obtain ⟨hx6_0, hf6_0⟩ := Kd.R_celln (⟨#[]⟩ : ByteArray) HO_0.out (x5_1 : Int) p6 q6; replace p6 := eq_true p6; replace q6 := eq_true q6; obtain ⟨hy9_, hz9_⟩ := Kd.R_celln (⟨#[]⟩ : ByteArray) HO_0.out (x5_1 : Int) odt odt; have HP9 := Kd.R_putg HO_0.out (x5_1 : Int) t101) | ((with_reducible refine gate_store (t := 9) (p := 16) rfl ?_); refine store_event (t := 9) (p := 16) (v := ?vo_w10) (w1 := (w8.setCell ⟨go6, (x5_1 : Int).toNat, none⟩ (.string t101))) ?hg ?ho ?hn ?hr ?_; (case ho => rfl); (case hg => rfl); (case hn => rfl); (case hr => first | (go_simp; done) | (go_simp; rfl)); intro w10 hw; have hg : w8.grownBy w10 (some go6) := (by rw [hw]; exact HP9.2); have hp_ : Kd.R Kd.string 9 w10 w0.heap.size (fun k_ => (P0_ k_ ∨ w.heap.size ≤ k_)) (.slice (some ⟨go6, 0, none⟩) x0_1.length co7) y102 := (by rw [hw, Ny102.out]; exact HP9.1); clear HP9; have n0_ := Aside0.mk (hp_); have n1_ := Aside0.mk ((by rw [hw]; exact below_set (HB.out) GB6.out : Below w0.heap.size w0 w10)); have n2_ := Aside0.mk (Kept.of_grown (S := (fun k_ => P0_ k_)) hg (by repeat (first | (with_reducible first | exact HK.out | apply Kept.alloc | apply Kept.drewN | apply Kept.drew) | exact HK.out)) (fun k_ e_ => (HO_0.out.1 k_ e_))); clear HO_0 HB HK; have HO_0 := n0_; have HB := n1_; have HK := n2_; clear n0_ n1_ n2_ hg hw hp_))); go_roundg k1
     case measure => have := HK1.out; omega
     case rel => exact ⟨(y102), (wrap64 (x1_1 + 1)), (wrap64 (x5_1 + 1)), (by first | rfl | (simp; done) | (simp [*]; done)), (by first | rfl | (simp; done) | (simp [*]; done)), H', ⟨by have := HK1.out; omega⟩, ⟨rI HO_0⟩, ⟨by repeat (first | (with_reducible first | exact HK.out | apply Kept.alloc | apply Kept.drewN | apply Kept.drew) | exact HK.out)⟩, ⟨eI HB⟩⟩
    ·rw [if_neg c5] at H
     exact absurd H (by simp)
   ·rw [if_neg c3] at H
    (have c3b0 := decide_eq_false c3); clear c3; (simp only [Option.some.injEq, Prod.mk.injEq] at H); (obtain ⟨rfl, rfl⟩ := H); (obtain ⟨Ao11, co11, eo11⟩ := Kd.R_slice HO_0.out); subst eo11; (go_wp2); go_ret; (exact ⟨rfl, rI HO_0, eI HB, by repeat (first | (with_reducible first | exact HK.out | apply Kept.alloc | apply Kept.drewN | apply Kept.drew) | exact HK.out)⟩)

end Go.Proofs.Ytcjloeeomhiblaa.X
set_option linter.unusedVariables false
set_option linter.unusedSimpArgs false
namespace Go.Proofs.Ytcjloeeomhiblaa.X
open Go.RowKit Go.Proofs.YtcjloeeomhiblaaW.PrintWords
section
variable {α : Type} {d : Kd α} {e base n cap g m : Nat} {ok : Nat → Prop} {W : World} {xs : List α} {x x' z : α} {i : Int}
theorem S_at (h : Kd.S d e W base ok (.slice (some ⟨g, 0, none⟩) n cap) (xs.set i.toNat x)) (h0 : 0 ≤ i) (h1 : i < xs.length) (hs : d.sz = m) :
    ∃ (oki : Nat → Prop) (c : List Value), c.length = m ∧ d.M W base oki x c ∧ (∀ j u, c[j]? = some u → W.cell? ⟨g, i.toNat * m + j, none⟩ = some u) ∧ (∀ j, W.frozen? ⟨g, i.toNat * m + j, none⟩ = false) ∧ (∀ k, oki k → ok k ∧ k ≠ g) ∧ Kd.H d e W base ok (.slice (some ⟨g, 0, none⟩) n cap) (xs.set i.toNat x) i oki c := by
  subst hs
  have hn := (Kd.R_reads' (Kd.S_R h)).1
  rw [List.length_set] at hn
  obtain ⟨oki, c, a, b, c1, d1, e1, f1⟩ := Kd.S_elem h x i h0 (by omega)
  have hx : (xs.set i.toNat x).getD i.toNat x = x := by rw [List.getD_eq_getElem?_getD, List.getElem?_set_self (by omega)]; rfl
  rw [hx] at b
  exact ⟨oki, c, a, b, c1, d1, e1, f1⟩
/-- A field of element i is written. -/
theorem S_fld (h : Kd.S d e W base ok (.slice (some ⟨g, 0, none⟩) n cap) (xs.set i.toNat x)) (h0 : 0 ≤ i) (h1 : i < xs.length) (hs : d.sz = m) (j : Nat) (hj : j + 1 ≤ m) (x' : α) (u : Value)
    (hM : ∀ (oki : Nat → Prop) (c : List Value), d.M W base oki x c → d.M W base oki x' (c.take j ++ [u] ++ c.drop (j + 1))) :
    Kd.S d e (W.setCell ⟨g, i.toNat * m + j, none⟩ u) base ok (.slice (some ⟨g, 0, none⟩) n cap) (xs.set i.toNat x') ∧ W.grownBy (W.setCell ⟨g, i.toNat * m + j, none⟩ u) (some g) := by
  subst hs
  have hn := (Kd.R_reads' (Kd.S_R h)).1
  rw [List.length_set] at hn
  obtain ⟨oki, c, hcl, hMc, hcc, hfr, hoki, hH⟩ := S_at h h0 h1 rfl
  have h2 := Kd.S_seg0 hH h0 (by omega) (seg := [u]) (j := j) hj (hM oki c hMc) (fun _ hk => hk)
  rw [List.set_set] at h2
  exact h2
/-- What element i leads to is lent to a call that writes it. -/
theorem S_in (h : Kd.S d e W base ok (.slice (some ⟨g, 0, none⟩) n cap) (xs.set i.toNat x)) (h0 : 0 ≤ i) (h1 : i < xs.length) (hs : d.sz = m) (hnew : ∀ k, W.heap.size ≤ k → ok k) :
    ∃ (oki : Nat → Prop) (c : List Value), c.length = m ∧ d.M W base oki x c ∧ (∀ j u, c[j]? = some u → W.cell? ⟨g, i.toNat * m + j, none⟩ = some u) ∧ (∀ k, oki k → ok k ∧ k ≠ g) ∧
      ∀ (w1 : World) (x' : α), Kept W w1 oki → d.M w1 base (fun k => oki k ∨ W.heap.size ≤ k) x' c → Kd.S d e w1 base ok (.slice (some ⟨g, 0, none⟩) n cap) (xs.set i.toNat x') := by
  obtain ⟨oki, c, hcl, hMc, hcc, hfr, hoki, hH⟩ := S_at h h0 h1 hs
  refine ⟨oki, c, hcl, hMc, hcc, hoki, fun w1 x' hk hM => ?_⟩
  have h2 := Kd.H_step (w1 := w1) (Kd.H_widen hH) (fun k ho hn hlt => hk.2 k hlt (fun hk2 => hn (.inl hk2)))
  have h3 := Kd.H_back h2 hM (fun k hk2 => hk2.elim .inl (fun hle => .inr ⟨hnew k hle, hle⟩))
  rw [List.set_set] at h3
  exact h3
theorem set_getD (xs : List α) (i : Nat) (z : α) (h : i < xs.length) : xs.set i (xs.getD i z) = xs := by
  rw [List.getD_eq_getElem?_getD, List.getElem?_eq_getElem h]
  exact List.set_getElem_self h
end
end Go.Proofs.Ytcjloeeomhiblaa.X
set_option linter.unusedVariables false
set_option linter.unusedSimpArgs false
namespace Go.Proofs.Ytcjloeeomhiblaa.E
open Go.RowKit Go.Proofs.YtcjloeeomhiblaaW.PrintWords
variable {α β S R : Type}

theorem ev_cast {g : Nat → Option α} {r r' : α} (h : Ev g r) (e : r = r') : Ev g r' := e ▸ h
theorem ev_pos {c : Prop} [Decidable c] (h : c) {f g : Nat → Option α} {r : α} (k : Ev f r) : Ev (fun k => if c then f k else g k) r := Ev.congr (fun _ => if_pos h) k
theorem ev_neg {c : Prop} [Decidable c] (h : ¬ c) {f g : Nat → Option α} {r : α} (k : Ev g r) : Ev (fun k => if c then f k else g k) r := Ev.congr (fun _ => if_neg h) k
theorem ev_ite {c : Prop} [Decidable c] {f g : Nat → Option α} {r : α} (h1 : c → Ev f r) (h2 : ¬ c → Ev g r) : Ev (fun k => if c then f k else g k) r := by
  by_cases h : c
  · exact ev_pos h (h1 h)
  · exact ev_neg h (h2 h)
theorem ev_now {r r' : α} (e : r = r') : Ev (fun _ => some r) r' := e ▸ Ev.now r
theorem ev_bind0 {o : Option α} {a : α} (h : o = some a) {f : Nat → α → Option β} {r : β} (k : Ev (fun n => f n a) r) : Ev (fun n => o.bind (f n)) r := by subst h; exact k
theorem ev_some {a : α} {f : Nat → α → Option β} {r : β} (k : Ev (fun n => f n a) r) : Ev (fun n => (some a).bind (f n)) r := k
/-- With rounds: what a printed function's '.f' tells for ever, told of a number of rounds. -/
theorem ev_get {g : Nat → Option α} {r : α} (h : Ev g r) : ∃ k, g k = some r := Ev.rounds h
theorem wrap_id {x : Int} (h0 : -9223372036854775808 ≤ x) (h1 : x ≤ 9223372036854775807) : wrap64 x = x := IntWalk.wrap64_in x ⟨h0, h1⟩
theorem wrap_succ {i n : Nat} (h : i < n) (hn : n ≤ 9223372036854775807) : wrap64 ((i : Int) + 1) = ((i + 1 : Nat) : Int) := by rw [wrap_id] <;> omega
theorem drop_cons {xs : List α} {i : Nat} {x : α} {r : List α} (h : xs.drop i = x :: r) (d : α) : xs.getD i d = x ∧ i < xs.length ∧ xs.drop (i + 1) = r ∧ xs[i]? = some x := by
  have hi : i < xs.length := by
    rcases Nat.lt_or_ge i xs.length with h' | h'
    · exact h'
    · rw [List.drop_eq_nil_of_le h'] at h; cases h
  have h2 := List.drop_eq_getElem_cons hi
  rw [h] at h2
  injection h2 with h3 h4
  exact ⟨by rw [List.getD_eq_getElem?_getD, List.getElem?_eq_getElem hi, Option.getD_some, h3], hi, h4.symm, by rw [List.getElem?_eq_getElem hi, h3]⟩

/-- A loop over a list by an index, with a state: what it answers is a recursion over what is left. -/
theorem ev_scan {L : Nat → S → Int → Option R} {G : S → Nat → List α → R} (I : S → Nat → List α → Prop) (xs : List α)
    (hend : ∀ s, I s xs.length [] → Ev (fun k => L k s xs.length) (G s xs.length []))
    (hstep : ∀ s (i : Nat) x r, I s i (x :: r) → i < xs.length → xs.drop i = x :: r → (∀ d, xs.getD i d = x) →
      (∀ s', I s' (i + 1) r → Ev (fun k => L k s' ((i + 1 : Nat) : Int)) (G s' (i + 1) r)) → Ev (fun k => L k s i) (G s i (x :: r))) :
    ∀ (n i : Nat) s, n = xs.length - i → i ≤ xs.length → I s i (xs.drop i) → Ev (fun k => L k s i) (G s i (xs.drop i)) := by
  intro n
  induction n with
  | zero =>
    intro i s hn hi hI
    obtain rfl : i = xs.length := by omega
    rw [List.drop_length] at hI ⊢
    exact hend s hI
  | succ n ih =>
    intro i s hn hi hI
    have hlt : i < xs.length := by omega
    obtain ⟨x, r, hd⟩ : ∃ x r, xs.drop i = x :: r := ⟨_, _, List.drop_eq_getElem_cons hlt⟩
    have hc := fun d => drop_cons hd d
    rw [hd] at hI ⊢
    refine hstep s i x r hI hlt hd (fun d => (hc d).1) (fun s' hI' => ?_)
    have := ih (i + 1) s' (by omega) (by omega)
    rw [(hc x).2.2.1] at this
    exact this hI'
theorem ev_scan0 {L : Nat → S → Int → Option R} {G : S → Nat → List α → R} (I : S → Nat → List α → Prop) (xs : List α) (s : S) (h0 : I s 0 xs)
    (hend : ∀ s, I s xs.length [] → Ev (fun k => L k s xs.length) (G s xs.length []))
    (hstep : ∀ s (i : Nat) x r, I s i (x :: r) → i < xs.length → xs.drop i = x :: r → (∀ d, xs.getD i d = x) →
      (∀ s', I s' (i + 1) r → Ev (fun k => L k s' ((i + 1 : Nat) : Int)) (G s' (i + 1) r)) → Ev (fun k => L k s i) (G s i (x :: r))) :
    Ev (fun k => L k s 0) (G s 0 xs) := ev_scan I xs hend hstep xs.length 0 s (by omega) (by omega) h0
/-- The same without a state. -/
theorem ev_walk {L : Nat → Int → Option R} {G : Nat → List α → R} (xs : List α)
    (hend : Ev (fun k => L k xs.length) (G xs.length []))
    (hstep : ∀ (i : Nat) x r, i < xs.length → xs.drop i = x :: r → (∀ d, xs.getD i d = x) →
      Ev (fun k => L k ((i + 1 : Nat) : Int)) (G (i + 1) r) → Ev (fun k => L k i) (G i (x :: r))) :
    Ev (fun k => L k 0) (G 0 xs) :=
  ev_scan0 (L := fun k (_ : Unit) i => L k i) (G := fun _ i r => G i r) (fun _ _ _ => True) xs () trivial (fun _ _ => hend) (fun _ i x r _ h1 h2 h3 h4 => hstep i x r h1 h2 h3 (h4 () trivial))

/-- A loop that fills a made list element by element. -/
theorem ev_fill {L : Nat → List β → Int → Option (List β)} (xs : List α) (conv : α → β) (z : β)
    (hend : ∀ out, Ev (fun k => L k out xs.length) out)
    (hstep : ∀ out (i : Nat) x y, i < xs.length → xs[i]? = some x → (∀ d, xs.getD i d = x) → out.length = xs.length → Ev (fun k => L k (out.set i (conv x)) ((i + 1 : Nat) : Int)) y → Ev (fun k => L k out i) y) :
    Ev (fun k => L k (List.replicate xs.length z) 0) (xs.map conv) := by
  have main : ∀ (n i : Nat) (out : List β), n = xs.length - i → i ≤ xs.length → out.length = xs.length → Ev (fun k => L k out i) (out.take i ++ (xs.drop i).map conv) := by
    intro n
    induction n with
    | zero =>
      intro i out hn hi hl
      obtain rfl : i = xs.length := by omega
      rw [List.drop_length, List.map_nil, List.append_nil, List.take_of_length_le (by omega)]
      exact hend out
    | succ n ih =>
      intro i out hn hi hl
      have hlt : i < xs.length := by omega
      have hx : xs[i]? = some xs[i] := List.getElem?_eq_getElem hlt
      have := ih (i + 1) (out.set i (conv xs[i])) (by omega) (by omega) (by rw [List.length_set]; exact hl)
      refine hstep out i xs[i] _ hlt hx (fun d => by rw [List.getD_eq_getElem?_getD, hx, Option.getD_some]) hl (ev_cast this ?_)
      rw [List.drop_eq_getElem_cons hlt, List.map_cons, List.take_succ_eq_append_getElem (by rw [List.length_set]; omega), List.getElem_set_self, List.append_assoc, List.singleton_append, List.take_set_of_le (Nat.le_refl i)]
  have h := main xs.length 0 (List.replicate xs.length z) (by omega) (by omega) (by rw [List.length_replicate])
  simpa using h
/-- A loop that compares two lists element by element: a list with itself. -/
theorem ev_same {L : Nat → Int → Option Bool} (n : Nat) (hend : Ev (fun k => L k n) true)
    (hstep : ∀ i : Nat, i < n → Ev (fun k => L k ((i + 1 : Nat) : Int)) true → Ev (fun k => L k i) true) : Ev (fun k => L k 0) true := by
  have main : ∀ (m i : Nat), m = n - i → i ≤ n → Ev (fun k => L k i) true := by
    intro m
    induction m with
    | zero => intro i h1 h2; obtain rfl : i = n := by omega
              exact hend
    | succ m ih => intro i h1 h2; exact hstep i (by omega) (ih (i + 1) (by omega) (by omega))
  exact main n 0 (by omega) (by omega)

/-- A loop that takes the elements' weights off a number. -/
theorem ev_sz {L : Nat → Int → Int → Option Int} (xs : List α) (f : α → Nat)
    (hend : ∀ left : Int, Ev (fun k => L k left xs.length) left)
    (hstep : ∀ (left : Int) (i : Nat) x y, 0 ≤ left → left ≤ 4611686018427387904 → i < xs.length → x ∈ xs → (∀ d, xs.getD i d = x) →
      ((f x : Int) ≤ left → Ev (fun k => L k (left - (f x : Int)) ((i + 1 : Nat) : Int)) y) → (¬ (f x : Int) ≤ left → y = -1) → Ev (fun k => L k left i) y) :
    ∀ left : Int, 0 ≤ left → left ≤ 4611686018427387904 → Ev (fun k => L k left 0) (if ((xs.map f).sum : Int) ≤ left then left - ((xs.map f).sum : Int) else -1) := by
  have main : ∀ (n i : Nat) (left : Int), n = xs.length - i → i ≤ xs.length → 0 ≤ left → left ≤ 4611686018427387904 →
      Ev (fun k => L k left i) (if ((((xs.drop i).map f).sum : Nat) : Int) ≤ left then left - ((((xs.drop i).map f).sum : Nat) : Int) else -1) := by
    intro n
    induction n with
    | zero =>
      intro i left hn hi h0 h1
      obtain rfl : i = xs.length := by omega
      rw [List.drop_length, List.map_nil, List.sum_nil]
      exact ev_cast (hend left) (by rw [if_pos (by omega)]; omega)
    | succ n ih =>
      intro i left hn hi h0 h1
      have hlt : i < xs.length := by omega
      rw [List.drop_eq_getElem_cons hlt, List.map_cons, List.sum_cons]
      refine hstep left i xs[i] _ h0 h1 hlt (List.getElem_mem hlt) (fun d => by rw [List.getD_eq_getElem?_getD, List.getElem?_eq_getElem hlt, Option.getD_some]) (fun hf => ?_) (fun hf => ?_)
      · refine ev_cast (ih (i + 1) (left - (f xs[i] : Int)) (by omega) (by omega) (by omega) (by omega)) ?_
        by_cases hs : ((((xs.drop (i + 1)).map f).sum : Nat) : Int) ≤ left - (f xs[i] : Int)
        · rw [if_pos hs, if_pos (by omega)]; omega
        · rw [if_neg hs, if_neg (by omega)]
      · rw [if_neg (by omega)]
  intro left h0 h1
  exact main xs.length 0 left (by omega) (by omega) h0 h1
theorem le_sum {l : List α} {f : α → Nat} {x : α} (h : x ∈ l) : f x ≤ (l.map f).sum := by
  induction l with
  | nil => cases h
  | cons y r ih =>
    rw [List.map_cons, List.sum_cons]
    rcases List.mem_cons.1 h with rfl | h
    · omega
    · have := ih h
      omega

/-- Marking: element by element, each with its own count of numbers. -/
def markAll (mk : Int → α → α) (c : α → Nat) : Int → List α → List α
  | _, [] => []
  | q, x :: r => mk q x :: markAll mk c (q + (c x : Int)) r
theorem markAll_length (mk : Int → α → α) (c : α → Nat) : ∀ (l : List α) (q : Int), (markAll mk c q l).length = l.length
  | [], _ => rfl
  | x :: r, q => by simp [markAll, markAll_length mk c r]
theorem ev_mark {L : Nat → List α → Int → Int → Option (Int × List α)} (xs : List α) (mk : Int → α → α) (c : α → Nat)
    (hend : ∀ (out : List α) (q : Int), out.length = xs.length → Ev (fun k => L k out q xs.length) (q, out))
    (hstep : ∀ (out : List α) (q : Int) (i : Nat) x y, i < xs.length → out.length = xs.length → out[i]? = some x → x ∈ xs → (∀ d, out.getD i d = x) → 0 ≤ q → q + (c x : Int) ≤ 4611686018427387904 →
      Ev (fun k => L k (out.set i (mk q x)) (q + (c x : Int)) ((i + 1 : Nat) : Int)) y → Ev (fun k => L k out q i) y)
    (q : Int) (hq : 0 ≤ q) (hb : q + ((xs.map c).sum : Int) ≤ 4611686018427387904) :
    Ev (fun k => L k xs q 0) (q + ((xs.map c).sum : Int), markAll mk c q xs) := by
  have main : ∀ (n i : Nat) (out : List α) (q : Int), n = xs.length - i → i ≤ xs.length → out.length = xs.length → out.drop i = xs.drop i → 0 ≤ q → q + (((xs.drop i).map c).sum : Int) ≤ 4611686018427387904 →
      Ev (fun k => L k out q i) (q + (((xs.drop i).map c).sum : Int), out.take i ++ markAll mk c q (xs.drop i)) := by
    intro n
    induction n with
    | zero =>
      intro i out q hn hi hl hd h0 h1
      obtain rfl : i = xs.length := by omega
      rw [List.drop_length, List.map_nil, List.sum_nil, markAll, List.append_nil, List.take_of_length_le (by omega)]
      exact ev_cast (hend out q hl) (by simp)
    | succ n ih =>
      intro i out q hn hi hl hd h0 h1
      have hlt : i < xs.length := by omega
      have hlo : i < out.length := by omega
      have e1 := List.drop_eq_getElem_cons hlt
      have e2 := List.drop_eq_getElem_cons hlo
      rw [hd, e1] at e2
      injection e2 with e3 e4
      rw [e1, List.map_cons, List.sum_cons] at h1
      have hx : out[i]? = some xs[i] := by rw [List.getElem?_eq_getElem hlo, e3]
      refine hstep out q i xs[i] _ hlt hl hx (List.getElem_mem hlt) (fun d => by rw [List.getD_eq_getElem?_getD, hx, Option.getD_some]) h0 (by omega) ?_
      refine ev_cast (ih (i + 1) (out.set i (mk q xs[i])) (q + (c xs[i] : Int)) (by omega) (by omega) (by rw [List.length_set]; exact hl) ?_ (by omega) (by omega)) ?_
      · rw [List.drop_set_of_lt (by omega)]; exact e4.symm
      · rw [e1, List.map_cons, List.sum_cons, markAll, List.take_succ_eq_append_getElem (by rw [List.length_set]; omega), List.getElem_set_self, List.append_assoc, List.singleton_append, List.take_set_of_le (Nat.le_refl i)]
        congr 1
        omega
  have h := main xs.length 0 xs q (by omega) (by omega) rfl rfl hq hb
  simpa using h
theorem ev_held {H : Nat → Int → Int → Option Int} (xs ys : List α) (mk : Int → α → α) (c : α → Nat) (q0 : Int) (hys : ys = markAll mk c q0 xs)
    (hend : ∀ q : Int, Ev (fun k => H k q xs.length) q)
    (hstep : ∀ (q : Int) (i : Nat) x y, i < xs.length → x ∈ xs → ys[i]? = some (mk q x) → (∀ d, ys.getD i d = mk q x) → 0 ≤ q → q + (c x : Int) ≤ 4611686018427387904 → Ev (fun k => H k (q + (c x : Int)) ((i + 1 : Nat) : Int)) y → Ev (fun k => H k q i) y)
    (hq : 0 ≤ q0) (hb : q0 + ((xs.map c).sum : Int) ≤ 4611686018427387904) : Ev (fun k => H k q0 0) (q0 + ((xs.map c).sum : Int)) := by
  have main : ∀ (n i : Nat) (q : Int), n = xs.length - i → i ≤ xs.length → ys.drop i = markAll mk c q (xs.drop i) → 0 ≤ q → q + (((xs.drop i).map c).sum : Int) ≤ 4611686018427387904 →
      Ev (fun k => H k q i) (q + (((xs.drop i).map c).sum : Int)) := by
    intro n
    induction n with
    | zero =>
      intro i q hn hi hd h0 h1
      obtain rfl : i = xs.length := by omega
      rw [List.drop_length, List.map_nil, List.sum_nil]
      exact ev_cast (hend q) (by simp)
    | succ n ih =>
      intro i q hn hi hd h0 h1
      have hlt : i < xs.length := by omega
      have hly : ys.length = xs.length := by rw [hys, markAll_length]
      have hlo : i < ys.length := by omega
      have e1 := List.drop_eq_getElem_cons hlt
      have e2 := List.drop_eq_getElem_cons hlo
      rw [hd, e1, markAll] at e2
      injection e2 with e3 e4
      rw [e1, List.map_cons, List.sum_cons] at h1 ⊢
      have hx : ys[i]? = some (mk q xs[i]) := by rw [List.getElem?_eq_getElem hlo, e3]
      refine hstep q i xs[i] _ hlt (List.getElem_mem hlt) hx (fun d => by rw [List.getD_eq_getElem?_getD, hx, Option.getD_some]) h0 (by omega) ?_
      refine ev_cast (ih (i + 1) (q + (c xs[i] : Int)) (by omega) (by omega) e4.symm (by omega) (by omega)) ?_
      omega
  have h := main xs.length 0 q0 (by omega) (by omega) (by simpa using hys) hq hb
  simpa using h

/-- The place of the first element with a property, counted from i on; -1 if there is none. -/
def idxG (p : α → Bool) : Nat → List α → Int
  | _, [] => -1
  | i, x :: r => if p x = true then (i : Int) else idxG p (i + 1) r
theorem idxG_spec (p : α → Bool) : ∀ (l : List α) (i : Nat), (idxG p i l = -1 ∧ ∀ x ∈ l, p x = false) ∨
    ∃ j x, j < l.length ∧ idxG p i l = ((i + j : Nat) : Int) ∧ l[j]? = some x ∧ p x = true ∧ l.find? p = some x ∧ ∀ m y, m < j → l[m]? = some y → p y = false
  | [], i => .inl ⟨rfl, by simp⟩
  | x :: r, i => by
    by_cases h : p x = true
    · exact .inr ⟨0, x, by simp, by simp [idxG, h], rfl, h, by simp [h], fun m y hm => by omega⟩
    · rcases idxG_spec p r (i + 1) with ⟨h1, h2⟩ | ⟨j, y, h1, h2, h3, h4, h5, h6⟩
      · refine .inl ⟨by simp [idxG, h, h1], fun z hz => ?_⟩
        rcases List.mem_cons.1 hz with rfl | hz
        · simpa using h
        · exact h2 z hz
      · refine .inr ⟨j + 1, y, by simp only [List.length_cons]; omega, ?_, by simpa using h3, h4, by simp [h, h5], fun m z hm hz => ?_⟩
        · rw [idxG, if_neg h, h2]; congr 1; omega
        · cases m with
          | zero => simp at hz; subst hz; simpa using h
          | succ m => exact h6 m z (by omega) (by simpa using hz)
theorem idxG_lt (p : α → Bool) (l : List α) (i : Nat) : idxG p i l < 0 ↔ l.any p = false := by
  rcases idxG_spec p l i with ⟨h1, h2⟩ | ⟨j, x, h1, h2, h3, h4, h5, h6⟩
  · rw [h1]
    refine ⟨fun _ => ?_, fun _ => by omega⟩
    rw [List.any_eq_false]; intro x hx; simp [h2 x hx]
  · rw [h2]
    refine ⟨fun h => by omega, fun h => ?_⟩
    rw [List.any_eq_false] at h
    exact absurd h4 (h x (List.mem_of_getElem? h3))
theorem idxG_here {p : α → Bool} {l : List α} {k : Nat} {x : α} (hx : l[k]? = some x) (hp : p x = true) (h : ∀ m y, m < k → l[m]? = some y → p y = false) : idxG p 0 l = (k : Int) := by
  rcases idxG_spec p l 0 with ⟨h1, h2⟩ | ⟨j, y, h1, h2, h3, h4, h5, h6⟩
  · exact absurd hp (by rw [h2 x (List.mem_of_getElem? hx)]; simp)
  · rcases Nat.lt_trichotomy j k with hj | hj | hj
    · rw [h j y hj h3] at h4; cases h4
    · subst hj; rw [h2]; simp
    · rw [h6 k x hj hx] at hp; cases hp
theorem idxG_none {p : α → Bool} {l : List α} (h : ∀ m y, m < l.length → l[m]? = some y → p y = false) : idxG p 0 l = -1 := by
  rcases idxG_spec p l 0 with ⟨h1, h2⟩ | ⟨j, y, h1, h2, h3, h4, h5, h6⟩
  · exact h1
  · rw [h j y h1 h3] at h4; cases h4
theorem idxG_nonneg (p : α → Bool) (l : List α) (i : Nat) : decide (0 ≤ idxG p i l) = l.any p := by
  have h := idxG_lt p l i
  by_cases c : l.any p = true
  · rw [c, decide_eq_true_eq]
    have : ¬ idxG p i l < 0 := fun h' => by rw [h.1 h'] at c; cases c
    omega
  · have c' : l.any p = false := by simpa using c
    rw [c', decide_eq_false_iff_not]
    have := h.2 c'
    omega

/-- A loop that asks a test at each place, with a state that is known at each place. -/
theorem ev_all {L : Nat → S → Int → Option R} (n : Nat) (St : Nat → S) (C : Nat → Bool) (F Rn : R) (hend : (∀ j, j < n → C j = true) → Ev (fun k => L k (St n) n) Rn)
    (hs : ∀ i, i < n → (∀ j, j < i → C j = true) → C i = true → ∀ y, Ev (fun k => L k (St (i + 1)) ((i + 1 : Nat) : Int)) y → Ev (fun k => L k (St i) i) y)
    (hf : ∀ i, i < n → (∀ j, j < i → C j = true) → C i = false → Ev (fun k => L k (St i) i) F) : Ev (fun k => L k (St 0) 0) (if (List.range n).all C = true then Rn else F) := by
  have main : ∀ (m i : Nat), m = n - i → i ≤ n → (∀ j, j < i → C j = true) → Ev (fun k => L k (St i) i) (if (List.range n).all C = true then Rn else F) := by
    intro m
    induction m with
    | zero =>
      intro i hm hi hC
      obtain rfl : i = n := by omega
      rw [if_pos (by rw [List.all_eq_true]; intro x hx; exact hC x (List.mem_range.1 hx))]
      exact hend hC
    | succ m ih =>
      intro i hm hi hC
      have hlt : i < n := by omega
      cases hc : C i with
      | true =>
        refine hs i hlt hC hc _ (ih (i + 1) (by omega) (by omega) (fun j hj => ?_))
        by_cases e : j = i
        · rw [e]; exact hc
        · exact hC j (by omega)
      | false =>
        rw [if_neg (by rw [List.all_eq_true]; intro h; rw [h i (List.mem_range.2 hlt)] at hc; cases hc)]
        exact hf i hlt hC hc
  exact main n 0 (by omega) (by omega) (fun j hj => by omega)
theorem ev_all0 {L : Nat → Int → Option R} (n : Nat) (C : Nat → Bool) (F Rn : R) (hend : (∀ j, j < n → C j = true) → Ev (fun k => L k n) Rn)
    (hs : ∀ i, i < n → (∀ j, j < i → C j = true) → C i = true → ∀ y, Ev (fun k => L k ((i + 1 : Nat) : Int)) y → Ev (fun k => L k i) y)
    (hf : ∀ i, i < n → (∀ j, j < i → C j = true) → C i = false → Ev (fun k => L k i) F) : Ev (fun k => L k 0) (if (List.range n).all C = true then Rn else F) :=
  ev_all (L := fun k (_ : Unit) i => L k i) n (fun _ => ()) C F Rn hend hs hf
theorem all_range {n : Nat} {C : Nat → Bool} : (List.range n).all C = true ↔ ∀ i, i < n → C i = true := by
  rw [List.all_eq_true]
  exact ⟨fun h i hi => h i (List.mem_range.2 hi), fun h i hi => h i (List.mem_range.1 hi)⟩
theorem getD_in {α : Type} {l : List α} {i : Nat} (h : i < l.length) (d : α) : l.getD i d = l[i] := by rw [List.getD_eq_getElem?_getD, List.getElem?_eq_getElem h, Option.getD_some]
theorem idxG_take (p : α → Bool) : ∀ (l : List α) (s i : Nat), idxG p s (l.take i) = if (s : Int) ≤ idxG p s l ∧ idxG p s l < ((s + i : Nat) : Int) then idxG p s l else -1
  | [], s, i => by
    rw [List.take_nil]
    by_cases h : (s : Int) ≤ idxG p s ([] : List α) ∧ idxG p s ([] : List α) < ((s + i : Nat) : Int)
    · rw [if_pos h]
    · rw [if_neg h]; rfl
  | x :: r, s, 0 => by
    have h : idxG p s ((x :: r).take 0) = -1 := rfl
    rw [h, if_neg]
    omega
  | x :: r, s, i + 1 => by
    rw [List.take_succ_cons]
    by_cases h : p x = true
    · have e1 : idxG p s (x :: r) = (s : Int) := by simp [idxG, h]
      have e2 : idxG p s (x :: r.take i) = (s : Int) := by simp [idxG, h]
      rw [e1, e2, if_pos (by omega)]
    · have e1 : idxG p s (x :: r) = idxG p (s + 1) r := by simp [idxG, h]
      have e2 : idxG p s (x :: r.take i) = idxG p (s + 1) (r.take i) := by simp [idxG, h]
      rw [e1, e2, idxG_take p r (s + 1) i]
      rcases idxG_spec p r (s + 1) with ⟨h1, _⟩ | ⟨j, y, _, h2, _⟩
      · rw [h1, if_neg (by omega), if_neg (by omega)]
      · rw [h2]
        by_cases c : j < i
        · rw [if_pos (by omega), if_pos (by omega)]
        · rw [if_neg (by omega), if_neg (by omega)]
theorem idxG_range (p : α → Bool) (l : List α) : idxG p 0 l = -1 ∨ (0 ≤ idxG p 0 l ∧ idxG p 0 l < (l.length : Int)) := by
  rcases idxG_spec p l 0 with ⟨h1, _⟩ | ⟨j, y, h0, h2, _⟩
  · exact .inl h1
  · right; rw [h2]; omega
/-- The first one is at i, where the property holds: just where there is none ahead. -/
theorem idxG_first {p : α → Bool} {l : List α} {i : Nat} {x : α} (hx : l[i]? = some x) (hp : p x = true) : idxG p 0 l = (i : Int) ↔ idxG p 0 (l.take i) < 0 := by
  rw [idxG_take]
  have hle : 0 ≤ idxG p 0 l ∧ idxG p 0 l ≤ (i : Int) := by
    rcases idxG_spec p l 0 with ⟨h1, h2⟩ | ⟨j, y, h0, h2, h3, h4, h5, h6⟩
    · rw [h2 x (List.mem_of_getElem? hx)] at hp; cases hp
    · rw [h2]
      rcases Nat.lt_or_ge i j with h | h
      · rw [h6 i x h hx] at hp; cases hp
      · omega
  constructor
  · intro e
    rw [e, if_neg (by omega)]; omega
  · intro h
    by_cases c : ((0 : Nat) : Int) ≤ idxG p 0 l ∧ idxG p 0 l < ((0 + i : Nat) : Int)
    · rw [if_pos c] at h; omega
    · omega
end Go.Proofs.Ytcjloeeomhiblaa.E
namespace Go.Proofs.Ytcjloeeomhiblaa.X
open Go.RowKit Go.Proofs.YtcjloeeomhiblaaW.PrintWords Go.Proofs.YtcjloeeomhiblaaW.PrintLast Go.Proofs.YtcjloeeomhiblaaW.PrintMore Go.Proofs.Ytcjloeeomhiblaa.E
attribute [local go_sem] max2_int min2_int max_two min_two max_three min_three max_four min_four   -- for this text's walks alone
set_option linter.unusedVariables false
set_option linter.unusedSimpArgs false
attribute [-simp] ByteArray.size_append ByteArray.size_extract
attribute [-go_sem] ByteArray.size_append'

/-! ### laws_markFieldS: function 12 -/
/-- Marks, record by record; the inner row of a record is marked by its own function. -/
def laws_markFieldS.l0 : Nat → List S49 → Int → Int → Option (Int × List S49)
 | 0, _, _, _ => none
 | k + 1, x0, x1, x5 => if x5 < (x0.length : Int) then (if 0 ≤ x5 then ((laws_markText.f k (x1)).bind fun t0 => ((laws_markStringS.f k ((rd_T49 x0 x5).f4) (wrap64 ((wrap64 ((wrap64 ((wrap64 (x1 + 1)) + 1)) + 1)) + 1))).bind fun t4 => ((laws_markText.f k (wrap64 (t4.1 + 1))).bind fun t6 => laws_markFieldS.l0 k (x0.set x5.toNat (⟨t0, wrap64 (x1 + 1), wrap64 ((wrap64 (x1 + 1)) + 1), wrap64 ((wrap64 ((wrap64 (x1 + 1)) + 1)) + 1), t4.2, (Int.tmod (t4.1) 3 == 0), t6⟩ : S49)) (wrap64 ((wrap64 (t4.1 + 1)) + 1)) (wrap64 (x5 + 1))))) else none) else some (x1, x0)
def laws_markFieldS.f (k : Nat) (l0 : List S49) (a1 : Int) : Option (Int × List S49) := laws_markFieldS.l0 k l0 a1 0
set_option maxHeartbeats 8000000 in
set_option maxRecDepth 100000 in
theorem laws_markFieldS.calls (k : Nat) (P0_ : Nat → Prop) (u9000_ : Value) (l0 : List (S49)) (a1 : Int) (r1 : Int) (r2 : List (S49)) (w0 w : World) (hB : Below w0.heap.size w0 w) (ho0 : Kd.S k49 49 w w0.heap.size P0_ u9000_ l0) (h : laws_markFieldS.f k l0 a1 = some (r1, r2)) :
  Calls Try.prog 12 #[u9000_, .int .i64 a1] w fun e w' => e = .returned (.int .i64 r1) ∧ Kd.S k49 49 w' w0.heap.size (fun k_ => (P0_ k_ ∨ w.heap.size ≤ k_)) u9000_ r2 ∧ Below w0.heap.size w0 w' ∧ Kept w w' (fun k_ => P0_ k_) := by
 (have HO := Aside0.mk (Kd.S_mono (ok' := (fun k_ => (P0_ k_ ∨ w.heap.size ≤ k_))) ho0 (fun k_ hk => .inl hk))); (have HK := Aside0.mk (Kept.refl w (fun k_ => P0_ k_))); (have HP0 := Aside0.mk ho0); (have HB := Aside0.mk hB); (have H := Aside0.mk h); clear h hB ho0; (obtain ⟨A_, c_, e_⟩ := Kd.R_slice (Kd.S_R HO.out)); subst e_; (have HN := Aside0.mk (rfl : l0.length = l0.length)); (go_enter Try.func12, Try.ntmps12); (go_wp2); (go_loopg [1, 5] k (fun kq v1 v5 w' => ∃ (x0 : List (S49)) (x1 x5 : Int), v1 = .int .i64 x1 ∧ v5 = .int .i64 x5 ∧ Aside0 (laws_markFieldS.l0 kq x0 x1 x5 = some (r1, r2)) ∧ Aside0 (kq ≤ k) ∧ Aside0 (x0.length = l0.length) ∧ Aside0 (Kd.S k49 49 w' w0.heap.size (fun k_ => (P0_ k_ ∨ w.heap.size ≤ k_)) (.slice A_ l0.length c_) x0) ∧ Aside0 (Kept w w' (fun k_ => P0_ k_)) ∧ Aside0 (Below w0.heap.size w0 w')))
 case atStart => exact ⟨l0, a1, 0, rfl, rfl, H, ⟨Nat.le_refl _⟩, ⟨rfl⟩, HO, HK, HB⟩
 case round =>
  obtain ⟨x0, x1, x5, rfl, rfl, HA, HK1, HN1, HO, HK, HB⟩ := hrel
  cases gk with
  | zero => exact absurd HA.out (by simp [laws_markFieldS.l0])
  | succ k1 =>
   (have H := HA.out); clear HA; (simp only [laws_markFieldS.l0] at H); (have hn := HN1.out); (by_cases c3 : x5 < (x0.length : Int))
   ·rw [if_pos c3] at H
    by_cases c5 : 0 ≤ x5
    ·rw [if_pos c5] at H
     (obtain ⟨t0, A0, H⟩ := obS H); (obtain ⟨⟨t4a, t4b⟩, A1, H⟩ := obS H); (obtain ⟨t6, A2, H⟩ := obS H); (have H' := Aside0.mk H); clear H
     have hA : ∃ g, A_ = some ⟨g, 0, none⟩ := by
      (obtain ⟨g, cap, e, _⟩ := Kd.R_form (Kd.S_R HO.out) (by omega)); (injection e with e _ _); (exact ⟨g, e⟩)
     (obtain ⟨g, rfl⟩ := hA); (have HG := Aside0.mk (show P0_ g from HP0.out.elim (fun f hf => hf.1 g (by simp [Value.ownBlock])))); (have HGW := Aside0.mk (Kd.S_base HO.out g (by simp [Value.ownBlock]))); (have hln : (l0.length : Int) = (x0.length : Int) := by omega); (have HI := Aside0.mk (show 0 ≤ x5 ∧ x5 < x0.length ∧ x5 < l0.length from ⟨c5, c3, by omega⟩)); (have HNW := Aside0.mk HK.out.1); (have HX := Aside0.mk (show Kd.S k49 49 wr w0.heap.size (fun k_ => (P0_ k_ ∨ w.heap.size ≤ k_)) (.slice (some ⟨g, 0, none⟩) l0.length c_) (x0.set x5.toNat (rd_T49 x0 x5)) from by unfold rd_T49; rw [set_getD _ _ _ (by omega)]; exact HO.out)); (have p1 : decide (x5 < (l0.length : Int)) = true := decide_eq_true (by omega)); (have p2 : (0 ≤ x5) = True := eq_true c5); (have p3 : (x5 < (l0.length : Int)) = True := eq_true (by omega)); clear c3 c5 hn hln HO
     go_wp2_with (first | ((with_reducible refine gate_callee (f := 30) rfl ?_); refine gL (some 15) Try.func30 #[.int .i64 (x1)] ?_; (with_reducible refine (laws_markText.calls k1 (x1) t0 _ A0.out).mono ?_); rintro e w1_ ⟨rfl, hb⟩; refine ⟨_, rfl, ?_⟩; have n0_ := Aside0.mk (Kd.S_below HX.out hb); have n1_ := Aside0.mk (Kept.below HK.out hb); have n2_ := Aside0.mk (below_then HB.out HB.out.size hb); clear HX HK HB hb; have HX := n0_; have HK := n1_; have HB := n2_; clear n0_ n1_ n2_) | ((with_reducible refine gate_store (t := 9) (p := 17) rfl ?_); have hx := S_at HX.out HI.out.1 HI.out.2.1 (show (k49).sz = 7 from rfl); obtain ⟨okj, cj, _, hMj, hcj, hfj, _⟩ := hx; obtain ⟨v4, ec, _⟩ := k49_openM hMj; subst ec; have hx1 := hcj 0 _ rfl; have hf1 := hfj 0; clear hMj hcj hfj; rw [Nat.add_zero] at hx1 hf1; refine store_event (t := 9) (p := 17) (v := ?vo17) (w1 := w1_.setCell ⟨g, x5.toNat * 7, none⟩ (.string (t0))) ?hg ?ho ?hn ?hr ?_; (case ho => rfl); (case hg => rfl); (case hn => rfl); (case hr => first | (go_simp; done) | (go_simp; rfl)); intro w2_ hw; clear hx1 hf1; have HP := S_fld HX.out HI.out.1 HI.out.2.1 (show (k49).sz = 7 from rfl) 0 (by decide) (⟨t0, (rd_T49 x0 x5).f1, (rd_T49 x0 x5).f2, (rd_T49 x0 x5).f3, (rd_T49 x0 x5).f4, (rd_T49 x0 x5).f5, (rd_T49 x0 x5).f6⟩ : S49) (.string (t0)) (fun oki c hM => by obtain ⟨v4, rfl, hr⟩ := k49_openM hM; exact k49_mkM _ _ _ (⟨t0, (rd_T49 x0 x5).f1, (rd_T49 x0 x5).f2, (rd_T49 x0 x5).f3, (rd_T49 x0 x5).f4, (rd_T49 x0 x5).f5, (rd_T49 x0 x5).f6⟩ : S49) hr); have n0_ := Aside0.mk (show Kd.S k49 49 w2_ w0.heap.size (fun k_ => (P0_ k_ ∨ w.heap.size ≤ k_)) (.slice (some ⟨g, 0, none⟩) l0.length c_) (x0.set x5.toNat (⟨t0, (rd_T49 x0 x5).f1, (rd_T49 x0 x5).f2, (rd_T49 x0 x5).f3, (rd_T49 x0 x5).f4, (rd_T49 x0 x5).f5, (rd_T49 x0 x5).f6⟩ : S49)) from by rw [hw]; exact HP.1); have n1_ := Aside0.mk (show Kept w w2_ (fun k_ => P0_ k_) from by rw [hw]; exact Kept.of_grown HP.2 HK.out (fun k_ hk => by injection hk with hk; subst hk; exact Or.inl HG.out)); have n2_ := Aside0.mk (show Below w0.heap.size w0 w2_ from by rw [hw]; exact below_set HB.out HGW.out); clear HX HK HB hw HP; have HX := n0_; have HK := n1_; have HB := n2_; clear n0_ n1_ n2_) | ((with_reducible refine gate_store (t := 3) (p := 24) rfl ?_); have hx := S_at HX.out HI.out.1 HI.out.2.1 (show (k49).sz = 7 from rfl); obtain ⟨okj, cj, _, hMj, hcj, hfj, _⟩ := hx; obtain ⟨v4, ec, _⟩ := k49_openM hMj; subst ec; have hx1 := hcj 1 _ rfl; have hf1 := hfj 1; clear hMj hcj hfj; refine store_event (t := 3) (p := 24) (v := ?vo24) (w1 := w2_.setCell ⟨g, x5.toNat * 7 + 1, none⟩ (.int .i64 (wrap64 (x1 + 1)))) ?hg ?ho ?hn ?hr ?_; (case ho => rfl); (case hg => rfl); (case hn => rfl); (case hr => first | (go_simp; done) | (go_simp; rfl)); intro w3_ hw; clear hx1 hf1; have HP := S_fld HX.out HI.out.1 HI.out.2.1 (show (k49).sz = 7 from rfl) 1 (by decide) (⟨t0, wrap64 (x1 + 1), (rd_T49 x0 x5).f2, (rd_T49 x0 x5).f3, (rd_T49 x0 x5).f4, (rd_T49 x0 x5).f5, (rd_T49 x0 x5).f6⟩ : S49) (.int .i64 (wrap64 (x1 + 1))) (fun oki c hM => by obtain ⟨v4, rfl, hr⟩ := k49_openM hM; exact k49_mkM _ _ _ (⟨t0, wrap64 (x1 + 1), (rd_T49 x0 x5).f2, (rd_T49 x0 x5).f3, (rd_T49 x0 x5).f4, (rd_T49 x0 x5).f5, (rd_T49 x0 x5).f6⟩ : S49) hr); have n0_ := Aside0.mk (show Kd.S k49 49 w3_ w0.heap.size (fun k_ => (P0_ k_ ∨ w.heap.size ≤ k_)) (.slice (some ⟨g, 0, none⟩) l0.length c_) (x0.set x5.toNat (⟨t0, wrap64 (x1 + 1), (rd_T49 x0 x5).f2, (rd_T49 x0 x5).f3, (rd_T49 x0 x5).f4, (rd_T49 x0 x5).f5, (rd_T49 x0 x5).f6⟩ : S49)) from by rw [hw]; exact HP.1); have n1_ := Aside0.mk (show Kept w w3_ (fun k_ => P0_ k_) from by rw [hw]; exact Kept.of_grown HP.2 HK.out (fun k_ hk => by injection hk with hk; subst hk; exact Or.inl HG.out)); have n2_ := Aside0.mk (show Below w0.heap.size w0 w3_ from by rw [hw]; exact below_set HB.out HGW.out); clear HX HK HB hw HP; have HX := n0_; have HK := n1_; have HB := n2_; clear n0_ n1_ n2_) | ((with_reducible refine gate_store (t := 3) (p := 31) rfl ?_); have hx := S_at HX.out HI.out.1 HI.out.2.1 (show (k49).sz = 7 from rfl); obtain ⟨okj, cj, _, hMj, hcj, hfj, _⟩ := hx; obtain ⟨v4, ec, _⟩ := k49_openM hMj; subst ec; have hx1 := hcj 2 _ rfl; have hf1 := hfj 2; clear hMj hcj hfj; refine store_event (t := 3) (p := 31) (v := ?vo31) (w1 := w3_.setCell ⟨g, x5.toNat * 7 + 2, none⟩ (.int .i64 (wrap64 ((wrap64 (x1 + 1)) + 1)))) ?hg ?ho ?hn ?hr ?_; (case ho => rfl); (case hg => rfl); (case hn => rfl); (case hr => first | (go_simp; done) | (go_simp; rfl)); intro w4_ hw; clear hx1 hf1; have HP := S_fld HX.out HI.out.1 HI.out.2.1 (show (k49).sz = 7 from rfl) 2 (by decide) (⟨t0, wrap64 (x1 + 1), wrap64 ((wrap64 (x1 + 1)) + 1), (rd_T49 x0 x5).f3, (rd_T49 x0 x5).f4, (rd_T49 x0 x5).f5, (rd_T49 x0 x5).f6⟩ : S49) (.int .i64 (wrap64 ((wrap64 (x1 + 1)) + 1))) (fun oki c hM => by obtain ⟨v4, rfl, hr⟩ := k49_openM hM; exact k49_mkM _ _ _ (⟨t0, wrap64 (x1 + 1), wrap64 ((wrap64 (x1 + 1)) + 1), (rd_T49 x0 x5).f3, (rd_T49 x0 x5).f4, (rd_T49 x0 x5).f5, (rd_T49 x0 x5).f6⟩ : S49) hr); have n0_ := Aside0.mk (show Kd.S k49 49 w4_ w0.heap.size (fun k_ => (P0_ k_ ∨ w.heap.size ≤ k_)) (.slice (some ⟨g, 0, none⟩) l0.length c_) (x0.set x5.toNat (⟨t0, wrap64 (x1 + 1), wrap64 ((wrap64 (x1 + 1)) + 1), (rd_T49 x0 x5).f3, (rd_T49 x0 x5).f4, (rd_T49 x0 x5).f5, (rd_T49 x0 x5).f6⟩ : S49)) from by rw [hw]; exact HP.1); have n1_ := Aside0.mk (show Kept w w4_ (fun k_ => P0_ k_) from by rw [hw]; exact Kept.of_grown HP.2 HK.out (fun k_ hk => by injection hk with hk; subst hk; exact Or.inl HG.out)); have n2_ := Aside0.mk (show Below w0.heap.size w0 w4_ from by rw [hw]; exact below_set HB.out HGW.out); clear HX HK HB hw HP; have HX := n0_; have HK := n1_; have HB := n2_; clear n0_ n1_ n2_) | ((with_reducible refine gate_store (t := 3) (p := 38) rfl ?_); have hx := S_at HX.out HI.out.1 HI.out.2.1 (show (k49).sz = 7 from rfl); obtain ⟨okj, cj, _, hMj, hcj, hfj, _⟩ := hx; obtain ⟨v4, ec, _⟩ := k49_openM hMj; subst ec; have hx1 := hcj 3 _ rfl; have hf1 := hfj 3; clear hMj hcj hfj; refine store_event (t := 3) (p := 38) (v := ?vo38) (w1 := w4_.setCell ⟨g, x5.toNat * 7 + 3, none⟩ (.int .i64 (wrap64 ((wrap64 ((wrap64 (x1 + 1)) + 1)) + 1)))) ?hg ?ho ?hn ?hr ?_; (case ho => rfl); (case hg => rfl); (case hn => rfl); (case hr => first | (go_simp; done) | (go_simp; rfl)); intro w5_ hw; clear hx1 hf1; have HP := S_fld HX.out HI.out.1 HI.out.2.1 (show (k49).sz = 7 from rfl) 3 (by decide) (⟨t0, wrap64 (x1 + 1), wrap64 ((wrap64 (x1 + 1)) + 1), wrap64 ((wrap64 ((wrap64 (x1 + 1)) + 1)) + 1), (rd_T49 x0 x5).f4, (rd_T49 x0 x5).f5, (rd_T49 x0 x5).f6⟩ : S49) (.int .i64 (wrap64 ((wrap64 ((wrap64 (x1 + 1)) + 1)) + 1))) (fun oki c hM => by obtain ⟨v4, rfl, hr⟩ := k49_openM hM; exact k49_mkM _ _ _ (⟨t0, wrap64 (x1 + 1), wrap64 ((wrap64 (x1 + 1)) + 1), wrap64 ((wrap64 ((wrap64 (x1 + 1)) + 1)) + 1), (rd_T49 x0 x5).f4, (rd_T49 x0 x5).f5, (rd_T49 x0 x5).f6⟩ : S49) hr); have n0_ := Aside0.mk (show Kd.S k49 49 w5_ w0.heap.size (fun k_ => (P0_ k_ ∨ w.heap.size ≤ k_)) (.slice (some ⟨g, 0, none⟩) l0.length c_) (x0.set x5.toNat (⟨t0, wrap64 (x1 + 1), wrap64 ((wrap64 (x1 + 1)) + 1), wrap64 ((wrap64 ((wrap64 (x1 + 1)) + 1)) + 1), (rd_T49 x0 x5).f4, (rd_T49 x0 x5).f5, (rd_T49 x0 x5).f6⟩ : S49)) from by rw [hw]; exact HP.1); have n1_ := Aside0.mk (show Kept w w5_ (fun k_ => P0_ k_) from by rw [hw]; exact Kept.of_grown HP.2 HK.out (fun k_ hk => by injection hk with hk; subst hk; exact Or.inl HG.out)); have n2_ := Aside0.mk (show Below w0.heap.size w0 w5_ from by rw [hw]; exact below_set HB.out HGW.out); clear HX HK HB hw HP; have HX := n0_; have HK := n1_; have HB := n2_; clear n0_ n1_ n2_) | ((with_reducible refine gate_dst (N := 45) rfl ?_); obtain ⟨oki, ce, hcl, hM, hcc, hoki, hback⟩ := S_in HX.out HI.out.1 HI.out.2.1 (show (k49).sz = 7 from rfl) (fun k_ hk => Or.inr (Nat.le_trans HK.out.1 hk)); obtain ⟨v4, ec, hr4⟩ := k49_openM hM; subst ec; obtain ⟨A4, c4, e4⟩ := Kd.R_slice hr4; subst e4; have hx4 := hcc 4 _ rfl; have HR4 := Aside0.mk hr4; have HBK := Aside0.mk (@hback); have HOK := Aside0.mk hoki; clear hcl hM hcc hback hoki hr4; refine Go.wpList_plain rfl fun K hK => ?_; go_simp; refine hK _ _ ?_) | ((with_reducible refine gate_callee (f := 31) rfl ?_); refine gL (some 47) Try.func31 #[.slice A4 ((rd_T49 x0 x5).f4).length c4, .int .i64 (wrap64 ((wrap64 ((wrap64 ((wrap64 (x1 + 1)) + 1)) + 1)) + 1))] ?_; (with_reducible refine (laws_markStringS.calls k1 oki _ _ (wrap64 ((wrap64 ((wrap64 ((wrap64 (x1 + 1)) + 1)) + 1)) + 1)) t4a t4b w0 _ HB.out HR4.out A1.out).mono ?_); rintro e w6_ ⟨rfl, hr5, hb, hk⟩; refine ⟨_, rfl, ?_⟩; have n0_ := Aside0.mk (HBK.out w6_ (⟨t0, wrap64 (x1 + 1), wrap64 ((wrap64 (x1 + 1)) + 1), wrap64 ((wrap64 ((wrap64 (x1 + 1)) + 1)) + 1), t4b, (rd_T49 x0 x5).f5, (rd_T49 x0 x5).f6⟩ : S49) hk (k49_mkM _ _ _ (⟨t0, wrap64 (x1 + 1), wrap64 ((wrap64 (x1 + 1)) + 1), wrap64 ((wrap64 ((wrap64 (x1 + 1)) + 1)) + 1), t4b, (rd_T49 x0 x5).f5, (rd_T49 x0 x5).f6⟩ : S49) hr5)); have n1_ := Aside0.mk (HK.out.then_ hk (fun k_ h_ => (HOK.out k_ h_).1)); have n2_ := Aside0.mk hb; clear HX HK HB HBK HOK HR4 hb hk hr5 hx4; have HX := n0_; have HK := n1_; have HB := n2_; clear n0_ n1_ n2_) | ((with_reducible refine gate_store (t := 4) (p := 54) rfl ?_); have hx := S_at HX.out HI.out.1 HI.out.2.1 (show (k49).sz = 7 from rfl); obtain ⟨okj, cj, _, hMj, hcj, hfj, _⟩ := hx; obtain ⟨v4, ec, _⟩ := k49_openM hMj; subst ec; have hx1 := hcj 5 _ rfl; have hf1 := hfj 5; clear hMj hcj hfj; refine store_event (t := 4) (p := 54) (v := ?vo54) (w1 := w6_.setCell ⟨g, x5.toNat * 7 + 5, none⟩ (.bool ((Int.tmod (t4a) 3 == 0)))) ?hg ?ho ?hn ?hr ?_; (case ho => rfl); (case hg => rfl); (case hn => rfl); (case hr => first | (go_simp; done) | (go_simp; rfl)); intro w7_ hw; clear hx1 hf1; have HP := S_fld HX.out HI.out.1 HI.out.2.1 (show (k49).sz = 7 from rfl) 5 (by decide) (⟨t0, wrap64 (x1 + 1), wrap64 ((wrap64 (x1 + 1)) + 1), wrap64 ((wrap64 ((wrap64 (x1 + 1)) + 1)) + 1), t4b, (Int.tmod (t4a) 3 == 0), (rd_T49 x0 x5).f6⟩ : S49) (.bool ((Int.tmod (t4a) 3 == 0))) (fun oki c hM => by obtain ⟨v4, rfl, hr⟩ := k49_openM hM; exact k49_mkM _ _ _ (⟨t0, wrap64 (x1 + 1), wrap64 ((wrap64 (x1 + 1)) + 1), wrap64 ((wrap64 ((wrap64 (x1 + 1)) + 1)) + 1), t4b, (Int.tmod (t4a) 3 == 0), (rd_T49 x0 x5).f6⟩ : S49) hr); have n0_ := Aside0.mk (show Kd.S k49 49 w7_ w0.heap.size (fun k_ => (P0_ k_ ∨ w.heap.size ≤ k_)) (.slice (some ⟨g, 0, none⟩) l0.length c_) (x0.set x5.toNat (⟨t0, wrap64 (x1 + 1), wrap64 ((wrap64 (x1 + 1)) + 1), wrap64 ((wrap64 ((wrap64 (x1 + 1)) + 1)) + 1), t4b, (Int.tmod (t4a) 3 == 0), (rd_T49 x0 x5).f6⟩ : S49)) from by rw [hw]; exact HP.1); have n1_ := Aside0.mk (show Kept w w7_ (fun k_ => P0_ k_) from by rw [hw]; exact Kept.of_grown HP.2 HK.out (fun k_ hk => by injection hk with hk; subst hk; exact Or.inl HG.out)); have n2_ := Aside0.mk (show Below w0.heap.size w0 w7_ from by rw [hw]; exact below_set HB.out HGW.out); clear HX HK HB hw HP; have HX := n0_; have HK := n1_; have HB := n2_; clear n0_ n1_ n2_) | ((with_reducible refine gate_callee (f := 30) rfl ?_); refine gL (some 60) Try.func30 #[.int .i64 (wrap64 (t4a + 1))] ?_; (with_reducible refine (laws_markText.calls k1 (wrap64 (t4a + 1)) t6 _ A2.out).mono ?_); rintro e w8_ ⟨rfl, hb⟩; refine ⟨_, rfl, ?_⟩; have n0_ := Aside0.mk (Kd.S_below HX.out hb); have n1_ := Aside0.mk (Kept.below HK.out hb); have n2_ := Aside0.mk (below_then HB.out HB.out.size hb); clear HX HK HB hb; have HX := n0_; have HK := n1_; have HB := n2_; clear n0_ n1_ n2_) | ((with_reducible refine gate_store (t := 9) (p := 62) rfl ?_); have hx := S_at HX.out HI.out.1 HI.out.2.1 (show (k49).sz = 7 from rfl); obtain ⟨okj, cj, _, hMj, hcj, hfj, _⟩ := hx; obtain ⟨v4, ec, _⟩ := k49_openM hMj; subst ec; have hx1 := hcj 6 _ rfl; have hf1 := hfj 6; clear hMj hcj hfj; refine store_event (t := 9) (p := 62) (v := ?vo62) (w1 := w8_.setCell ⟨g, x5.toNat * 7 + 6, none⟩ (.string (t6))) ?hg ?ho ?hn ?hr ?_; (case ho => rfl); (case hg => rfl); (case hn => rfl); (case hr => first | (go_simp; done) | (go_simp; rfl)); intro w9_ hw; clear hx1 hf1; have HP := S_fld HX.out HI.out.1 HI.out.2.1 (show (k49).sz = 7 from rfl) 6 (by decide) (⟨t0, wrap64 (x1 + 1), wrap64 ((wrap64 (x1 + 1)) + 1), wrap64 ((wrap64 ((wrap64 (x1 + 1)) + 1)) + 1), t4b, (Int.tmod (t4a) 3 == 0), t6⟩ : S49) (.string (t6)) (fun oki c hM => by obtain ⟨v4, rfl, hr⟩ := k49_openM hM; exact k49_mkM _ _ _ (⟨t0, wrap64 (x1 + 1), wrap64 ((wrap64 (x1 + 1)) + 1), wrap64 ((wrap64 ((wrap64 (x1 + 1)) + 1)) + 1), t4b, (Int.tmod (t4a) 3 == 0), t6⟩ : S49) hr); have n0_ := Aside0.mk (show Kd.S k49 49 w9_ w0.heap.size (fun k_ => (P0_ k_ ∨ w.heap.size ≤ k_)) (.slice (some ⟨g, 0, none⟩) l0.length c_) (x0.set x5.toNat (⟨t0, wrap64 (x1 + 1), wrap64 ((wrap64 (x1 + 1)) + 1), wrap64 ((wrap64 ((wrap64 (x1 + 1)) + 1)) + 1), t4b, (Int.tmod (t4a) 3 == 0), t6⟩ : S49)) from by rw [hw]; exact HP.1); have n1_ := Aside0.mk (show Kept w w9_ (fun k_ => P0_ k_) from by rw [hw]; exact Kept.of_grown HP.2 HK.out (fun k_ hk => by injection hk with hk; subst hk; exact Or.inl HG.out)); have n2_ := Aside0.mk (show Below w0.heap.size w0 w9_ from by rw [hw]; exact below_set HB.out HGW.out); clear HX HK HB hw HP; have HX := n0_; have HK := n1_; have HB := n2_; clear n0_ n1_ n2_))
     go_roundg k1
     case measure => have := HK1.out; omega
     case rel => exact ⟨_, _, _, rfl, rfl, H', ⟨by have := HK1.out; omega⟩, ⟨by rw [List.length_set]; exact HN1.out⟩, HX, HK, HB⟩
    ·rw [if_neg c5] at H
     exact absurd H (by simp)
   ·rw [if_neg c3] at H
    (simp only [Option.some.injEq, Prod.mk.injEq] at H); (obtain ⟨rfl, rfl⟩ := H); (have p1 : decide (x5 < (l0.length : Int)) = false := decide_eq_false (by omega)); clear c3 hn; (go_wp2); go_ret; (exact ⟨rfl, HO.out, HB.out, HK.out⟩)

end Go.Proofs.Ytcjloeeomhiblaa.X
namespace Go.Proofs.Ytcjloeeomhiblaa.X
open Go.RowKit Go.Proofs.YtcjloeeomhiblaaW.PrintWords Go.Proofs.YtcjloeeomhiblaaW.PrintLast Go.Proofs.YtcjloeeomhiblaaW.PrintMore
attribute [local go_sem] max2_int min2_int max_two min_two max_three min_three max_four min_four   -- for this text's walks alone
set_option linter.unusedVariables false
set_option linter.unusedSimpArgs false
attribute [-simp] ByteArray.size_append ByteArray.size_extract
attribute [-go_sem] ByteArray.size_append'

/-! ### laws_markAnswerS: function 13 -/
def laws_markAnswerS.l0 : Nat → List (S48) → Int → Int → Option (Int × (List (S48)))
 | 0, _, _, _ => none
 | k + 1, x0, x1, x5 => if x5 < (x0.length : Int) then ((laws_markText.f k x1).bind fun t101 => (if 0 ≤ x5 then ((some (x0.set (x5 : Int).toNat (⟨t101, (rd_T48 x0 x5).f1⟩ : S48) : List (S48))).bind fun y102 => ((laws_markText.f k (wrap64 (x1 + 1))).bind fun t103 => (laws_markAnswerS.l0 k (y102.set (x5 : Int).toNat (⟨(rd_T48 y102 x5).f0, t103⟩ : S48)) (wrap64 ((wrap64 (x1 + 1)) + 1)) (wrap64 (x5 + 1))))) else (none))) else (some (x1, x0))
def laws_markAnswerS.f (k : Nat) (l0 : List (S48)) (a1 : Int) : Option (Int × (List (S48))) := laws_markAnswerS.l0 k l0 a1 0
set_option maxHeartbeats 8000000 in
set_option maxRecDepth 100000 in
theorem laws_markAnswerS.calls (k : Nat) (P0_ : Nat → Prop) (u9000_ : Value) (l0 : List (S48)) (a1 : Int) (r1 : Int) (r2 : List (S48)) (w0 w : World) (hB : Below w0.heap.size w0 w) (ho0 : Kd.R k48 48 w w0.heap.size P0_ u9000_ l0) (h : laws_markAnswerS.f k l0 a1 = some (r1, r2)) :
  Calls Try.prog 13 #[u9000_, .int .i64 a1] w fun e w' => e = .returned (.int .i64 r1) ∧ Kd.R k48 48 w' w0.heap.size (fun k_ => (P0_ k_ ∨ w.heap.size ≤ k_)) u9000_ r2 ∧ Below w0.heap.size w0 w' ∧ Kept w w' (fun k_ => P0_ k_) := by
 (have HO0 := Aside0.mk (show Kd.R k48 48 w w0.heap.size (fun k_ => (P0_ k_ ∨ w.heap.size ≤ k_)) u9000_ l0 from Kd.R_mono ho0 (fun k_ hk => (.inl hk)))); (have HK := Aside0.mk (Kept.refl w (fun k_ => P0_ k_))); (have HW0 := Aside0.mk hB.size); (have HB := Aside0.mk hB); clear hB; (unfold laws_markAnswerS.f at h); (have H := h); clear h; (have H' := Aside0.mk H); clear H; (go_enter Try.func13, Try.ntmps13); (go_wp2); (go_loopg [1, 5] k (fun kq v1 v5 w' => ∃ (x0_1 : List (S48)) (x1_1 : Int) (x5_1 : Int), v1 = .int .i64 x1_1 ∧ v5 = .int .i64 x5_1 ∧ Aside0 (laws_markAnswerS.l0 kq x0_1 x1_1 x5_1 = some (r1, r2)) ∧ Aside0 (kq ≤ k) ∧ Aside0 (Kd.R k48 48 w' w0.heap.size (fun k_ => (P0_ k_ ∨ w.heap.size ≤ k_)) u9000_ x0_1) ∧ Aside0 (Kept w w' (fun k_ => P0_ k_)) ∧ Aside0 (Below w0.heap.size w0 w')))
 case atStart => exact ⟨(l0), (a1), (0), (by first | rfl | (simp; done) | (simp [*]; done)), (by first | rfl | (simp; done) | (simp [*]; done)), H', ⟨Nat.le_refl _⟩, ⟨rI HO0⟩, ⟨by repeat (first | (with_reducible first | exact HK.out | apply Kept.alloc | apply Kept.drewN | apply Kept.drew) | exact HK.out)⟩, ⟨eI HB⟩⟩
 case round =>
  (clear H'); (try clear c1); (try clear p2); (obtain ⟨x0_1, x1_1, x5_1, rfl, rfl, HA, HK1, HO_0, HK, HB⟩ := hrel)
  cases gk with
  | zero => exact absurd HA.out (by simp [laws_markAnswerS.l0])
  | succ k1 =>
   (have H := HA.out); clear HA; (simp only [laws_markAnswerS.l0] at H); (by_cases c3 : x5_1 < (x0_1.length : Int))
   ·rw [if_pos c3] at H
    (have c3b0 := decide_eq_true c3); clear c3; (replace H := obS H); (obtain ⟨t101, A4, H⟩ := H); (by_cases c5 : 0 ≤ x5_1)
    ·rw [if_pos c5] at H
     (have c5b0 := decide_eq_true c5); clear c5; (obtain ⟨y102, hy102⟩ : ∃ y_ : List (S48), y_ = (x0_1.set (x5_1 : Int).toNat (⟨t101, (rd_T48 x0_1 x5_1).f1⟩ : S48)) := ⟨_, rfl⟩); (replace H : ((laws_markText.f k1 (wrap64 (x1_1 + 1))).bind fun t103 => (laws_markAnswerS.l0 k1 (y102.set (x5_1 : Int).toNat (⟨(rd_T48 y102 x5_1).f0, t103⟩ : S48)) (wrap64 ((wrap64 (x1_1 + 1)) + 1)) (wrap64 (x5_1 + 1)))) = some (r1, r2) := by first | (rw [hy102]; with_reducible exact H) | (have H2_ := (Option.bind_some _ _).symm.trans H; rw [hy102]; with_reducible exact H2_) | (have H2_ := (Option.bind_some _ _).symm.trans H; with_reducible exact H2_) | with_reducible exact H | (rw [hy102]; exact H) | exact H); (have Ny102 := Aside0.mk hy102); clear hy102; (replace H := obS H); (obtain ⟨t103, A7, H⟩ := H); (obtain ⟨y104, hy104⟩ : ∃ y_ : List (S48), y_ = (y102.set (x5_1 : Int).toNat (⟨(rd_T48 y102 x5_1).f0, t103⟩ : S48)) := ⟨_, rfl⟩); (replace H : (laws_markAnswerS.l0 k1 y104 (wrap64 ((wrap64 (x1_1 + 1)) + 1)) (wrap64 (x5_1 + 1))) = some (r1, r2) := by first | (rw [hy104]; with_reducible exact H) | (have H2_ := (Option.bind_some _ _).symm.trans H; rw [hy104]; with_reducible exact H2_) | (have H2_ := (Option.bind_some _ _).symm.trans H; with_reducible exact H2_) | with_reducible exact H | (rw [hy104]; exact H) | exact H); (have Ny104 := Aside0.mk hy104); clear hy104; (have H' := Aside0.mk H); clear H; (obtain ⟨Ao9, co9, eo9⟩ := Kd.R_slice HO_0.out); subst eo9
     go_wp2_with (first | ((with_reducible refine gate_callee (f := 30) rfl ?_); refine gL (some 15) Try.func30 #[.int .i64 x1_1] ?_; (with_reducible refine (laws_markText.calls k1 x1_1 t101 _ A4.out).mono ?_); rintro e w10 ⟨rfl, hb⟩; refine ⟨_, rfl, ?_⟩; have n0_ := Aside0.mk (rbI hb HO_0); have n1_ := Aside0.mk (Kept.below (S := (fun k_ => P0_ k_)) (by repeat (first | (with_reducible first | exact HK.out | apply Kept.alloc | apply Kept.drewN | apply Kept.drew) | exact HK.out)) hb); have n2_ := Aside0.mk (sI hb HB); clear HO_0 HK HB; have HO_0 := n0_; have HK := n1_; have HB := n2_; clear n0_ n1_ n2_; (try clear hb); (try clear hb2); (try clear hk); (try clear hi); have p6 : 0 ≤ (x5_1 : Int) := odt; have q6 : (x5_1 : Int) < ((x0_1.length : Int) : Int) := odt; obtain ⟨go6, co6, eo6, gb6, gl6, cl6, HG6⟩ := Kd.R_form HO_0.out (by omega); (first | cases eo6 | (injection eo6 with ea_ en_ ec_; (first | subst ea_ | (injection ea_ with ea_; subst ea_)); subst ec_; clear en_)); have GB6 := Aside0.mk gb6; have GG6 := Aside0.mk HG6; clear gb6 gl6 HG6; have HMgo6 := Aside0.mk (show (P0_ go6 ∨ w.heap.size ≤ go6) from (HO_0.out.1 _ rfl)); obtain ⟨ce6, hcl6, hM6, hcc6, hfr6⟩ := Kd.R_elem HO_0.out z48 (x5_1 : Int) p6 q6; obtain rfl := k48_openM hM6; have hx6_0 : w10.cell? ⟨go6, (x5_1 : Int).toNat * 2, none⟩ = some (.string ((rd_T48 x0_1 x5_1).f0)) := hcc6 0 _ rfl; have hx6_1 : w10.cell? ⟨go6, (x5_1 : Int).toNat * 2 + 1, none⟩ = some (.string ((rd_T48 x0_1 x5_1).f1)) := hcc6 1 _ rfl; have hf6_0 : w10.frozen? ⟨go6, (x5_1 : Int).toNat * 2, none⟩ = false := hfr6 0; have hf6_1 : w10.frozen? ⟨go6, (x5_1 : Int).toNat * 2 + 1, none⟩ = false := hfr6 1; clear hcl6 hcc6 hfr6 hM6; replace p6 := eq_true p6; replace q6 := eq_true q6; have HX11 := Aside0.mk (show Kd.R k48 48 w10 w0.heap.size (fun k_ => (P0_ k_ ∨ w.heap.size ≤ k_)) (.slice (some ⟨go6, 0, none⟩) x0_1.length co9) x0_1 from (rI HO_0)); obtain ⟨ce11, hcl11, hM11, hcc11, hfr11⟩ := Kd.R_elem HX11.out z48 (x5_1 : Int) odt (by have h_ : (x5_1 : Int) < ((x0_1.length : Int) : Int) := odt; first | exact h_ | (have e_ := (Kd.R_reads' HO_0.out).1; omega) | simpa using h_); obtain rfl := k48_openM hM11; have HP11 := Kd.R_seg HX11.out (x5_1 : Int) odt (by have h_ : (x5_1 : Int) < ((x0_1.length : Int) : Int) := odt; first | exact h_ | (have e_ := (Kd.R_reads' HO_0.out).1; omega) | simpa using h_) (seg := [.string t101]) (j := 0) hcl11 hcc11 (show 1 ≤ 2 from by decide) (x' := (⟨t101, (rd_T48 x0_1 x5_1).f1⟩ : S48)) (k48_mkM _ _ _ (⟨t101, (rd_T48 x0_1 x5_1).f1⟩ : S48) ) (fun _ hk => hk); have hx11_0 := hcc11 0 _ rfl; (try simp only [show (k48).sz = 2 from rfl, Nat.mul_one, Nat.add_zero] at hx11_0); have hf11_0 := hfr11 0; (try simp only [show (k48).sz = 2 from rfl, Nat.mul_one, Nat.add_zero] at hf11_0); clear hcl11 hcc11 hfr11 hM11) | ((with_reducible refine gate_store (t := 9) (p := 17) rfl ?_); refine store_event (t := 9) (p := 17) (v := ?vo_w12) (w1 := (w10.setCell ⟨go6, (x5_1 : Int).toNat * 2, none⟩ (.string t101))) ?hg ?ho ?hn ?hr ?_; (case ho => rfl); (case hg => rfl); (case hn => rfl); (case hr => first | (go_simp; done) | (go_simp; rfl)); intro w12 hw; have hg : w10.grownBy w12 (some go6) := (by rw [hw]; exact HP11.2); have hp_ : Kd.R k48 48 w12 w0.heap.size (fun k_ => (P0_ k_ ∨ w.heap.size ≤ k_)) (.slice (some ⟨go6, 0, none⟩) x0_1.length co9) y102 := (by rw [hw, Ny102.out]; exact HP11.1); clear HP11; have n0_ := Aside0.mk (hp_); have n1_ := Aside0.mk ((by rw [hw]; exact below_set (HB.out) GB6.out : Below w0.heap.size w0 w12)); have n2_ := Aside0.mk (Kept.of_grown (S := (fun k_ => P0_ k_)) hg (by repeat (first | (with_reducible first | exact HK.out | apply Kept.alloc | apply Kept.drewN | apply Kept.drew) | exact HK.out)) (fun k_ e_ => (HO_0.out.1 k_ e_))); clear HO_0 HB HK; have HO_0 := n0_; have HB := n1_; have HK := n2_; clear n0_ n1_ n2_ hg hw hp_) | ((with_reducible refine gate_callee (f := 30) rfl ?_); refine gL (some 23) Try.func30 #[.int .i64 (wrap64 (x1_1 + 1))] ?_; (with_reducible refine (laws_markText.calls k1 (wrap64 (x1_1 + 1)) t103 _ A7.out).mono ?_); rintro e w13 ⟨rfl, hb⟩; refine ⟨_, rfl, ?_⟩; have n0_ := Aside0.mk (rbI hb HO_0); have n1_ := Aside0.mk (Kept.below (S := (fun k_ => P0_ k_)) (by repeat (first | (with_reducible first | exact HK.out | apply Kept.alloc | apply Kept.drewN | apply Kept.drew) | exact HK.out)) hb); have n2_ := Aside0.mk (sI hb HB); clear HO_0 HK HB; have HO_0 := n0_; have HK := n1_; have HB := n2_; clear n0_ n1_ n2_; (try clear hb); (try clear hb2); (try clear hk); (try clear hi); have p8 : 0 ≤ (x5_1 : Int) := odt; have q8 : (x5_1 : Int) < ((x0_1.length : Int) : Int) := odt; obtain ⟨ce8, hcl8, hM8, hcc8, hfr8⟩ := Kd.R_elem HO_0.out z48 (x5_1 : Int) p8 q8; obtain rfl := k48_openM hM8; have hx8_0 : w13.cell? ⟨go6, (x5_1 : Int).toNat * 2, none⟩ = some (.string ((rd_T48 y102 x5_1).f0)) := hcc8 0 _ rfl; have hx8_1 : w13.cell? ⟨go6, (x5_1 : Int).toNat * 2 + 1, none⟩ = some (.string ((rd_T48 y102 x5_1).f1)) := hcc8 1 _ rfl; have hf8_0 : w13.frozen? ⟨go6, (x5_1 : Int).toNat * 2, none⟩ = false := hfr8 0; have hf8_1 : w13.frozen? ⟨go6, (x5_1 : Int).toNat * 2 + 1, none⟩ = false := hfr8 1; clear hcl8 hcc8 hfr8 hM8; replace p8 := eq_true p8; replace q8 := eq_true q8; have HX14 := Aside0.mk (show Kd.R k48 48 w13 w0.heap.size (fun k_ => (P0_ k_ ∨ w.heap.size ≤ k_)) (.slice (some ⟨go6, 0, none⟩) x0_1.length co9) y102 from (rI HO_0)); obtain ⟨ce14, hcl14, hM14, hcc14, hfr14⟩ := Kd.R_elem HX14.out z48 (x5_1 : Int) odt (by have h_ : (x5_1 : Int) < ((x0_1.length : Int) : Int) := odt; first | exact h_ | (have e_ := (Kd.R_reads' HO_0.out).1; omega) | simpa using h_); obtain rfl := k48_openM hM14; have HP14 := Kd.R_seg HX14.out (x5_1 : Int) odt (by have h_ : (x5_1 : Int) < ((x0_1.length : Int) : Int) := odt; first | exact h_ | (have e_ := (Kd.R_reads' HO_0.out).1; omega) | simpa using h_) (seg := [.string t103]) (j := 1) hcl14 hcc14 (show 2 ≤ 2 from by decide) (x' := (⟨(rd_T48 y102 x5_1).f0, t103⟩ : S48)) (k48_mkM _ _ _ (⟨(rd_T48 y102 x5_1).f0, t103⟩ : S48) ) (fun _ hk => hk); have hx14_1 := hcc14 1 _ rfl; (try simp only [show (k48).sz = 2 from rfl, Nat.mul_one, Nat.add_zero] at hx14_1); have hf14_1 := hfr14 1; (try simp only [show (k48).sz = 2 from rfl, Nat.mul_one, Nat.add_zero] at hf14_1); clear hcl14 hcc14 hfr14 hM14) | ((with_reducible refine gate_store (t := 9) (p := 25) rfl ?_); refine store_event (t := 9) (p := 25) (v := ?vo_w15) (w1 := (w13.setCell ⟨go6, (x5_1 : Int).toNat * 2 + 1, none⟩ (.string t103))) ?hg ?ho ?hn ?hr ?_; (case ho => rfl); (case hg => rfl); (case hn => rfl); (case hr => first | (go_simp; done) | (go_simp; rfl)); intro w15 hw; have hg : w13.grownBy w15 (some go6) := (by rw [hw]; exact HP14.2); have hp_ : Kd.R k48 48 w15 w0.heap.size (fun k_ => (P0_ k_ ∨ w.heap.size ≤ k_)) (.slice (some ⟨go6, 0, none⟩) x0_1.length co9) y104 := (by rw [hw, Ny104.out]; exact HP14.1); clear HP14; have n0_ := Aside0.mk (hp_); have n1_ := Aside0.mk ((by rw [hw]; exact below_set (HB.out) GB6.out : Below w0.heap.size w0 w15)); have n2_ := Aside0.mk (Kept.of_grown (S := (fun k_ => P0_ k_)) hg (by repeat (first | (with_reducible first | exact HK.out | apply Kept.alloc | apply Kept.drewN | apply Kept.drew) | exact HK.out)) (fun k_ e_ => (HO_0.out.1 k_ e_))); clear HO_0 HB HK; have HO_0 := n0_; have HB := n1_; have HK := n2_; clear n0_ n1_ n2_ hg hw hp_))
     go_roundg k1
     case measure => have := HK1.out; omega
     case rel => exact ⟨(y104), (wrap64 ((wrap64 (x1_1 + 1)) + 1)), (wrap64 (x5_1 + 1)), (by first | rfl | (simp; done) | (simp [*]; done)), (by first | rfl | (simp; done) | (simp [*]; done)), H', ⟨by have := HK1.out; omega⟩, ⟨rI HO_0⟩, ⟨by repeat (first | (with_reducible first | exact HK.out | apply Kept.alloc | apply Kept.drewN | apply Kept.drew) | exact HK.out)⟩, ⟨eI HB⟩⟩
    ·rw [if_neg c5] at H
     exact absurd H (by simp)
   ·rw [if_neg c3] at H
    (have c3b0 := decide_eq_false c3); clear c3; (simp only [Option.some.injEq, Prod.mk.injEq] at H); (obtain ⟨rfl, rfl⟩ := H); (obtain ⟨Ao16, co16, eo16⟩ := Kd.R_slice HO_0.out); subst eo16; (go_wp2); go_ret; (exact ⟨rfl, rI HO_0, eI HB, by repeat (first | (with_reducible first | exact HK.out | apply Kept.alloc | apply Kept.drewN | apply Kept.drew) | exact HK.out)⟩)
/-! ### laws_heldAnswerS: function 14 -/
def laws_heldAnswerS.l0 : Nat → List (S48) → Int → Int → Option (Int)
 | 0, _, _, _ => none
 | k + 1, x0, x1, x5 => if x5 < (x0.length : Int) then (if 0 ≤ x5 then ((laws_markText.f k x1).bind fun t102 => (if ((rd_T48 x0 x5).f0).toList = t102.toList then ((laws_markText.f k (wrap64 (x1 + 1))).bind fun t104 => (if ((rd_T48 x0 x5).f1).toList = t104.toList then (laws_heldAnswerS.l0 k x0 (wrap64 ((wrap64 (x1 + 1)) + 1)) (wrap64 (x5 + 1))) else (some (-1)))) else (some (-1)))) else (none)) else (some x1)
def laws_heldAnswerS.f (k : Nat) (l0 : List (S48)) (a1 : Int) : Option (Int) := laws_heldAnswerS.l0 k l0 a1 0
def laws_heldAnswerS.T4 : Bool × List (List Nat × List Nat) := (true, [([], []), ([], []), ([0, 1], [0, 1]), ([2], [2]), ([3], [3]), ([], []), ([5], [5]), ([4, 6], [4, 6])])
def laws_heldAnswerS.B4 : List Nat := [0, 0, 3, 7, 15, 0, 32, 127]
theorem laws_heldAnswerS.tab4 : rtab .any (opsOf Try.f14 4) = laws_heldAnswerS.T4 := by kernel_rfl
theorem laws_heldAnswerS.bits4 : waitsOk laws_heldAnswerS.T4.2 laws_heldAnswerS.B4 = true := by kernel_rfl
def laws_heldAnswerS.T7 : Bool × List (List Nat × List Nat) := (true, [([], []), ([], []), ([0, 1], [0, 1]), ([2], [2]), ([3], [3]), ([], []), ([5], [5]), ([4, 6], [4, 6])])
def laws_heldAnswerS.B7 : List Nat := [0, 0, 3, 7, 15, 0, 32, 127]
theorem laws_heldAnswerS.tab7 : rtab .any (opsOf Try.f14 7) = laws_heldAnswerS.T7 := by kernel_rfl
theorem laws_heldAnswerS.bits7 : waitsOk laws_heldAnswerS.T7.2 laws_heldAnswerS.B7 = true := by kernel_rfl
set_option maxHeartbeats 8000000 in
set_option maxRecDepth 100000 in
theorem laws_heldAnswerS.calls (k : Nat) (A0 : Option Addr) (c0 : Nat) (l0 : List (S48)) (a1 : Int) (r : Int) (w : World) (hr0 : Kd.C k48 w A0 l0.length l0) (hc0 : l0.length ≤ c0) (h : laws_heldAnswerS.f k l0 a1 = some r) :
  Calls Try.prog 14 #[.slice A0 l0.length c0, .int .i64 a1] w fun e w' => e = .returned (.int .i64 r) ∧ Below w.heap.size w w' := by
 (have HR0 := Aside0.mk hr0); (have HC0 := Aside0.mk hc0); clear hr0 hc0; (have HB := Aside0.mk (Below.refl w.heap.size w)); (unfold laws_heldAnswerS.f at h); (have H := h); clear h; (have H' := Aside0.mk H); clear H; (go_enter Try.func14, Try.ntmps14); (go_wp2); (go_loopg [1, 5] k (fun kq v1 v5 w' => ∃ (x1_1 : Int) (x5_1 : Int), v1 = .int .i64 x1_1 ∧ v5 = .int .i64 x5_1 ∧ Aside0 (laws_heldAnswerS.l0 kq l0 x1_1 x5_1 = some r) ∧ Aside0 (kq ≤ k) ∧ Aside0 (Below w.heap.size w w')))
 case atStart => exact ⟨(a1), (0), (by first | rfl | (simp; done) | (simp [*]; done)), (by first | rfl | (simp; done) | (simp [*]; done)), H', ⟨Nat.le_refl _⟩, ⟨eI HB⟩⟩
 case round =>
  (clear H'); (try clear c1); (try clear p2); (obtain ⟨x1_1, x5_1, rfl, rfl, HA, HK1, HB⟩ := hrel)
  cases gk with
  | zero => exact absurd HA.out (by simp [laws_heldAnswerS.l0])
  | succ k1 =>
   (have H := HA.out); clear HA; (simp only [laws_heldAnswerS.l0] at H); (by_cases c3 : x5_1 < (l0.length : Int))
   ·rw [if_pos c3] at H
    (have c3b0 := decide_eq_true c3); clear c3; (by_cases c4 : 0 ≤ x5_1)
    ·rw [if_pos c4] at H
     (have c4b0 := decide_eq_true c4); clear c4; (replace H := obS H); (obtain ⟨t102, A5, H⟩ := H); (by_cases c6 : ((rd_T48 l0 x5_1).f0).toList = t102.toList)
     ·rw [if_pos c6] at H
      (have c6b0 : (((rd_T48 l0 x5_1).f0).toList == t102.toList) = true := beq_iff_eq.mpr c6); (have c6b1 : (((rd_T48 l0 x5_1).f0).toList != t102.toList) = false := bne_eq_false_iff_eq.mpr c6); clear c6; (replace H := obS H); (obtain ⟨t104, A7, H⟩ := H); (by_cases c8 : ((rd_T48 l0 x5_1).f1).toList = t104.toList)
      ·rw [if_pos c8] at H
       (have c8b0 : (((rd_T48 l0 x5_1).f1).toList == t104.toList) = true := beq_iff_eq.mpr c8); (have c8b1 : (((rd_T48 l0 x5_1).f1).toList != t104.toList) = false := bne_eq_false_iff_eq.mpr c8); clear c8; (have H' := Aside0.mk H); clear H; (try go_wp2); (have n0_ := Aside0.mk (below_drew1 HB.out)); clear HB; (have HB := n0_); clear n0_; (have p101 : 0 ≤ (x5_1 : Int) := odt); (have q101 : x5_1 < (l0.length : Int) := odt); (obtain ⟨ad101, e101, hx101_0, hx101_1⟩ := at_T48 HR0.out x5_1 p101 q101); (have hw101_1 := hx101_1); (have hw101_0 := hx101_0); (cases e101); (replace hx101_0 := hcI HB hx101_0); (replace hx101_1 := hcI HB hx101_1); (replace p101 := eq_true p101); (replace q101 := eq_true q101); (refine start_ (n := 8) (S := fun w' => w'.cell? (ad101.add ((x5_1).toNat * 2)) = some (.string ((rd_T48 l0 x5_1).f0)) ∧ w'.cell? ⟨(ad101.add ((x5_1).toNat * 2)).block, (ad101.add ((x5_1).toNat * 2)).off + 1, none⟩ = some (.string ((rd_T48 l0 x5_1).f1))) (ds := []) (cn 8 0) (by kernel_rfl) rfl (by kernel_rfl) ⟨(hcI HB hw101_0), (hcI HB hw101_1)⟩ (fun hHeld => ?_); refine with_tabW laws_heldAnswerS.tab4 laws_heldAnswerS.bits4 (fun HT_ HW_ => ?_)); (generalize wr.drew = w9 at HB hx101_0 hx101_1 hHeld ⊢); (refine pB 0 (cn 8 1) (some 12) HT_ (h := ?_)); (refine pB 1 (cn 8 2) (some 13) HT_ (h := ?_)); (refine pB 2 (cn 8 3) (some 14) HT_ (h := ?_)); (refine pB 3 (cn 8 4) (some 15) HT_ (h := ?_)); (refine pB 5 (cb 8 47) (some 17) HT_ (h := ?_)); (refine tB 4 (cn 8 6) (some 16) HT_ HW_ hHeld (h := ?_)); (refine oN 6 (some 18) (cn 8 7) HT_ (fun K hK => ?_)); (refine gG Try.func30 #[.int .i64 x1_1] ?_); (with_reducible refine (laws_markText.calls k1 x1_1 t102 _ A5.out).mono ?_); (rintro e w10 ⟨rfl, hb⟩); (refine ⟨_, rfl, ?_⟩); (have n0_ := Aside0.mk (sI hb HB)); clear HB; (have HB := n0_); clear n0_; ((try clear hb)); ((try clear hb2)); ((try clear hk)); ((try clear hi)); (refine hK.out _ _ ⟨(hcI HB hw101_0), (hcI HB hw101_1)⟩ (fun hHeld => ?_)); clear hK K; (refine nP (some 18) (h := ?_)); (refine pB 7 (cn 8 8) (some 19) HT_ (h := ?_)); (refine done_ (done_of HT_.out (by kernel_rfl)) ?_); (try go_wp2); (have n0_ := Aside0.mk (below_drew1 HB.out)); clear HB; (have HB := n0_); clear n0_; (have p103 : 0 ≤ (x5_1 : Int) := odt); (have q103 : x5_1 < (l0.length : Int) := odt); (obtain ⟨ad103, e103, hx103_0, hx103_1⟩ := at_T48 HR0.out x5_1 p103 q103); (have hw103_1 := hx103_1); (have hw103_0 := hx103_0); (obtain rfl : ad101 = ad103 := (by injection e103)); (replace hx103_0 := hcI HB hx103_0); (replace hx103_1 := hcI HB hx103_1); (replace p103 := eq_true p103); (replace q103 := eq_true q103)
       (refine start_ (n := 8) (S := fun w' => w'.cell? (ad101.add ((x5_1).toNat * 2)) = some (.string ((rd_T48 l0 x5_1).f0)) ∧ w'.cell? ⟨(ad101.add ((x5_1).toNat * 2)).block, (ad101.add ((x5_1).toNat * 2)).off + 1, none⟩ = some (.string ((rd_T48 l0 x5_1).f1))) (ds := []) (cn 8 0) (by kernel_rfl) rfl (by kernel_rfl) ⟨(hcI HB hw103_0), (hcI HB hw103_1)⟩ (fun hHeld => ?_); refine with_tabW laws_heldAnswerS.tab7 laws_heldAnswerS.bits7 (fun HT_ HW_ => ?_)); (generalize w10.drew = w11 at HB hx103_0 hx103_1 hHeld ⊢); (refine pB 0 (cn 8 1) (some 22) HT_ (h := ?_)); (refine pB 1 (cn 8 2) (some 23) HT_ (h := ?_)); (refine pB 2 (cn 8 3) (some 24) HT_ (h := ?_)); (refine pB 3 (cn 8 4) (some 25) HT_ (h := ?_)); (refine pB 5 (cb 8 47) (some 27) HT_ (h := ?_)); (refine tB 4 (cn 8 6) (some 26) HT_ HW_ hHeld (h := ?_)); (refine oN 6 (some 28) (cn 8 7) HT_ (fun K hK => ?_)); (refine gG Try.func30 #[.int .i64 (wrap64 (x1_1 + 1))] ?_); (with_reducible refine (laws_markText.calls k1 (wrap64 (x1_1 + 1)) t104 _ A7.out).mono ?_); (rintro e w12 ⟨rfl, hb⟩); (refine ⟨_, rfl, ?_⟩); (have n0_ := Aside0.mk (sI hb HB)); clear HB; (have HB := n0_); clear n0_; ((try clear hb)); ((try clear hb2)); ((try clear hk)); ((try clear hi)); (refine hK.out _ _ ⟨(hcI HB hw103_0), (hcI HB hw103_1)⟩ (fun hHeld => ?_)); clear hK K; (refine nP (some 28) (h := ?_)); (refine pB 7 (cn 8 8) (some 29) HT_ (h := ?_)); (refine done_ (done_of HT_.out (by kernel_rfl)) ?_); (try go_wp2); go_roundg k1
       case measure => have := HK1.out; omega
       case rel => exact ⟨(wrap64 ((wrap64 (x1_1 + 1)) + 1)), (wrap64 (x5_1 + 1)), (by first | rfl | (simp; done) | (simp [*]; done)), (by first | rfl | (simp; done) | (simp [*]; done)), H', ⟨by have := HK1.out; omega⟩, ⟨eI HB⟩⟩
      ·rw [if_neg c8] at H
       (have c8b0 : (((rd_T48 l0 x5_1).f1).toList == t104.toList) = false := beq_eq_false_iff_ne.mpr c8); (have c8b1 : (((rd_T48 l0 x5_1).f1).toList != t104.toList) = true := bne_iff_ne.mpr c8); (obtain rfl := Option.some.inj H); (try go_wp2); (have n0_ := Aside0.mk (below_drew1 HB.out)); clear HB; (have HB := n0_); clear n0_; (have p101 : 0 ≤ (x5_1 : Int) := odt); (have q101 : x5_1 < (l0.length : Int) := odt); (obtain ⟨ad101, e101, hx101_0, hx101_1⟩ := at_T48 HR0.out x5_1 p101 q101); (have hw101_1 := hx101_1); (have hw101_0 := hx101_0); (cases e101); (replace hx101_0 := hcI HB hx101_0); (replace hx101_1 := hcI HB hx101_1); (replace p101 := eq_true p101); (replace q101 := eq_true q101); (refine start_ (n := 8) (S := fun w' => w'.cell? (ad101.add ((x5_1).toNat * 2)) = some (.string ((rd_T48 l0 x5_1).f0)) ∧ w'.cell? ⟨(ad101.add ((x5_1).toNat * 2)).block, (ad101.add ((x5_1).toNat * 2)).off + 1, none⟩ = some (.string ((rd_T48 l0 x5_1).f1))) (ds := []) (cn 8 0) (by kernel_rfl) rfl (by kernel_rfl) ⟨(hcI HB hw101_0), (hcI HB hw101_1)⟩ (fun hHeld => ?_); refine with_tabW laws_heldAnswerS.tab4 laws_heldAnswerS.bits4 (fun HT_ HW_ => ?_)); (generalize wr.drew = w13 at HB hx101_0 hx101_1 hHeld ⊢); (refine pB 0 (cn 8 1) (some 12) HT_ (h := ?_)); (refine pB 1 (cn 8 2) (some 13) HT_ (h := ?_)); (refine pB 2 (cn 8 3) (some 14) HT_ (h := ?_)); (refine pB 3 (cn 8 4) (some 15) HT_ (h := ?_)); (refine pB 5 (cb 8 47) (some 17) HT_ (h := ?_)); (refine tB 4 (cn 8 6) (some 16) HT_ HW_ hHeld (h := ?_)); (refine oN 6 (some 18) (cn 8 7) HT_ (fun K hK => ?_)); (refine gG Try.func30 #[.int .i64 x1_1] ?_); (with_reducible refine (laws_markText.calls k1 x1_1 t102 _ A5.out).mono ?_); (rintro e w14 ⟨rfl, hb⟩); (refine ⟨_, rfl, ?_⟩); (have n0_ := Aside0.mk (sI hb HB)); clear HB; (have HB := n0_); clear n0_; ((try clear hb)); ((try clear hb2)); ((try clear hk)); ((try clear hi)); (refine hK.out _ _ ⟨(hcI HB hw101_0), (hcI HB hw101_1)⟩ (fun hHeld => ?_)); clear hK K; (refine nP (some 18) (h := ?_)); (refine pB 7 (cn 8 8) (some 19) HT_ (h := ?_)); (refine done_ (done_of HT_.out (by kernel_rfl)) ?_); (try go_wp2); (have n0_ := Aside0.mk (below_drew1 HB.out)); clear HB; (have HB := n0_); clear n0_; (have p103 : 0 ≤ (x5_1 : Int) := odt); (have q103 : x5_1 < (l0.length : Int) := odt); (obtain ⟨ad103, e103, hx103_0, hx103_1⟩ := at_T48 HR0.out x5_1 p103 q103); (have hw103_1 := hx103_1); (have hw103_0 := hx103_0); (obtain rfl : ad101 = ad103 := (by injection e103)); (replace hx103_0 := hcI HB hx103_0); (replace hx103_1 := hcI HB hx103_1); (replace p103 := eq_true p103); (replace q103 := eq_true q103)
       (refine start_ (n := 8) (S := fun w' => w'.cell? (ad101.add ((x5_1).toNat * 2)) = some (.string ((rd_T48 l0 x5_1).f0)) ∧ w'.cell? ⟨(ad101.add ((x5_1).toNat * 2)).block, (ad101.add ((x5_1).toNat * 2)).off + 1, none⟩ = some (.string ((rd_T48 l0 x5_1).f1))) (ds := []) (cn 8 0) (by kernel_rfl) rfl (by kernel_rfl) ⟨(hcI HB hw103_0), (hcI HB hw103_1)⟩ (fun hHeld => ?_); refine with_tabW laws_heldAnswerS.tab7 laws_heldAnswerS.bits7 (fun HT_ HW_ => ?_)); (generalize w14.drew = w15 at HB hx103_0 hx103_1 hHeld ⊢); (refine pB 0 (cn 8 1) (some 22) HT_ (h := ?_)); (refine pB 1 (cn 8 2) (some 23) HT_ (h := ?_)); (refine pB 2 (cn 8 3) (some 24) HT_ (h := ?_)); (refine pB 3 (cn 8 4) (some 25) HT_ (h := ?_)); (refine pB 5 (cb 8 47) (some 27) HT_ (h := ?_)); (refine tB 4 (cn 8 6) (some 26) HT_ HW_ hHeld (h := ?_)); (refine oN 6 (some 28) (cn 8 7) HT_ (fun K hK => ?_)); (refine gG Try.func30 #[.int .i64 (wrap64 (x1_1 + 1))] ?_); (with_reducible refine (laws_markText.calls k1 (wrap64 (x1_1 + 1)) t104 _ A7.out).mono ?_); (rintro e w16 ⟨rfl, hb⟩); (refine ⟨_, rfl, ?_⟩); (have n0_ := Aside0.mk (sI hb HB)); clear HB; (have HB := n0_); clear n0_; ((try clear hb)); ((try clear hb2)); ((try clear hk)); ((try clear hi)); (refine hK.out _ _ ⟨(hcI HB hw103_0), (hcI HB hw103_1)⟩ (fun hHeld => ?_)); clear hK K; (refine nP (some 28) (h := ?_)); (refine pB 7 (cn 8 8) (some 29) HT_ (h := ?_)); (refine done_ (done_of HT_.out (by kernel_rfl)) ?_); (try go_wp2); go_ret; (exact ⟨rfl, eI HB⟩)
     ·rw [if_neg c6] at H
      (have c6b0 : (((rd_T48 l0 x5_1).f0).toList == t102.toList) = false := beq_eq_false_iff_ne.mpr c6); (have c6b1 : (((rd_T48 l0 x5_1).f0).toList != t102.toList) = true := bne_iff_ne.mpr c6); (obtain rfl := Option.some.inj H); (try go_wp2); (have n0_ := Aside0.mk (below_drew1 HB.out)); clear HB; (have HB := n0_); clear n0_; (have p101 : 0 ≤ (x5_1 : Int) := odt); (have q101 : x5_1 < (l0.length : Int) := odt); (obtain ⟨ad101, e101, hx101_0, hx101_1⟩ := at_T48 HR0.out x5_1 p101 q101); (have hw101_1 := hx101_1); (have hw101_0 := hx101_0); (cases e101); (replace hx101_0 := hcI HB hx101_0); (replace hx101_1 := hcI HB hx101_1); (replace p101 := eq_true p101); (replace q101 := eq_true q101); (refine start_ (n := 8) (S := fun w' => w'.cell? (ad101.add ((x5_1).toNat * 2)) = some (.string ((rd_T48 l0 x5_1).f0)) ∧ w'.cell? ⟨(ad101.add ((x5_1).toNat * 2)).block, (ad101.add ((x5_1).toNat * 2)).off + 1, none⟩ = some (.string ((rd_T48 l0 x5_1).f1))) (ds := []) (cn 8 0) (by kernel_rfl) rfl (by kernel_rfl) ⟨(hcI HB hw101_0), (hcI HB hw101_1)⟩ (fun hHeld => ?_); refine with_tabW laws_heldAnswerS.tab4 laws_heldAnswerS.bits4 (fun HT_ HW_ => ?_)); (generalize wr.drew = w17 at HB hx101_0 hx101_1 hHeld ⊢); (refine pB 0 (cn 8 1) (some 12) HT_ (h := ?_)); (refine pB 1 (cn 8 2) (some 13) HT_ (h := ?_)); (refine pB 2 (cn 8 3) (some 14) HT_ (h := ?_)); (refine pB 3 (cn 8 4) (some 15) HT_ (h := ?_)); (refine pB 5 (cb 8 47) (some 17) HT_ (h := ?_)); (refine tB 4 (cn 8 6) (some 16) HT_ HW_ hHeld (h := ?_)); (refine oN 6 (some 18) (cn 8 7) HT_ (fun K hK => ?_)); (refine gG Try.func30 #[.int .i64 x1_1] ?_); (with_reducible refine (laws_markText.calls k1 x1_1 t102 _ A5.out).mono ?_); (rintro e w18 ⟨rfl, hb⟩); (refine ⟨_, rfl, ?_⟩); (have n0_ := Aside0.mk (sI hb HB)); clear HB; (have HB := n0_); clear n0_; ((try clear hb)); ((try clear hb2)); ((try clear hk)); ((try clear hi)); (refine hK.out _ _ ⟨(hcI HB hw101_0), (hcI HB hw101_1)⟩ (fun hHeld => ?_)); clear hK K; (refine nP (some 18) (h := ?_)); (refine pB 7 (cn 8 8) (some 19) HT_ (h := ?_)); (refine done_ (done_of HT_.out (by kernel_rfl)) ?_); (try go_wp2); go_ret; (exact ⟨rfl, eI HB⟩)
    ·rw [if_neg c4] at H
     exact absurd H (by simp)
   ·rw [if_neg c3] at H
    (have c3b0 := decide_eq_false c3); clear c3; (obtain rfl := Option.some.inj H); (go_wp2); go_ret; (exact ⟨rfl, eI HB⟩)
/-! ### laws_szStringS: function 32 -/
def laws_szStringS.l0 : Nat → List ByteArray → Int → Int → Option (Int)
 | 0, _, _, _ => none
 | k + 1, x0, x1, x5 => if x5 < (x0.length : Int) then (if 0 ≤ x5 then (if (wrap64 (x1 - ((rdOf ByteArray.empty x0 x5).size : Int))) < 0 then (some (-1)) else (laws_szStringS.l0 k x0 (wrap64 (x1 - ((rdOf ByteArray.empty x0 x5).size : Int))) (wrap64 (x5 + 1)))) else (none)) else (some x1)
def laws_szStringS.f (k : Nat) (l0 : List ByteArray) (a1 : Int) : Option (Int) := if (wrap64 (a1 - (l0.length : Int))) < 0 then (some (-1)) else (laws_szStringS.l0 k l0 (wrap64 (a1 - (l0.length : Int))) 0)
set_option maxHeartbeats 8000000 in
set_option maxRecDepth 100000 in
theorem laws_szStringS.calls (k : Nat) (A0 : Option Addr) (c0 : Nat) (l0 : List ByteArray) (a1 : Int) (r : Int) (w : World) (hr0 : Kd.C Kd.string w A0 l0.length l0) (hc0 : l0.length ≤ c0) (h : laws_szStringS.f k l0 a1 = some r) :
  Calls Try.prog 32 #[.slice A0 l0.length c0, .int .i64 a1] w fun e w' => e = .returned (.int .i64 r) ∧ Drawn0 w w' := by
 (have HR0 := Aside0.mk hr0); (have HC0 := Aside0.mk hc0); clear hr0 hc0; (unfold laws_szStringS.f at h); (have H := h); clear h; (by_cases c3 : (wrap64 (a1 - (l0.length : Int))) < 0); (· (rw [if_pos c3] at H); (have c3b0 := decide_eq_true c3); clear c3; (obtain rfl := Option.some.inj H); (go_enter Try.func32, Try.ntmps32); (go_wp2); go_ret; (exact ⟨by first | rfl | (simp; done) | (simp [*]; done), by repeat (first | exact Drawn0.refl _ | apply Drawn0.step)⟩))
 ·rw [if_neg c3] at H
  (have c3b0 := decide_eq_false c3); clear c3; (have H' := Aside0.mk H); clear H; (go_enter Try.func32, Try.ntmps32); (go_wp2); (go_loopg [1, 5] k (fun kq v1 v5 w' => ∃ (x1_1 : Int) (x5_1 : Int), v1 = .int .i64 x1_1 ∧ v5 = .int .i64 x5_1 ∧ Aside0 (laws_szStringS.l0 kq l0 x1_1 x5_1 = some r) ∧ Aside0 (kq ≤ k) ∧ Drawn0 w w'))
  case atStart => exact ⟨(wrap64 (a1 - (l0.length : Int))), (0), (by first | rfl | (simp; done) | (simp [*]; done)), (by first | rfl | (simp; done) | (simp [*]; done)), H', ⟨Nat.le_refl _⟩, by repeat (first | exact Drawn0.refl _ | apply Drawn0.step)⟩
  case round =>
   (clear H'); (try clear p2); (try clear c3); (try clear c3b0); (obtain ⟨x1_1, x5_1, rfl, rfl, HA, HK1, ⟨m1, rfl⟩⟩ := hrel)
   cases gk with
   | zero => exact absurd HA.out (by simp [laws_szStringS.l0])
   | succ k1 =>
    (have H := HA.out); clear HA; (simp only [laws_szStringS.l0] at H); (by_cases c4 : x5_1 < (l0.length : Int))
    ·rw [if_pos c4] at H
     (have c4b0 := decide_eq_true c4); clear c4; (by_cases c5 : 0 ≤ x5_1)
     ·rw [if_pos c5] at H
      (have c5b0 := decide_eq_true c5); clear c5; (by_cases c6 : (wrap64 (x1_1 - ((rdOf ByteArray.empty l0 x5_1).size : Int))) < 0)
      ·rw [if_pos c6] at H
       (have c6b0 := decide_eq_true c6); clear c6; (obtain rfl := Option.some.inj H); (have p101 : 0 ≤ (x5_1 : Int) := odt); (have q101 : x5_1 < (l0.length : Int) := odt); (obtain ⟨ad101, e101, hx101_0⟩ := Kd.at_string HR0.out x5_1 p101 q101); (cases e101); (replace p101 := eq_true p101); (replace q101 := eq_true q101); (go_wp2); go_ret; (exact ⟨by first | rfl | (simp; done) | (simp [*]; done), by repeat (first | exact Drawn0.refl _ | apply Drawn0.step)⟩)
      ·rw [if_neg c6] at H
       (have c6b0 := decide_eq_false c6); clear c6; (have H' := Aside0.mk H); clear H; (have p101 : 0 ≤ (x5_1 : Int) := odt); (have q101 : x5_1 < (l0.length : Int) := odt); (obtain ⟨ad101, e101, hx101_0⟩ := Kd.at_string HR0.out x5_1 p101 q101); (cases e101); (replace p101 := eq_true p101); (replace q101 := eq_true q101); (go_wp2); go_roundg k1
       case measure => have := HK1.out; omega
       case rel => exact ⟨(wrap64 (x1_1 - ((rdOf ByteArray.empty l0 x5_1).size : Int))), (wrap64 (x5_1 + 1)), (by first | rfl | (simp; done) | (simp [*]; done)), (by first | rfl | (simp; done) | (simp [*]; done)), H', ⟨by have := HK1.out; omega⟩, by repeat (first | exact Drawn0.refl _ | apply Drawn0.step)⟩
     ·rw [if_neg c5] at H
      exact absurd H (by simp)
    ·rw [if_neg c4] at H
     (have c4b0 := decide_eq_false c4); clear c4; (obtain rfl := Option.some.inj H); (go_wp2); go_ret; (exact ⟨by first | rfl | (simp; done) | (simp [*]; done), by repeat (first | exact Drawn0.refl _ | apply Drawn0.step)⟩)
/-! ### laws_szField: function 15 -/
def laws_szField.f (k : Nat) (a0_0 : ByteArray) (a0_1 : Int) (a0_2 : Int) (a0_3 : Int) (l0_4 : List ByteArray) (a0_5 : Bool) (a0_6 : ByteArray) (a1 : Int) : Option (Int) := if (wrap64 (a1 - (a0_0.size : Int))) < 0 then (some (-1)) else ((laws_szStringS.f k l0_4 (wrap64 (a1 - (a0_0.size : Int)))).bind fun t102 => (if t102 < 0 then (some (-1)) else (if (wrap64 (t102 - (a0_6.size : Int))) < 0 then (some (-1)) else (some (wrap64 (t102 - (a0_6.size : Int)))))))
set_option maxHeartbeats 8000000 in
set_option maxRecDepth 100000 in
theorem laws_szField.calls (k : Nat) (a0_0 : ByteArray) (a0_1 : Int) (a0_2 : Int) (a0_3 : Int) (A0_4 : Option Addr) (c0_4 : Nat) (l0_4 : List ByteArray) (a0_5 : Bool) (a0_6 : ByteArray) (a1 : Int) (r : Int) (w : World) (hr0_4 : Kd.C Kd.string w A0_4 l0_4.length l0_4) (hc0_4 : l0_4.length ≤ c0_4) (h : laws_szField.f k a0_0 a0_1 a0_2 a0_3 l0_4 a0_5 a0_6 a1 = some r) :
  Calls Try.prog 15 #[.agg #[.string a0_0, .int .i64 a0_1, .int .i64 a0_2, .int .i64 a0_3, .slice A0_4 l0_4.length c0_4, .bool a0_5, .string a0_6], .int .i64 a1] w fun e w' => e = .returned (.int .i64 r) ∧ Below w.heap.size w w' := by
 (have hu40 := Try.underlying40); (have HR0_4 := Aside0.mk hr0_4); (have HC0_4 := Aside0.mk hc0_4); clear hr0_4 hc0_4; (have HB := Aside0.mk (Below.refl w.heap.size w)); (unfold laws_szField.f at h); (have H := h); clear h; (by_cases c3 : (wrap64 (a1 - (a0_0.size : Int))) < 0); (· (rw [if_pos c3] at H); (have c3b0 := decide_eq_true c3); clear c3; (obtain rfl := Option.some.inj H); (go_enter Try.func15, Try.ntmps15); (go_wp2_with (first | ((with_reducible refine gate_dst (N := 2) rfl ?_); refine box_event ?hg (N := 2) ?hd (cs := #[.string a0_0, .int .i64 a0_1, .int .i64 a0_2, .int .i64 a0_3, .slice A0_4 l0_4.length c0_4, .bool a0_5, .string a0_6]) (t := 40) ?hr ?_; (case hd => rfl); (case hg => rfl); (case hr => first | (go_simp; done) | (go_simp; rfl)); intro gb101 hg w4 hbox hb; have hB_ := zI hb HB; have n0_ := Aside0.mk (below_step hB_ hb); have n1_ := Aside0.mk (hbox); have n2_ := Aside0.mk (bx0 hg hB_); have n3_ := n2_; clear HB; have HB := n0_; have BK101 := n1_; have GW101 := n2_; have GE101 := n3_; clear n0_ n1_ n2_ n3_ hB_ hb hbox hg; have hcz5_0 := cz BK101.out 0; have hcz5_1 := cz BK101.out 1; have hcz5_2 := cz BK101.out 2; have hcz5_3 := cz BK101.out 3; have hcz5_4 := cz BK101.out 4; have hcz5_5 := cz BK101.out 5; have hcz5_6 := cz BK101.out 6; have hfz5_0 := blk_frozen BK101.out 0; have hfz5_1 := blk_frozen BK101.out 1; have hfz5_2 := blk_frozen BK101.out 2; have hfz5_3 := blk_frozen BK101.out 3; have hfz5_4 := blk_frozen BK101.out 4; have hfz5_5 := blk_frozen BK101.out 5; have hfz5_6 := blk_frozen BK101.out 6))); go_ret; (exact ⟨rfl, eI HB⟩))
 ·rw [if_neg c3] at H
  (have c3b0 := decide_eq_false c3); clear c3; (replace H := obS H); (obtain ⟨t102, A6, H⟩ := H); (by_cases c7 : t102 < 0); (· (rw [if_pos c7] at H); (have c7b0 := decide_eq_true c7); clear c7; (obtain rfl := Option.some.inj H); (go_enter Try.func15, Try.ntmps15); (go_wp2_with (first | ((with_reducible refine gate_dst (N := 2) rfl ?_); refine box_event ?hg (N := 2) ?hd (cs := #[.string a0_0, .int .i64 a0_1, .int .i64 a0_2, .int .i64 a0_3, .slice A0_4 l0_4.length c0_4, .bool a0_5, .string a0_6]) (t := 40) ?hr ?_; (case hd => rfl); (case hg => rfl); (case hr => first | (go_simp; done) | (go_simp; rfl)); intro gb101 hg w8 hbox hb; have hB_ := zI hb HB; have n0_ := Aside0.mk (below_step hB_ hb); have n1_ := Aside0.mk (hbox); have n2_ := Aside0.mk (bx0 hg hB_); have n3_ := n2_; clear HB; have HB := n0_; have BK101 := n1_; have GW101 := n2_; have GE101 := n3_; clear n0_ n1_ n2_ n3_ hB_ hb hbox hg; have hcz9_0 := cz BK101.out 0; have hcz9_1 := cz BK101.out 1; have hcz9_2 := cz BK101.out 2; have hcz9_3 := cz BK101.out 3; have hcz9_4 := cz BK101.out 4; have hcz9_5 := cz BK101.out 5; have hcz9_6 := cz BK101.out 6; have hfz9_0 := blk_frozen BK101.out 0; have hfz9_1 := blk_frozen BK101.out 1; have hfz9_2 := blk_frozen BK101.out 2; have hfz9_3 := blk_frozen BK101.out 3; have hfz9_4 := blk_frozen BK101.out 4; have hfz9_5 := blk_frozen BK101.out 5; have hfz9_6 := blk_frozen BK101.out 6) | ((with_reducible refine gate_callee (f := 32) rfl ?_); refine gL (some 15) Try.func32 #[.slice A0_4 l0_4.length c0_4, .int .i64 (wrap64 (a1 - (a0_0.size : Int)))] ?_; (with_reducible refine (laws_szStringS.calls k _ _ l0_4 (wrap64 (a1 - (a0_0.size : Int))) t102 _ ?side1 ?side2 A6.out).mono ?_); (case side1 => exact Kd.C_below HR0_4.out (eI HB)); (case side2 => exact HC0_4.out); rintro e w' ⟨rfl, ⟨nd, rfl⟩⟩; refine ⟨_, rfl, ?_⟩))); go_ret; (exact ⟨rfl, eI HB⟩))
  ·rw [if_neg c7] at H
   (have c7b0 := decide_eq_false c7); clear c7; (by_cases c10 : (wrap64 (t102 - (a0_6.size : Int))) < 0); (· (rw [if_pos c10] at H); (have c10b0 := decide_eq_true c10); clear c10; (obtain rfl := Option.some.inj H); (go_enter Try.func15, Try.ntmps15); (go_wp2_with (first | ((with_reducible refine gate_dst (N := 2) rfl ?_); refine box_event ?hg (N := 2) ?hd (cs := #[.string a0_0, .int .i64 a0_1, .int .i64 a0_2, .int .i64 a0_3, .slice A0_4 l0_4.length c0_4, .bool a0_5, .string a0_6]) (t := 40) ?hr ?_; (case hd => rfl); (case hg => rfl); (case hr => first | (go_simp; done) | (go_simp; rfl)); intro gb101 hg w11 hbox hb; have hB_ := zI hb HB; have n0_ := Aside0.mk (below_step hB_ hb); have n1_ := Aside0.mk (hbox); have n2_ := Aside0.mk (bx0 hg hB_); have n3_ := n2_; clear HB; have HB := n0_; have BK101 := n1_; have GW101 := n2_; have GE101 := n3_; clear n0_ n1_ n2_ n3_ hB_ hb hbox hg; have hcz12_0 := cz BK101.out 0; have hcz12_1 := cz BK101.out 1; have hcz12_2 := cz BK101.out 2; have hcz12_3 := cz BK101.out 3; have hcz12_4 := cz BK101.out 4; have hcz12_5 := cz BK101.out 5; have hcz12_6 := cz BK101.out 6; have hfz12_0 := blk_frozen BK101.out 0; have hfz12_1 := blk_frozen BK101.out 1; have hfz12_2 := blk_frozen BK101.out 2; have hfz12_3 := blk_frozen BK101.out 3; have hfz12_4 := blk_frozen BK101.out 4; have hfz12_5 := blk_frozen BK101.out 5; have hfz12_6 := blk_frozen BK101.out 6) | ((with_reducible refine gate_callee (f := 32) rfl ?_); refine gL (some 15) Try.func32 #[.slice A0_4 l0_4.length c0_4, .int .i64 (wrap64 (a1 - (a0_0.size : Int)))] ?_; (with_reducible refine (laws_szStringS.calls k _ _ l0_4 (wrap64 (a1 - (a0_0.size : Int))) t102 _ ?side1 ?side2 A6.out).mono ?_); (case side1 => exact Kd.C_below HR0_4.out (eI HB)); (case side2 => exact HC0_4.out); rintro e w' ⟨rfl, ⟨nd, rfl⟩⟩; refine ⟨_, rfl, ?_⟩))); go_ret; (exact ⟨rfl, eI HB⟩)); (· (rw [if_neg c10] at H); (have c10b0 := decide_eq_false c10); clear c10; (obtain rfl := Option.some.inj H); (go_enter Try.func15, Try.ntmps15); (go_wp2_with (first | ((with_reducible refine gate_dst (N := 2) rfl ?_); refine box_event ?hg (N := 2) ?hd (cs := #[.string a0_0, .int .i64 a0_1, .int .i64 a0_2, .int .i64 a0_3, .slice A0_4 l0_4.length c0_4, .bool a0_5, .string a0_6]) (t := 40) ?hr ?_; (case hd => rfl); (case hg => rfl); (case hr => first | (go_simp; done) | (go_simp; rfl)); intro gb101 hg w13 hbox hb; have hB_ := zI hb HB; have n0_ := Aside0.mk (below_step hB_ hb); have n1_ := Aside0.mk (hbox); have n2_ := Aside0.mk (bx0 hg hB_); have n3_ := n2_; clear HB; have HB := n0_; have BK101 := n1_; have GW101 := n2_; have GE101 := n3_; clear n0_ n1_ n2_ n3_ hB_ hb hbox hg; have hcz14_0 := cz BK101.out 0; have hcz14_1 := cz BK101.out 1; have hcz14_2 := cz BK101.out 2; have hcz14_3 := cz BK101.out 3; have hcz14_4 := cz BK101.out 4; have hcz14_5 := cz BK101.out 5; have hcz14_6 := cz BK101.out 6; have hfz14_0 := blk_frozen BK101.out 0; have hfz14_1 := blk_frozen BK101.out 1; have hfz14_2 := blk_frozen BK101.out 2; have hfz14_3 := blk_frozen BK101.out 3; have hfz14_4 := blk_frozen BK101.out 4; have hfz14_5 := blk_frozen BK101.out 5; have hfz14_6 := blk_frozen BK101.out 6) | ((with_reducible refine gate_callee (f := 32) rfl ?_); refine gL (some 15) Try.func32 #[.slice A0_4 l0_4.length c0_4, .int .i64 (wrap64 (a1 - (a0_0.size : Int)))] ?_; (with_reducible refine (laws_szStringS.calls k _ _ l0_4 (wrap64 (a1 - (a0_0.size : Int))) t102 _ ?side1 ?side2 A6.out).mono ?_); (case side1 => exact Kd.C_below HR0_4.out (eI HB)); (case side2 => exact HC0_4.out); rintro e w' ⟨rfl, ⟨nd, rfl⟩⟩; refine ⟨_, rfl, ?_⟩))); go_ret; (exact ⟨rfl, eI HB⟩))
/-! ### laws_szFieldS: function 4 -/
def laws_szFieldS.l0 : Nat → List (S40) → Int → Int → Option (Int)
 | 0, _, _, _ => none
 | k + 1, x0, x1, x5 => if x5 < (x0.length : Int) then (if 0 ≤ x5 then ((laws_szField.f k ((rd_T40 x0 x5).f0) ((rd_T40 x0 x5).f1) ((rd_T40 x0 x5).f2) ((rd_T40 x0 x5).f3) ((rd_T40 x0 x5).f4) ((rd_T40 x0 x5).f5) ((rd_T40 x0 x5).f6) x1).bind fun t102 => (if t102 < 0 then (some (-1)) else (laws_szFieldS.l0 k x0 t102 (wrap64 (x5 + 1))))) else (none)) else (some x1)
def laws_szFieldS.f (k : Nat) (l0 : List (S40)) (a1 : Int) : Option (Int) := if (wrap64 (a1 - (l0.length : Int))) < 0 then (some (-1)) else (laws_szFieldS.l0 k l0 (wrap64 (a1 - (l0.length : Int))) 0)
set_option maxHeartbeats 8000000 in
set_option maxRecDepth 100000 in
theorem laws_szFieldS.calls (k : Nat) (A0 : Option Addr) (c0 : Nat) (l0 : List (S40)) (a1 : Int) (r : Int) (w : World) (hr0 : Kd.C k40 w A0 l0.length l0) (hc0 : l0.length ≤ c0) (h : laws_szFieldS.f k l0 a1 = some r) :
  Calls Try.prog 4 #[.slice A0 l0.length c0, .int .i64 a1] w fun e w' => e = .returned (.int .i64 r) ∧ Below w.heap.size w w' := by
 (have hu40 := Try.underlying40); (have HR0 := Aside0.mk hr0); (have HC0 := Aside0.mk hc0); clear hr0 hc0; (have HB := Aside0.mk (Below.refl w.heap.size w)); (unfold laws_szFieldS.f at h); (have H := h); clear h; (by_cases c3 : (wrap64 (a1 - (l0.length : Int))) < 0); (· (rw [if_pos c3] at H); (have c3b0 := decide_eq_true c3); clear c3; (obtain rfl := Option.some.inj H); (go_enter Try.func4, Try.ntmps4); (go_wp2); go_ret; (exact ⟨rfl, eI HB⟩))
 ·rw [if_neg c3] at H
  (have c3b0 := decide_eq_false c3); clear c3; (have H' := Aside0.mk H); clear H; (go_enter Try.func4, Try.ntmps4); (go_wp2); (go_loopg [1, 5] k (fun kq v1 v5 w' => ∃ (x1_1 : Int) (x5_1 : Int), v1 = .int .i64 x1_1 ∧ v5 = .int .i64 x5_1 ∧ Aside0 (laws_szFieldS.l0 kq l0 x1_1 x5_1 = some r) ∧ Aside0 (kq ≤ k) ∧ Aside0 (Below w.heap.size w w')))
  case atStart => exact ⟨(wrap64 (a1 - (l0.length : Int))), (0), (by first | rfl | (simp; done) | (simp [*]; done)), (by first | rfl | (simp; done) | (simp [*]; done)), H', ⟨Nat.le_refl _⟩, ⟨eI HB⟩⟩
  case round =>
   (clear H'); (try clear p2); (try clear c3); (try clear c3b0); (obtain ⟨x1_1, x5_1, rfl, rfl, HA, HK1, HB⟩ := hrel)
   cases gk with
   | zero => exact absurd HA.out (by simp [laws_szFieldS.l0])
   | succ k1 =>
    (have H := HA.out); clear HA; (simp only [laws_szFieldS.l0] at H); (by_cases c4 : x5_1 < (l0.length : Int))
    ·rw [if_pos c4] at H
     (have c4b0 := decide_eq_true c4); clear c4; (by_cases c5 : 0 ≤ x5_1)
     ·rw [if_pos c5] at H
      (have c5b0 := decide_eq_true c5); clear c5; (replace H := obS H); (obtain ⟨t102, A6, H⟩ := H); (by_cases c7 : t102 < 0)
      ·rw [if_pos c7] at H
       (have c7b0 := decide_eq_true c7); clear c7; (obtain rfl := Option.some.inj H); (have p101 : 0 ≤ (x5_1 : Int) := odt); (have q101 : x5_1 < (l0.length : Int) := odt); (obtain ⟨ad101, A101_4, c101_4, e101, hx101_0, hx101_1, hx101_2, hx101_3, hx101_4, hx101_5, hx101_6, hl101_4, hi101_4⟩ := at_T40 HR0.out x5_1 p101 q101); (cases e101); (replace hx101_0 := hcI HB hx101_0); (replace hx101_1 := hcI HB hx101_1); (replace hx101_2 := hcI HB hx101_2); (replace hx101_3 := hcI HB hx101_3); (replace hx101_4 := hcI HB hx101_4); (replace hx101_5 := hcI HB hx101_5); (replace hx101_6 := hcI HB hx101_6); (have HR101_4 := Aside0.mk hi101_4); (have HC101_4 := Aside0.mk hl101_4); clear hi101_4 hl101_4; (replace p101 := eq_true p101); (replace q101 := eq_true q101); (go_wp2_with (first | ((with_reducible refine gate_callee (f := 15) rfl ?_); refine gL (some 23) Try.func15 #[.agg #[.string ((rd_T40 l0 x5_1).f0), .int .i64 ((rd_T40 l0 x5_1).f1), .int .i64 ((rd_T40 l0 x5_1).f2), .int .i64 ((rd_T40 l0 x5_1).f3), .slice A101_4 ((rd_T40 l0 x5_1).f4).length c101_4, .bool ((rd_T40 l0 x5_1).f5), .string ((rd_T40 l0 x5_1).f6)], .int .i64 x1_1] ?_; (with_reducible refine (laws_szField.calls k1 ((rd_T40 l0 x5_1).f0) ((rd_T40 l0 x5_1).f1) ((rd_T40 l0 x5_1).f2) ((rd_T40 l0 x5_1).f3) _ _ ((rd_T40 l0 x5_1).f4) ((rd_T40 l0 x5_1).f5) ((rd_T40 l0 x5_1).f6) x1_1 t102 _ ?side1 ?side2 A6.out).mono ?_); (case side1 => exact Kd.C_below HR101_4.out (eI HB)); (case side2 => exact HC101_4.out); rintro e w8 ⟨rfl, hb⟩; refine ⟨_, rfl, ?_⟩; have n0_ := Aside0.mk (sI hb HB); clear HB; have HB := n0_; clear n0_; (try clear hb); (try clear hb2); (try clear hk); (try clear hi)))); go_ret; (exact ⟨rfl, eI HB⟩)
      ·rw [if_neg c7] at H
       (have c7b0 := decide_eq_false c7); clear c7; (have H' := Aside0.mk H); clear H; (have p101 : 0 ≤ (x5_1 : Int) := odt); (have q101 : x5_1 < (l0.length : Int) := odt); (obtain ⟨ad101, A101_4, c101_4, e101, hx101_0, hx101_1, hx101_2, hx101_3, hx101_4, hx101_5, hx101_6, hl101_4, hi101_4⟩ := at_T40 HR0.out x5_1 p101 q101); (cases e101); (replace hx101_0 := hcI HB hx101_0); (replace hx101_1 := hcI HB hx101_1); (replace hx101_2 := hcI HB hx101_2); (replace hx101_3 := hcI HB hx101_3); (replace hx101_4 := hcI HB hx101_4); (replace hx101_5 := hcI HB hx101_5); (replace hx101_6 := hcI HB hx101_6); (have HR101_4 := Aside0.mk hi101_4); (have HC101_4 := Aside0.mk hl101_4); clear hi101_4 hl101_4; (replace p101 := eq_true p101); (replace q101 := eq_true q101); (go_wp2_with (first | ((with_reducible refine gate_callee (f := 15) rfl ?_); refine gL (some 23) Try.func15 #[.agg #[.string ((rd_T40 l0 x5_1).f0), .int .i64 ((rd_T40 l0 x5_1).f1), .int .i64 ((rd_T40 l0 x5_1).f2), .int .i64 ((rd_T40 l0 x5_1).f3), .slice A101_4 ((rd_T40 l0 x5_1).f4).length c101_4, .bool ((rd_T40 l0 x5_1).f5), .string ((rd_T40 l0 x5_1).f6)], .int .i64 x1_1] ?_; (with_reducible refine (laws_szField.calls k1 ((rd_T40 l0 x5_1).f0) ((rd_T40 l0 x5_1).f1) ((rd_T40 l0 x5_1).f2) ((rd_T40 l0 x5_1).f3) _ _ ((rd_T40 l0 x5_1).f4) ((rd_T40 l0 x5_1).f5) ((rd_T40 l0 x5_1).f6) x1_1 t102 _ ?side1 ?side2 A6.out).mono ?_); (case side1 => exact Kd.C_below HR101_4.out (eI HB)); (case side2 => exact HC101_4.out); rintro e w9 ⟨rfl, hb⟩; refine ⟨_, rfl, ?_⟩; have n0_ := Aside0.mk (sI hb HB); clear HB; have HB := n0_; clear n0_; (try clear hb); (try clear hb2); (try clear hk); (try clear hi)))); go_roundg k1
       case measure => have := HK1.out; omega
       case rel => exact ⟨(t102), (wrap64 (x5_1 + 1)), (by first | rfl | (simp; done) | (simp [*]; done)), (by first | rfl | (simp; done) | (simp [*]; done)), H', ⟨by have := HK1.out; omega⟩, ⟨eI HB⟩⟩
     ·rw [if_neg c5] at H
      exact absurd H (by simp)
    ·rw [if_neg c4] at H
     (have c4b0 := decide_eq_false c4); clear c4; (obtain rfl := Option.some.inj H); (go_wp2); go_ret; (exact ⟨rfl, eI HB⟩)
/-! ### laws_szAnswer: function 16 -/
def laws_szAnswer.f (a0_0 : ByteArray) (a0_1 : ByteArray) (a1 : Int) : Option (Int) := if (wrap64 (a1 - (a0_0.size : Int))) < 0 then (some (-1)) else (if (wrap64 ((wrap64 (a1 - (a0_0.size : Int))) - (a0_1.size : Int))) < 0 then (some (-1)) else (some (wrap64 ((wrap64 (a1 - (a0_0.size : Int))) - (a0_1.size : Int)))))
set_option maxHeartbeats 8000000 in
set_option maxRecDepth 100000 in
theorem laws_szAnswer.calls (a0_0 : ByteArray) (a0_1 : ByteArray) (a1 : Int) (r : Int) (w : World) (h : laws_szAnswer.f a0_0 a0_1 a1 = some r) :
  Calls Try.prog 16 #[.agg #[.string a0_0, .string a0_1], .int .i64 a1] w fun e w' => e = .returned (.int .i64 r) ∧ Below w.heap.size w w' := by
 (have hu43 := Try.underlying43); (have HB := Aside0.mk (Below.refl w.heap.size w)); (unfold laws_szAnswer.f at h); (have H := h); clear h; (by_cases c3 : (wrap64 (a1 - (a0_0.size : Int))) < 0); (· (rw [if_pos c3] at H); (have c3b0 := decide_eq_true c3); clear c3; (obtain rfl := Option.some.inj H); (go_enter Try.func16, Try.ntmps16); (go_wp2_with (first | ((with_reducible refine gate_dst (N := 2) rfl ?_); refine box_event ?hg (N := 2) ?hd (cs := #[.string a0_0, .string a0_1]) (t := 43) ?hr ?_; (case hd => rfl); (case hg => rfl); (case hr => first | (go_simp; done) | (go_simp; rfl)); intro gb101 hg w4 hbox hb; have hB_ := zI hb HB; have n0_ := Aside0.mk (below_step hB_ hb); have n1_ := Aside0.mk (hbox); have n2_ := Aside0.mk (bx0 hg hB_); have n3_ := n2_; clear HB; have HB := n0_; have BK101 := n1_; have GW101 := n2_; have GE101 := n3_; clear n0_ n1_ n2_ n3_ hB_ hb hbox hg; have hcz5_0 := cz BK101.out 0; have hcz5_1 := cz BK101.out 1; have hfz5_0 := blk_frozen BK101.out 0; have hfz5_1 := blk_frozen BK101.out 1))); go_ret; (exact ⟨rfl, eI HB⟩))
 ·rw [if_neg c3] at H
  (have c3b0 := decide_eq_false c3); clear c3; (by_cases c6 : (wrap64 ((wrap64 (a1 - (a0_0.size : Int))) - (a0_1.size : Int))) < 0); (· (rw [if_pos c6] at H); (have c6b0 := decide_eq_true c6); clear c6; (obtain rfl := Option.some.inj H); (go_enter Try.func16, Try.ntmps16); (go_wp2_with (first | ((with_reducible refine gate_dst (N := 2) rfl ?_); refine box_event ?hg (N := 2) ?hd (cs := #[.string a0_0, .string a0_1]) (t := 43) ?hr ?_; (case hd => rfl); (case hg => rfl); (case hr => first | (go_simp; done) | (go_simp; rfl)); intro gb101 hg w7 hbox hb; have hB_ := zI hb HB; have n0_ := Aside0.mk (below_step hB_ hb); have n1_ := Aside0.mk (hbox); have n2_ := Aside0.mk (bx0 hg hB_); have n3_ := n2_; clear HB; have HB := n0_; have BK101 := n1_; have GW101 := n2_; have GE101 := n3_; clear n0_ n1_ n2_ n3_ hB_ hb hbox hg; have hcz8_0 := cz BK101.out 0; have hcz8_1 := cz BK101.out 1; have hfz8_0 := blk_frozen BK101.out 0; have hfz8_1 := blk_frozen BK101.out 1))); go_ret; (exact ⟨rfl, eI HB⟩)); (· (rw [if_neg c6] at H); (have c6b0 := decide_eq_false c6); clear c6; (obtain rfl := Option.some.inj H); (go_enter Try.func16, Try.ntmps16); (go_wp2_with (first | ((with_reducible refine gate_dst (N := 2) rfl ?_); refine box_event ?hg (N := 2) ?hd (cs := #[.string a0_0, .string a0_1]) (t := 43) ?hr ?_; (case hd => rfl); (case hg => rfl); (case hr => first | (go_simp; done) | (go_simp; rfl)); intro gb101 hg w9 hbox hb; have hB_ := zI hb HB; have n0_ := Aside0.mk (below_step hB_ hb); have n1_ := Aside0.mk (hbox); have n2_ := Aside0.mk (bx0 hg hB_); have n3_ := n2_; clear HB; have HB := n0_; have BK101 := n1_; have GW101 := n2_; have GE101 := n3_; clear n0_ n1_ n2_ n3_ hB_ hb hbox hg; have hcz10_0 := cz BK101.out 0; have hcz10_1 := cz BK101.out 1; have hfz10_0 := blk_frozen BK101.out 0; have hfz10_1 := blk_frozen BK101.out 1))); go_ret; (exact ⟨rfl, eI HB⟩))
/-! ### laws_szAnswerS: function 5 -/
def laws_szAnswerS.l0 : Nat → List (S43) → Int → Int → Option (Int)
 | 0, _, _, _ => none
 | k + 1, x0, x1, x5 => if x5 < (x0.length : Int) then (if 0 ≤ x5 then ((laws_szAnswer.f ((rd_T43 x0 x5).f0) ((rd_T43 x0 x5).f1) x1).bind fun t102 => (if t102 < 0 then (some (-1)) else (laws_szAnswerS.l0 k x0 t102 (wrap64 (x5 + 1))))) else (none)) else (some x1)
def laws_szAnswerS.f (k : Nat) (l0 : List (S43)) (a1 : Int) : Option (Int) := if (wrap64 (a1 - (l0.length : Int))) < 0 then (some (-1)) else (laws_szAnswerS.l0 k l0 (wrap64 (a1 - (l0.length : Int))) 0)
set_option maxHeartbeats 8000000 in
set_option maxRecDepth 100000 in
theorem laws_szAnswerS.calls (k : Nat) (A0 : Option Addr) (c0 : Nat) (l0 : List (S43)) (a1 : Int) (r : Int) (w : World) (hr0 : Kd.C k43 w A0 l0.length l0) (hc0 : l0.length ≤ c0) (h : laws_szAnswerS.f k l0 a1 = some r) :
  Calls Try.prog 5 #[.slice A0 l0.length c0, .int .i64 a1] w fun e w' => e = .returned (.int .i64 r) ∧ Below w.heap.size w w' := by
 (have hu43 := Try.underlying43); (have HR0 := Aside0.mk hr0); (have HC0 := Aside0.mk hc0); clear hr0 hc0; (have HB := Aside0.mk (Below.refl w.heap.size w)); (unfold laws_szAnswerS.f at h); (have H := h); clear h; (by_cases c3 : (wrap64 (a1 - (l0.length : Int))) < 0); (· (rw [if_pos c3] at H); (have c3b0 := decide_eq_true c3); clear c3; (obtain rfl := Option.some.inj H); (go_enter Try.func5, Try.ntmps5); (go_wp2); go_ret; (exact ⟨rfl, eI HB⟩))
 ·rw [if_neg c3] at H
  (have c3b0 := decide_eq_false c3); clear c3; (have H' := Aside0.mk H); clear H; (go_enter Try.func5, Try.ntmps5); (go_wp2); (go_loopg [1, 5] k (fun kq v1 v5 w' => ∃ (x1_1 : Int) (x5_1 : Int), v1 = .int .i64 x1_1 ∧ v5 = .int .i64 x5_1 ∧ Aside0 (laws_szAnswerS.l0 kq l0 x1_1 x5_1 = some r) ∧ Aside0 (kq ≤ k) ∧ Aside0 (Below w.heap.size w w')))
  case atStart => exact ⟨(wrap64 (a1 - (l0.length : Int))), (0), (by first | rfl | (simp; done) | (simp [*]; done)), (by first | rfl | (simp; done) | (simp [*]; done)), H', ⟨Nat.le_refl _⟩, ⟨eI HB⟩⟩
  case round =>
   (clear H'); (try clear p2); (try clear c3); (try clear c3b0); (obtain ⟨x1_1, x5_1, rfl, rfl, HA, HK1, HB⟩ := hrel)
   cases gk with
   | zero => exact absurd HA.out (by simp [laws_szAnswerS.l0])
   | succ k1 =>
    (have H := HA.out); clear HA; (simp only [laws_szAnswerS.l0] at H); (by_cases c4 : x5_1 < (l0.length : Int))
    ·rw [if_pos c4] at H
     (have c4b0 := decide_eq_true c4); clear c4; (by_cases c5 : 0 ≤ x5_1)
     ·rw [if_pos c5] at H
      (have c5b0 := decide_eq_true c5); clear c5; (replace H := obS H); (obtain ⟨t102, A6, H⟩ := H); (by_cases c7 : t102 < 0)
      ·rw [if_pos c7] at H
       (have c7b0 := decide_eq_true c7); clear c7; (obtain rfl := Option.some.inj H); (have p101 : 0 ≤ (x5_1 : Int) := odt); (have q101 : x5_1 < (l0.length : Int) := odt); (obtain ⟨ad101, e101, hx101_0, hx101_1⟩ := at_T43 HR0.out x5_1 p101 q101); (cases e101); (replace hx101_0 := hcI HB hx101_0); (replace hx101_1 := hcI HB hx101_1); (replace p101 := eq_true p101); (replace q101 := eq_true q101); (go_wp2_with (first | ((with_reducible refine gate_callee (f := 16) rfl ?_); refine gL (some 23) Try.func16 #[.agg #[.string ((rd_T43 l0 x5_1).f0), .string ((rd_T43 l0 x5_1).f1)], .int .i64 x1_1] ?_; (with_reducible refine (laws_szAnswer.calls ((rd_T43 l0 x5_1).f0) ((rd_T43 l0 x5_1).f1) x1_1 t102 _ A6.out).mono ?_); rintro e w8 ⟨rfl, hb⟩; refine ⟨_, rfl, ?_⟩; have n0_ := Aside0.mk (sI hb HB); clear HB; have HB := n0_; clear n0_; (try clear hb); (try clear hb2); (try clear hk); (try clear hi)))); go_ret; (exact ⟨rfl, eI HB⟩)
      ·rw [if_neg c7] at H
       (have c7b0 := decide_eq_false c7); clear c7; (have H' := Aside0.mk H); clear H; (have p101 : 0 ≤ (x5_1 : Int) := odt); (have q101 : x5_1 < (l0.length : Int) := odt); (obtain ⟨ad101, e101, hx101_0, hx101_1⟩ := at_T43 HR0.out x5_1 p101 q101); (cases e101); (replace hx101_0 := hcI HB hx101_0); (replace hx101_1 := hcI HB hx101_1); (replace p101 := eq_true p101); (replace q101 := eq_true q101); (go_wp2_with (first | ((with_reducible refine gate_callee (f := 16) rfl ?_); refine gL (some 23) Try.func16 #[.agg #[.string ((rd_T43 l0 x5_1).f0), .string ((rd_T43 l0 x5_1).f1)], .int .i64 x1_1] ?_; (with_reducible refine (laws_szAnswer.calls ((rd_T43 l0 x5_1).f0) ((rd_T43 l0 x5_1).f1) x1_1 t102 _ A6.out).mono ?_); rintro e w9 ⟨rfl, hb⟩; refine ⟨_, rfl, ?_⟩; have n0_ := Aside0.mk (sI hb HB); clear HB; have HB := n0_; clear n0_; (try clear hb); (try clear hb2); (try clear hk); (try clear hi)))); go_roundg k1
       case measure => have := HK1.out; omega
       case rel => exact ⟨(t102), (wrap64 (x5_1 + 1)), (by first | rfl | (simp; done) | (simp [*]; done)), (by first | rfl | (simp; done) | (simp [*]; done)), H', ⟨by have := HK1.out; omega⟩, ⟨eI HB⟩⟩
     ·rw [if_neg c5] at H
      exact absurd H (by simp)
    ·rw [if_neg c4] at H
     (have c4b0 := decide_eq_false c4); clear c4; (obtain rfl := Option.some.inj H); (go_wp2); go_ret; (exact ⟨rfl, eI HB⟩)
/-! ### spec_l23Find: function 19 -/
def spec_l23Find.l0 : Nat → List (S49) → ByteArray → Int → Option (Int)
 | 0, _, _, _ => none
 | k + 1, x0, x1, x5 => if x5 < (x0.length : Int) then (if 0 ≤ x5 then (if ((rd_T49 x0 x5).f0).toList = x1.toList then (some x5) else (spec_l23Find.l0 k x0 x1 (wrap64 (x5 + 1)))) else (none)) else (some (-1))
def spec_l23Find.f (k : Nat) (l0 : List (S49)) (a1 : ByteArray) : Option (Int) := spec_l23Find.l0 k l0 a1 0
set_option maxHeartbeats 8000000 in
set_option maxRecDepth 100000 in
theorem spec_l23Find.calls (k : Nat) (A0 : Option Addr) (c0 : Nat) (l0 : List (S49)) (a1 : ByteArray) (r : Int) (w : World) (hr0 : Kd.C k49 w A0 l0.length l0) (hc0 : l0.length ≤ c0) (h : spec_l23Find.f k l0 a1 = some r) :
  Calls Try.prog 19 #[.slice A0 l0.length c0, .string a1] w fun e w' => e = .returned (.int .i64 r) ∧ Drawn0 w w' := by
 (have HR0 := Aside0.mk hr0); (have HC0 := Aside0.mk hc0); clear hr0 hc0; (unfold spec_l23Find.f at h); (have H := h); clear h; (have H' := Aside0.mk H); clear H; (go_enter Try.func19, Try.ntmps19); (go_wp2); (go_loopg [5] k (fun kq v5 w' => ∃ (x5_1 : Int), v5 = .int .i64 x5_1 ∧ Aside0 (spec_l23Find.l0 kq l0 a1 x5_1 = some r) ∧ Aside0 (kq ≤ k) ∧ Drawn0 w w'))
 case atStart => exact ⟨(0), (by first | rfl | (simp; done) | (simp [*]; done)), H', ⟨Nat.le_refl _⟩, by repeat (first | exact Drawn0.refl _ | apply Drawn0.step)⟩
 case round =>
  (clear H'); (try clear c1); (try clear p2); (obtain ⟨x5_1, rfl, HA, HK1, ⟨m1, rfl⟩⟩ := hrel)
  cases gk with
  | zero => exact absurd HA.out (by simp [spec_l23Find.l0])
  | succ k1 =>
   (have H := HA.out); clear HA; (simp only [spec_l23Find.l0] at H); (by_cases c3 : x5_1 < (l0.length : Int))
   ·rw [if_pos c3] at H
    (have c3b0 := decide_eq_true c3); clear c3; (by_cases c4 : 0 ≤ x5_1)
    ·rw [if_pos c4] at H
     (have c4b0 := decide_eq_true c4); clear c4; (by_cases c5 : ((rd_T49 l0 x5_1).f0).toList = a1.toList)
     ·rw [if_pos c5] at H
      (have c5b0 : (((rd_T49 l0 x5_1).f0).toList == a1.toList) = true := beq_iff_eq.mpr c5); (have c5b1 : (((rd_T49 l0 x5_1).f0).toList != a1.toList) = false := bne_eq_false_iff_eq.mpr c5); clear c5; (obtain rfl := Option.some.inj H); (have p101 : 0 ≤ (x5_1 : Int) := odt); (have q101 : x5_1 < (l0.length : Int) := odt); (obtain ⟨ad101, A101_4, c101_4, e101, hx101_0, hx101_1, hx101_2, hx101_3, hx101_4, hx101_5, hx101_6, hl101_4, hi101_4⟩ := at_T49 HR0.out x5_1 p101 q101); (cases e101); (have HR101_4 := Aside0.mk hi101_4); (have HC101_4 := Aside0.mk hl101_4); clear hi101_4 hl101_4; (replace p101 := eq_true p101); (replace q101 := eq_true q101); (go_wp2); go_ret; (exact ⟨by first | rfl | (simp; done) | (simp [*]; done), by repeat (first | exact Drawn0.refl _ | apply Drawn0.step)⟩)
     ·rw [if_neg c5] at H
      (have c5b0 : (((rd_T49 l0 x5_1).f0).toList == a1.toList) = false := beq_eq_false_iff_ne.mpr c5); (have c5b1 : (((rd_T49 l0 x5_1).f0).toList != a1.toList) = true := bne_iff_ne.mpr c5); (have H' := Aside0.mk H); clear H; (have p101 : 0 ≤ (x5_1 : Int) := odt); (have q101 : x5_1 < (l0.length : Int) := odt); (obtain ⟨ad101, A101_4, c101_4, e101, hx101_0, hx101_1, hx101_2, hx101_3, hx101_4, hx101_5, hx101_6, hl101_4, hi101_4⟩ := at_T49 HR0.out x5_1 p101 q101); (cases e101); (have HR101_4 := Aside0.mk hi101_4); (have HC101_4 := Aside0.mk hl101_4); clear hi101_4 hl101_4; (replace p101 := eq_true p101); (replace q101 := eq_true q101); (go_wp2); go_roundg k1
      case measure => have := HK1.out; omega
      case rel => exact ⟨(wrap64 (x5_1 + 1)), (by first | rfl | (simp; done) | (simp [*]; done)), H', ⟨by have := HK1.out; omega⟩, by repeat (first | exact Drawn0.refl _ | apply Drawn0.step)⟩
    ·rw [if_neg c4] at H
     exact absurd H (by simp)
   ·rw [if_neg c3] at H
    (have c3b0 := decide_eq_false c3); clear c3; (obtain rfl := Option.some.inj H); (go_wp2); go_ret; (exact ⟨by first | rfl | (simp; done) | (simp [*]; done), by repeat (first | exact Drawn0.refl _ | apply Drawn0.step)⟩)
/-! ### spec_l1In: function 48 -/
def spec_l1In.f (a0 : Int) (a1 : Int) (a2 : Int) : Option (Bool) := if a0 ≥ a1 then (some (decide (a0 ≤ a2))) else (some false)
set_option maxHeartbeats 8000000 in
set_option maxRecDepth 100000 in
theorem spec_l1In.calls (a0 : Int) (a1 : Int) (a2 : Int) (r : Bool) (w : World) (h : spec_l1In.f a0 a1 a2 = some r) :
  Calls Try.prog 48 #[.int .i64 a0, .int .i64 a1, .int .i64 a2] w fun e w' => e = .returned (.bool r) ∧ Drawn0 w w' := by
 (unfold spec_l1In.f at h); (have H := h); clear h; (by_cases c4 : a0 ≥ a1); (· (rw [if_pos c4] at H); (have c4b0 : decide (a1 ≤ a0) = true := decide_eq_true c4); clear c4; (obtain rfl := Option.some.inj H); (go_enter Try.func48, Try.ntmps48); (go_wp2); go_ret; (exact ⟨by first | rfl | (simp; done) | (simp [*]; done), by repeat (first | exact Drawn0.refl _ | apply Drawn0.step)⟩)); (· (rw [if_neg c4] at H); (have c4b0 : decide (a1 ≤ a0) = false := decide_eq_false c4); clear c4; (obtain rfl := Option.some.inj H); (go_enter Try.func48, Try.ntmps48); (go_wp2); go_ret; (exact ⟨by first | rfl | (simp; done) | (simp [*]; done), by repeat (first | exact Drawn0.refl _ | apply Drawn0.step)⟩))
/-! ### spec_l7Name: function 47 -/
mutual
def spec_l7Name.j0 : Nat → ByteArray → Bool → Option (Bool)
 | 0, _, _ => none
 | k + 1, x0, x17 => if x17 = true then (some false) else (spec_l7Name.l0 k x0 0)
def spec_l7Name.l0 : Nat → ByteArray → Int → Option (Bool)
 | 0, _, _ => none
 | k + 1, x0, x3 => if x3 < (x0.size : Int) then (if 0 ≤ x3 then (if (bt x0 x3) < 97 then (if (bt x0 x3) < 48 then (some false) else (if (bt x0 x3) > 57 then (some false) else (spec_l7Name.l0 k x0 (wrap64 (x3 + 1))))) else (if (bt x0 x3) > 122 then (if (bt x0 x3) < 48 then (some false) else (if (bt x0 x3) > 57 then (some false) else (spec_l7Name.l0 k x0 (wrap64 (x3 + 1))))) else (spec_l7Name.l0 k x0 (wrap64 (x3 + 1))))) else (none)) else (some true)
end
def spec_l7Name.f (k : Nat) (a0 : ByteArray) : Option (Bool) := (spec_l1In.f (a0.size : Int) 1 8).bind fun t101 => (if t101 = true then (if 0 < (a0.size : Int) then (if (bt a0 0) < 97 then (spec_l7Name.j0 k a0 true) else (spec_l7Name.j0 k a0 (decide ((bt a0 0) > 122)))) else (none)) else (spec_l7Name.j0 k a0 true))
set_option maxHeartbeats 8000000 in
set_option maxRecDepth 100000 in
theorem spec_l7Name.calls (k : Nat) (a0 : ByteArray) (r : Bool) (w : World) (h : spec_l7Name.f k a0 = some r) :
  Calls Try.prog 47 #[.string a0] w fun e w' => e = .returned (.bool r) ∧ Drawn0 w w' := by
 (unfold spec_l7Name.f at h); (have H := h); clear h; (have HC2 := Aside0.mk H); clear H; (go_enter Try.func47, Try.ntmps47); (go_upto_region 1 with (fail)); (go_cut [17] (fun v17 wc => ∃ (kq : Nat) (x17_1 : Bool), v17 = .bool x17_1 ∧ Aside0 (spec_l7Name.j0 kq a0 x17_1 = some r) ∧ Aside0 (kq ≤ k) ∧ Drawn0 w wc))
 case first =>
  (have H := HC2.out); clear HC2; (replace H := obS H); (obtain ⟨t101, A3, H⟩ := H); (by_cases c4 : t101 = true)
  ·subst c4
   (rw [if_pos rfl] at H); (by_cases c5 : 0 < (a0.size : Int))
   ·rw [if_pos c5] at H
    (have c5b0 := decide_eq_true c5); (have c5b1 : decide (0 < a0.size) = true := decide_eq_true (by omega)); clear c5; ((first | rw [c5b0] | (simp only [i64_w, i32_w]; rw [c5b0]) | skip)); (by_cases c7 : (bt a0 0) < 97)
    ·rw [if_pos c7] at H
     (have c7b0 := decide_eq_true c7); clear c7; (have H' := Aside0.mk H); clear H; (go_wp2_with (first | ((with_reducible refine gate_callee (f := 48) rfl ?_); refine gL (some 6) Try.func48 #[.int .i64 (a0.size : Int), .int .i64 1, .int .i64 8] ?_; (with_reducible refine (spec_l1In.calls (a0.size : Int) 1 8 true _ A3.out).mono ?_); rintro e w' ⟨rfl, ⟨nd, rfl⟩⟩; refine ⟨_, rfl, ?_⟩; have p6 : 0 ≤ (0 : Int) := (by omega); have q6 : 0 < a0.size := (by have : (0 : Int) < (a0.size : Int) := odt; omega); have hx6 : ∀ h : 0 < a0.size, ((a0[0]'h).toNat : Int) = bt a0 0 := bt_at a0 0; clear p6; have qi6 : (0 < (a0.size : Int)) = True := eq_true odt; replace q6 := eq_true q6))); (go_meet)
     case rel => exact ⟨_, (true), (by first | rfl | (simp; done) | (simp [*]; done)), H', ⟨by first | omega | exact Nat.le_refl _⟩, by repeat (first | exact Drawn0.refl _ | apply Drawn0.step)⟩
    ·rw [if_neg c7] at H
     (have c7b0 := decide_eq_false c7); clear c7; (have H' := Aside0.mk H); clear H; (go_wp2_with (first | ((with_reducible refine gate_callee (f := 48) rfl ?_); refine gL (some 6) Try.func48 #[.int .i64 (a0.size : Int), .int .i64 1, .int .i64 8] ?_; (with_reducible refine (spec_l1In.calls (a0.size : Int) 1 8 true _ A3.out).mono ?_); rintro e w' ⟨rfl, ⟨nd, rfl⟩⟩; refine ⟨_, rfl, ?_⟩; have p6 : 0 ≤ (0 : Int) := (by omega); have q6 : 0 < a0.size := (by have : (0 : Int) < (a0.size : Int) := odt; omega); have hx6 : ∀ h : 0 < a0.size, ((a0[0]'h).toNat : Int) = bt a0 0 := bt_at a0 0; clear p6; have qi6 : (0 < (a0.size : Int)) = True := eq_true odt; replace q6 := eq_true q6; have p8 : 0 ≤ (0 : Int) := (by omega); have q8 : 0 < a0.size := (by have : (0 : Int) < (a0.size : Int) := odt; omega); have hx8 : ∀ h : 0 < a0.size, ((a0[0]'h).toNat : Int) = bt a0 0 := bt_at a0 0; clear p8; have qi8 : (0 < (a0.size : Int)) = True := eq_true odt; replace q8 := eq_true q8))); (go_meet)
     case rel => exact ⟨_, (decide ((bt a0 0) > 122)), (by first | rfl | (simp; done) | (simp [*]; done)), H', ⟨by first | omega | exact Nat.le_refl _⟩, by repeat (first | exact Drawn0.refl _ | apply Drawn0.step)⟩
   ·rw [if_neg c5] at H
    exact absurd H (by simp)
  ·replace c4 := Bool.eq_false_iff.mpr c4
   subst c4; (rw [if_neg (show ¬ (false = true) by decide)] at H); (have H' := Aside0.mk H); clear H; (go_wp2_with (first | ((with_reducible refine gate_callee (f := 48) rfl ?_); refine gL (some 6) Try.func48 #[.int .i64 (a0.size : Int), .int .i64 1, .int .i64 8] ?_; (with_reducible refine (spec_l1In.calls (a0.size : Int) 1 8 false _ A3.out).mono ?_); rintro e w' ⟨rfl, ⟨nd, rfl⟩⟩; refine ⟨_, rfl, ?_⟩))); (go_meet)
   case rel => exact ⟨_, (true), (by first | rfl | (simp; done) | (simp [*]; done)), H', ⟨by first | omega | exact Nat.le_refl _⟩, by repeat (first | exact Drawn0.refl _ | apply Drawn0.step)⟩
 case rest =>
  clear HC2; (try clear p2); (try clear c4); (try clear c5); (try clear c5b0); (try clear c5b1); (try clear p6); (try clear q6); (try clear hx6); (try clear qi6); (try clear c7); (try clear c7b0); (try clear p8); (try clear q8); (try clear hx8); (try clear qi8); (try clear p6); (try clear p8); (try clear q6); (try clear q8); (obtain ⟨kq, x17_1, rfl, HA, HJ1, ⟨mc1, rfl⟩⟩ := hcut)
  cases kq with
  | zero => exact absurd HA.out (by simp [spec_l7Name.j0])
  | succ kj1 =>
   (have H := HA.out); clear HA; (simp only [spec_l7Name.j0] at H); (by_cases c9 : x17_1 = true); (· subst c9; (rw [if_pos rfl] at H); (obtain rfl := Option.some.inj H); (go_wp2); go_ret; (exact ⟨by first | rfl | (simp; done) | (simp [*]; done), by repeat (first | exact Drawn0.refl _ | apply Drawn0.step)⟩))
   ·replace c9 := Bool.eq_false_iff.mpr c9
    subst c9; (rw [if_neg (show ¬ (false = true) by decide)] at H); (have H' := Aside0.mk H); clear H; (go_wp2); (go_loopg [3] kj1 (fun kq v3 w' => ∃ (x3_2 : Int), v3 = .int .i64 x3_2 ∧ Aside0 (spec_l7Name.l0 kq a0 x3_2 = some r) ∧ Aside0 (kq ≤ kj1) ∧ Drawn0 w w'))
    case atStart => exact ⟨(0), (by first | rfl | (simp; done) | (simp [*]; done)), H', ⟨Nat.le_refl _⟩, by repeat (first | exact Drawn0.refl _ | apply Drawn0.step)⟩
    case round =>
     (clear H'); (try clear c1); (try clear p2); (try clear c4); (try clear c5); (try clear c5b0); (try clear c5b1); (try clear p6); (try clear q6); (try clear hx6); (try clear qi6); (try clear c7); (try clear c7b0); (try clear p8); (try clear q8); (try clear hx8); (try clear qi8); (try clear c9); (try clear p2); (try clear p6); (try clear p8); (try clear q6); (try clear q8); (obtain ⟨x3_2, rfl, HA, HK2, ⟨m2, rfl⟩⟩ := hrel)
     cases gk with
     | zero => exact absurd HA.out (by simp [spec_l7Name.l0])
     | succ k2 =>
      (have H := HA.out); clear HA; (simp only [spec_l7Name.l0] at H); (by_cases c10 : x3_2 < (a0.size : Int))
      ·rw [if_pos c10] at H
       (have c10b0 := decide_eq_true c10); clear c10; (by_cases c11 : 0 ≤ x3_2)
       ·rw [if_pos c11] at H
        (have c11b0 := decide_eq_true c11); clear c11; (by_cases c13 : (bt a0 x3_2) < 97)
        ·rw [if_pos c13] at H
         (have c13b0 := decide_eq_true c13); clear c13; (by_cases c15 : (bt a0 x3_2) < 48)
         ·rw [if_pos c15] at H
          (have c15b0 := decide_eq_true c15); clear c15; (obtain rfl := Option.some.inj H); (have p12 : 0 ≤ (x3_2 : Int) := odt); (have q12 : x3_2 < (a0.size : Int) := odt); (have hx12 := bt_at a0 x3_2); (replace p12 := eq_true p12); (replace q12 := eq_true q12); (have p14 : 0 ≤ (x3_2 : Int) := odt); (have q14 : x3_2 < (a0.size : Int) := odt); (have hx14 := bt_at a0 x3_2); (replace p14 := eq_true p14); (replace q14 := eq_true q14); (go_wp2); go_ret; (exact ⟨by first | rfl | (simp; done) | (simp [*]; done), by repeat (first | exact Drawn0.refl _ | apply Drawn0.step)⟩)
         ·rw [if_neg c15] at H
          (have c15b0 := decide_eq_false c15); clear c15; (by_cases c17 : (bt a0 x3_2) > 57)
          ·rw [if_pos c17] at H
           (have c17b0 : decide (57 < (bt a0 x3_2)) = true := decide_eq_true c17); clear c17; (obtain rfl := Option.some.inj H); (have p12 : 0 ≤ (x3_2 : Int) := odt); (have q12 : x3_2 < (a0.size : Int) := odt); (have hx12 := bt_at a0 x3_2); (replace p12 := eq_true p12); (replace q12 := eq_true q12); (have p14 : 0 ≤ (x3_2 : Int) := odt); (have q14 : x3_2 < (a0.size : Int) := odt); (have hx14 := bt_at a0 x3_2); (replace p14 := eq_true p14); (replace q14 := eq_true q14); (have p16 : 0 ≤ (x3_2 : Int) := odt); (have q16 : x3_2 < (a0.size : Int) := odt); (have hx16 := bt_at a0 x3_2); (replace p16 := eq_true p16); (replace q16 := eq_true q16); (go_wp2); go_ret; (exact ⟨by first | rfl | (simp; done) | (simp [*]; done), by repeat (first | exact Drawn0.refl _ | apply Drawn0.step)⟩)
          ·rw [if_neg c17] at H
           (have c17b0 : decide (57 < (bt a0 x3_2)) = false := decide_eq_false c17); clear c17; (have H' := Aside0.mk H); clear H; (have p12 : 0 ≤ (x3_2 : Int) := odt); (have q12 : x3_2 < (a0.size : Int) := odt); (have hx12 := bt_at a0 x3_2); (replace p12 := eq_true p12); (replace q12 := eq_true q12); (have p14 : 0 ≤ (x3_2 : Int) := odt); (have q14 : x3_2 < (a0.size : Int) := odt); (have hx14 := bt_at a0 x3_2); (replace p14 := eq_true p14); (replace q14 := eq_true q14); (have p16 : 0 ≤ (x3_2 : Int) := odt); (have q16 : x3_2 < (a0.size : Int) := odt); (have hx16 := bt_at a0 x3_2); (replace p16 := eq_true p16); (replace q16 := eq_true q16); (go_wp2); go_roundg k2
           case measure => have := HJ1.out; have := HK2.out; omega
           case rel => exact ⟨(wrap64 (x3_2 + 1)), (by first | rfl | (simp; done) | (simp [*]; done)), H', ⟨by have := HJ1.out; have := HK2.out; omega⟩, by repeat (first | exact Drawn0.refl _ | apply Drawn0.step)⟩
        ·rw [if_neg c13] at H
         (have c13b0 := decide_eq_false c13); clear c13; (by_cases c19 : (bt a0 x3_2) > 122)
         ·rw [if_pos c19] at H
          (have c19b0 : decide (122 < (bt a0 x3_2)) = true := decide_eq_true c19); clear c19; (by_cases c21 : (bt a0 x3_2) < 48)
          ·rw [if_pos c21] at H
           (have c21b0 := decide_eq_true c21); clear c21; (obtain rfl := Option.some.inj H); (have p12 : 0 ≤ (x3_2 : Int) := odt); (have q12 : x3_2 < (a0.size : Int) := odt); (have hx12 := bt_at a0 x3_2); (replace p12 := eq_true p12); (replace q12 := eq_true q12); (have p18 : 0 ≤ (x3_2 : Int) := odt); (have q18 : x3_2 < (a0.size : Int) := odt); (have hx18 := bt_at a0 x3_2); (replace p18 := eq_true p18); (replace q18 := eq_true q18); (have p20 : 0 ≤ (x3_2 : Int) := odt); (have q20 : x3_2 < (a0.size : Int) := odt); (have hx20 := bt_at a0 x3_2); (replace p20 := eq_true p20); (replace q20 := eq_true q20); (go_wp2); go_ret; (exact ⟨by first | rfl | (simp; done) | (simp [*]; done), by repeat (first | exact Drawn0.refl _ | apply Drawn0.step)⟩)
          ·rw [if_neg c21] at H
           (have c21b0 := decide_eq_false c21); clear c21; (by_cases c23 : (bt a0 x3_2) > 57)
           ·rw [if_pos c23] at H
            (have c23b0 : decide (57 < (bt a0 x3_2)) = true := decide_eq_true c23); clear c23; (obtain rfl := Option.some.inj H); (have p12 : 0 ≤ (x3_2 : Int) := odt); (have q12 : x3_2 < (a0.size : Int) := odt); (have hx12 := bt_at a0 x3_2); (replace p12 := eq_true p12); (replace q12 := eq_true q12); (have p18 : 0 ≤ (x3_2 : Int) := odt); (have q18 : x3_2 < (a0.size : Int) := odt); (have hx18 := bt_at a0 x3_2); (replace p18 := eq_true p18); (replace q18 := eq_true q18); (have p20 : 0 ≤ (x3_2 : Int) := odt); (have q20 : x3_2 < (a0.size : Int) := odt); (have hx20 := bt_at a0 x3_2); (replace p20 := eq_true p20); (replace q20 := eq_true q20); (have p22 : 0 ≤ (x3_2 : Int) := odt); (have q22 : x3_2 < (a0.size : Int) := odt); (have hx22 := bt_at a0 x3_2); (replace p22 := eq_true p22); (replace q22 := eq_true q22); (go_wp2); go_ret; (exact ⟨by first | rfl | (simp; done) | (simp [*]; done), by repeat (first | exact Drawn0.refl _ | apply Drawn0.step)⟩)
           ·rw [if_neg c23] at H
            (have c23b0 : decide (57 < (bt a0 x3_2)) = false := decide_eq_false c23); clear c23; (have H' := Aside0.mk H); clear H; (have p12 : 0 ≤ (x3_2 : Int) := odt); (have q12 : x3_2 < (a0.size : Int) := odt); (have hx12 := bt_at a0 x3_2); (replace p12 := eq_true p12); (replace q12 := eq_true q12); (have p18 : 0 ≤ (x3_2 : Int) := odt); (have q18 : x3_2 < (a0.size : Int) := odt); (have hx18 := bt_at a0 x3_2); (replace p18 := eq_true p18); (replace q18 := eq_true q18); (have p20 : 0 ≤ (x3_2 : Int) := odt); (have q20 : x3_2 < (a0.size : Int) := odt); (have hx20 := bt_at a0 x3_2); (replace p20 := eq_true p20); (replace q20 := eq_true q20); (have p22 : 0 ≤ (x3_2 : Int) := odt); (have q22 : x3_2 < (a0.size : Int) := odt); (have hx22 := bt_at a0 x3_2); (replace p22 := eq_true p22); (replace q22 := eq_true q22); (go_wp2); go_roundg k2
            case measure => have := HJ1.out; have := HK2.out; omega
            case rel => exact ⟨(wrap64 (x3_2 + 1)), (by first | rfl | (simp; done) | (simp [*]; done)), H', ⟨by have := HJ1.out; have := HK2.out; omega⟩, by repeat (first | exact Drawn0.refl _ | apply Drawn0.step)⟩
         ·rw [if_neg c19] at H
          (have c19b0 : decide (122 < (bt a0 x3_2)) = false := decide_eq_false c19); clear c19; (have H' := Aside0.mk H); clear H; (have p12 : 0 ≤ (x3_2 : Int) := odt); (have q12 : x3_2 < (a0.size : Int) := odt); (have hx12 := bt_at a0 x3_2); (replace p12 := eq_true p12); (replace q12 := eq_true q12); (have p18 : 0 ≤ (x3_2 : Int) := odt); (have q18 : x3_2 < (a0.size : Int) := odt); (have hx18 := bt_at a0 x3_2); (replace p18 := eq_true p18); (replace q18 := eq_true q18); (go_wp2); go_roundg k2
          case measure => have := HJ1.out; have := HK2.out; omega
          case rel => exact ⟨(wrap64 (x3_2 + 1)), (by first | rfl | (simp; done) | (simp [*]; done)), H', ⟨by have := HJ1.out; have := HK2.out; omega⟩, by repeat (first | exact Drawn0.refl _ | apply Drawn0.step)⟩
       ·rw [if_neg c11] at H
        exact absurd H (by simp)
      ·rw [if_neg c10] at H
       (have c10b0 := decide_eq_false c10); clear c10; (obtain rfl := Option.some.inj H); (go_wp2); go_ret; (exact ⟨by first | rfl | (simp; done) | (simp [*]; done), by repeat (first | exact Drawn0.refl _ | apply Drawn0.step)⟩)
/-! ### spec_l23Names: function 49 -/
mutual
def spec_l23Names.l0 : Nat → List ByteArray → Int → Option (Bool)
 | 0, _, _ => none
 | k + 1, x0, x3 => if x3 < (x0.length : Int) then (if 0 ≤ x3 then ((spec_l7Name.f k (rdOf ByteArray.empty x0 x3)).bind fun t102 => (if t102 = true then (spec_l23Names.l1 k x0 x3 0) else (some false))) else (none)) else (some true)
def spec_l23Names.l1 : Nat → List ByteArray → Int → Int → Option (Bool)
 | 0, _, _, _ => none
 | k + 1, x0, x3, x4 => if x4 < x3 then (if 0 ≤ x4 then (if x4 < (x0.length : Int) then (if 0 ≤ x3 then (if x3 < (x0.length : Int) then (if (rdOf ByteArray.empty x0 x4).toList = (rdOf ByteArray.empty x0 x3).toList then (some false) else (spec_l23Names.l1 k x0 x3 (wrap64 (x4 + 1)))) else (none)) else (none)) else (none)) else (none)) else (spec_l23Names.l0 k x0 (wrap64 (x3 + 1)))
end
def spec_l23Names.f (k : Nat) (l0 : List ByteArray) : Option (Bool) := spec_l23Names.l0 k l0 0
set_option maxHeartbeats 8000000 in
set_option maxRecDepth 100000 in
theorem spec_l23Names.calls (k : Nat) (A0 : Option Addr) (c0 : Nat) (l0 : List ByteArray) (r : Bool) (w : World) (hr0 : Kd.C Kd.string w A0 l0.length l0) (hc0 : l0.length ≤ c0) (h : spec_l23Names.f k l0 = some r) :
  Calls Try.prog 49 #[.slice A0 l0.length c0] w fun e w' => e = .returned (.bool r) ∧ Drawn0 w w' := by
 (have HR0 := Aside0.mk hr0); (have HC0 := Aside0.mk hc0); clear hr0 hc0; (unfold spec_l23Names.f at h); (have H := h); clear h; (have H' := Aside0.mk H); clear H; (go_enter Try.func49, Try.ntmps49); (go_wp2); (repeat (go_quiet (fail); try go_wp2)); (go_loopg [3] k (fun kq v3 w' => ∃ (x3_1 : Int), v3 = .int .i64 x3_1 ∧ Aside0 (spec_l23Names.l0 kq l0 x3_1 = some r) ∧ Aside0 (kq ≤ k) ∧ Drawn0 w w'))
 case atStart => exact ⟨(0), (by first | rfl | (simp; done) | (simp [*]; done)), H', ⟨Nat.le_refl _⟩, by repeat (first | exact Drawn0.refl _ | apply Drawn0.step)⟩
 case round =>
  (clear H'); (obtain ⟨x3_1, rfl, HA, HK1, ⟨m1, rfl⟩⟩ := hrel)
  cases gk with
  | zero => exact absurd HA.out (by simp [spec_l23Names.l0])
  | succ k1 =>
   (have H := HA.out); clear HA; (simp only [spec_l23Names.l0] at H); (by_cases c2 : x3_1 < (l0.length : Int))
   ·rw [if_pos c2] at H
    (have c2b0 := decide_eq_true c2); clear c2; (by_cases c3 : 0 ≤ x3_1)
    ·rw [if_pos c3] at H
     (have c3b0 := decide_eq_true c3); clear c3; (replace H := obS H); (obtain ⟨t102, A4, H⟩ := H); (by_cases c5 : t102 = true)
     ·subst c5
      (rw [if_pos rfl] at H); (have H' := Aside0.mk H); clear H; (have p101 : 0 ≤ (x3_1 : Int) := odt); (have q101 : x3_1 < (l0.length : Int) := odt); (obtain ⟨ad101, e101, hx101_0⟩ := Kd.at_string HR0.out x3_1 p101 q101); (cases e101); (replace p101 := eq_true p101); (replace q101 := eq_true q101); (go_wp2_with (first | (go_at_call 47; (with_reducible refine (spec_l7Name.calls k1 (rdOf ByteArray.empty l0 x3_1) true _ A4.out).mono ?_); rintro e w' ⟨rfl, ⟨nd, rfl⟩⟩; (try first | exact ⟨rfl, _, dN2 _ _ _⟩ | exact ⟨rfl, _, dN3 _ _ _ _⟩)))); (repeat (go_quiet (first | (go_at_call 47; (with_reducible refine (spec_l7Name.calls k1 (rdOf ByteArray.empty l0 x3_1) true _ A4.out).mono ?_); rintro e w' ⟨rfl, ⟨nd, rfl⟩⟩; (try first | exact ⟨rfl, _, dN2 _ _ _⟩ | exact ⟨rfl, _, dN3 _ _ _ _⟩))); try go_wp2_with (first | (go_at_call 47; (with_reducible refine (spec_l7Name.calls k1 (rdOf ByteArray.empty l0 x3_1) true _ A4.out).mono ?_); rintro e w' ⟨rfl, ⟨nd, rfl⟩⟩; (try first | exact ⟨rfl, _, dN2 _ _ _⟩ | exact ⟨rfl, _, dN3 _ _ _ _⟩))))); (go_loopg [4] k1 (fun kq v4 w' => ∃ (x4_2 : Int), v4 = .int .i64 x4_2 ∧ Aside0 (spec_l23Names.l1 kq l0 x3_1 x4_2 = some r) ∧ Aside0 (kq ≤ k1) ∧ Drawn0 w w'))
      case atStart => exact ⟨(0), (by first | rfl | (simp; done) | (simp [*]; done)), H', ⟨Nat.le_refl _⟩, by repeat (first | exact Drawn0.refl _ | apply Drawn0.step)⟩
      case round =>
       (clear H'); (try clear p1); (try clear q1); (try clear hx1); (try clear c2); (try clear c2b0); (try clear p2); (try clear c3); (try clear c3b0); (try clear c4); (try clear c5); (try clear hx101_0); (try clear p101); (try clear q101); (obtain ⟨x4_2, rfl, HA, HK2, ⟨m2, rfl⟩⟩ := hrel)
       cases gk with
       | zero => exact absurd HA.out (by simp [spec_l23Names.l1])
       | succ k2 =>
        (have H := HA.out); clear HA; (simp only [spec_l23Names.l1] at H); (by_cases c6 : x4_2 < x3_1)
        ·rw [if_pos c6] at H
         (have c6b0 := decide_eq_true c6); clear c6; (by_cases c7 : 0 ≤ x4_2)
         ·rw [if_pos c7] at H
          (have c7b0 := decide_eq_true c7); clear c7; (by_cases c8 : x4_2 < (l0.length : Int))
          ·rw [if_pos c8] at H
           (have c8b0 := decide_eq_true c8); clear c8; (by_cases c9 : 0 ≤ x3_1)
           ·rw [if_pos c9] at H
            (have c9b0 := decide_eq_true c9); clear c9; (by_cases c10 : x3_1 < (l0.length : Int))
            ·rw [if_pos c10] at H
             (have c10b0 := decide_eq_true c10); clear c10; (by_cases c11 : (rdOf ByteArray.empty l0 x4_2).toList = (rdOf ByteArray.empty l0 x3_1).toList)
             ·rw [if_pos c11] at H
              (have c11b0 : ((rdOf ByteArray.empty l0 x4_2).toList == (rdOf ByteArray.empty l0 x3_1).toList) = true := beq_iff_eq.mpr c11); (have c11b1 : ((rdOf ByteArray.empty l0 x4_2).toList != (rdOf ByteArray.empty l0 x3_1).toList) = false := bne_eq_false_iff_eq.mpr c11); clear c11; (obtain rfl := Option.some.inj H); (have p103 : 0 ≤ (x4_2 : Int) := odt); (have q103 : x4_2 < (l0.length : Int) := odt); (obtain ⟨ad103, e103, hx103_0⟩ := Kd.at_string HR0.out x4_2 p103 q103); (obtain rfl : ad101 = ad103 := (by injection e103)); (replace p103 := eq_true p103); (replace q103 := eq_true q103); (have p104 : 0 ≤ (x3_1 : Int) := odt); (have q104 : x3_1 < (l0.length : Int) := odt); (obtain ⟨ad104, e104, hx104_0⟩ := Kd.at_string HR0.out x3_1 p104 q104); (obtain rfl : ad101 = ad104 := (by injection e104)); (replace p104 := eq_true p104); (replace q104 := eq_true q104); (go_wp2); (repeat (go_quiet (fail); try go_wp2)); go_ret; (exact ⟨by first | rfl | (simp; done) | (simp [*]; done), by repeat (first | exact Drawn0.refl _ | apply Drawn0.step)⟩)
             ·rw [if_neg c11] at H
              (have c11b0 : ((rdOf ByteArray.empty l0 x4_2).toList == (rdOf ByteArray.empty l0 x3_1).toList) = false := beq_eq_false_iff_ne.mpr c11); (have c11b1 : ((rdOf ByteArray.empty l0 x4_2).toList != (rdOf ByteArray.empty l0 x3_1).toList) = true := bne_iff_ne.mpr c11); (have H' := Aside0.mk H); clear H; (have p103 : 0 ≤ (x4_2 : Int) := odt); (have q103 : x4_2 < (l0.length : Int) := odt); (obtain ⟨ad103, e103, hx103_0⟩ := Kd.at_string HR0.out x4_2 p103 q103); (obtain rfl : ad101 = ad103 := (by injection e103)); (replace p103 := eq_true p103); (replace q103 := eq_true q103); (have p104 : 0 ≤ (x3_1 : Int) := odt); (have q104 : x3_1 < (l0.length : Int) := odt); (obtain ⟨ad104, e104, hx104_0⟩ := Kd.at_string HR0.out x3_1 p104 q104); (obtain rfl : ad101 = ad104 := (by injection e104)); (replace p104 := eq_true p104); (replace q104 := eq_true q104); (go_wp2); (repeat (go_quiet (fail); try go_wp2)); go_roundg k2
              case measure => have := HK1.out; have := HK2.out; omega
              case rel => exact ⟨(wrap64 (x4_2 + 1)), (by first | rfl | (simp; done) | (simp [*]; done)), H', ⟨by have := HK1.out; have := HK2.out; omega⟩, by repeat (first | exact Drawn0.refl _ | apply Drawn0.step)⟩
            ·rw [if_neg c10] at H
             exact absurd H (by simp)
           ·rw [if_neg c9] at H
            exact absurd H (by simp)
          ·rw [if_neg c8] at H
           exact absurd H (by simp)
         ·rw [if_neg c7] at H
          exact absurd H (by simp)
        ·rw [if_neg c6] at H
         (have c6b0 := decide_eq_false c6); clear c6; (have H' := Aside0.mk H); clear H; (go_wp2); (repeat (go_quiet (fail); try go_wp2)); go_roundg k2
         case measure => have := HK1.out; have := HK2.out; omega
         case rel => exact ⟨(wrap64 (x3_1 + 1)), (by first | rfl | (simp; done) | (simp [*]; done)), H', ⟨by have := HK1.out; have := HK2.out; omega⟩, by repeat (first | exact Drawn0.refl _ | apply Drawn0.step)⟩
     ·replace c5 := Bool.eq_false_iff.mpr c5
      subst c5; (rw [if_neg (show ¬ (false = true) by decide)] at H); (obtain rfl := Option.some.inj H); (have p101 : 0 ≤ (x3_1 : Int) := odt); (have q101 : x3_1 < (l0.length : Int) := odt); (obtain ⟨ad101, e101, hx101_0⟩ := Kd.at_string HR0.out x3_1 p101 q101); (cases e101); (replace p101 := eq_true p101); (replace q101 := eq_true q101); (go_wp2_with (first | (go_at_call 47; (with_reducible refine (spec_l7Name.calls k1 (rdOf ByteArray.empty l0 x3_1) false _ A4.out).mono ?_); rintro e w' ⟨rfl, ⟨nd, rfl⟩⟩; (try first | exact ⟨rfl, _, dN2 _ _ _⟩ | exact ⟨rfl, _, dN3 _ _ _ _⟩)))); (repeat (go_quiet (first | (go_at_call 47; (with_reducible refine (spec_l7Name.calls k1 (rdOf ByteArray.empty l0 x3_1) false _ A4.out).mono ?_); rintro e w' ⟨rfl, ⟨nd, rfl⟩⟩; (try first | exact ⟨rfl, _, dN2 _ _ _⟩ | exact ⟨rfl, _, dN3 _ _ _ _⟩))); try go_wp2_with (first | (go_at_call 47; (with_reducible refine (spec_l7Name.calls k1 (rdOf ByteArray.empty l0 x3_1) false _ A4.out).mono ?_); rintro e w' ⟨rfl, ⟨nd, rfl⟩⟩; (try first | exact ⟨rfl, _, dN2 _ _ _⟩ | exact ⟨rfl, _, dN3 _ _ _ _⟩))))); go_ret; (exact ⟨by first | rfl | (simp; done) | (simp [*]; done), by repeat (first | exact Drawn0.refl _ | apply Drawn0.step)⟩)
    ·rw [if_neg c3] at H
     exact absurd H (by simp)
   ·rw [if_neg c2] at H
    (have c2b0 := decide_eq_false c2); clear c2; (obtain rfl := Option.some.inj H); (go_wp2); (repeat (go_quiet (fail); try go_wp2)); go_ret; (exact ⟨by first | rfl | (simp; done) | (simp [*]; done), by repeat (first | exact Drawn0.refl _ | apply Drawn0.step)⟩)
/-! ### spec_l23Field: function 44 -/
mutual
def spec_l23Field.j0 : Nat → List (S49) → Int → Bool → ByteArray → Int → Int → Int → List ByteArray → Bool → ByteArray → Option (Bool)
 | 0, _, _, _, _, _, _, _, _, _, _ => none
 | k + 1, x0, x1, x28, x103000, x103001, x103002, x103003, x103004, x103005, x103006 => if x28 = true then (some false) else (if x103006.toList = ([] : List UInt8) then (spec_l23Field.j1 k x103000 x103001 x103002 x103003 x103004 x103005 x103006) else ((spec_l23Find.f k x0 x103006).bind fun t106 => (if t106 < 0 then (some false) else (if t106 ≥ x1 then (some false) else (if 0 ≤ t106 then (if t106 < (x0.length : Int) then (if ((rd_T49 x0 t106).f1) = 4 then (spec_l23Field.j1 k x103000 x103001 x103002 x103003 x103004 x103005 x103006) else (some false)) else (none)) else (none))))))
def spec_l23Field.j1 : Nat → ByteArray → Int → Int → Int → List ByteArray → Bool → ByteArray → Option (Bool)
 | 0, _, _, _, _, _, _, _ => none
 | k + 1, x103000, x103001, x103002, x103003, x103004, x103005, x103006 => if x103001 = 1 then ((spec_l1In.f x103002 (-999999) x103003).bind fun t108 => (if t108 = true then (if x103003 ≤ 999999 then (some ((x103004.length : Int) == 0)) else (some false)) else (some false))) else (if x103001 = 2 then ((spec_l1In.f x103002 0 x103003).bind fun t109 => (if t109 = true then (if x103003 ≤ 40 then (some ((x103004.length : Int) == 0)) else (some false)) else (some false))) else (if x103001 = 3 then (if x103002 = 0 then (if x103003 = 0 then ((spec_l1In.f (x103004.length : Int) 1 6).bind fun t110 => (if t110 = true then ((spec_l23Names.f k x103004).bind fun t111 => (some t111)) else (some false))) else (some false)) else (some false)) else (if x103002 = 0 then (if x103003 = 0 then (some ((x103004.length : Int) == 0)) else (some false)) else (some false))))
end
def spec_l23Field.f (k : Nat) (l0 : List (S49)) (a1 : Int) : Option (Bool) := if 0 ≤ a1 then (if a1 < (l0.length : Int) then ((spec_l7Name.f k ((rd_T49 l0 a1).f0)).bind fun t103 => (if t103 = true then ((spec_l23Find.f k l0 ((rd_T49 l0 a1).f0)).bind fun t104 => (if t104 = a1 then ((spec_l1In.f ((rd_T49 l0 a1).f1) 1 4).bind fun t105 => (spec_l23Field.j0 k l0 a1 (!t105) ((rd_T49 l0 a1).f0) ((rd_T49 l0 a1).f1) ((rd_T49 l0 a1).f2) ((rd_T49 l0 a1).f3) ((rd_T49 l0 a1).f4) ((rd_T49 l0 a1).f5) ((rd_T49 l0 a1).f6))) else (spec_l23Field.j0 k l0 a1 true ((rd_T49 l0 a1).f0) ((rd_T49 l0 a1).f1) ((rd_T49 l0 a1).f2) ((rd_T49 l0 a1).f3) ((rd_T49 l0 a1).f4) ((rd_T49 l0 a1).f5) ((rd_T49 l0 a1).f6)))) else (spec_l23Field.j0 k l0 a1 true ((rd_T49 l0 a1).f0) ((rd_T49 l0 a1).f1) ((rd_T49 l0 a1).f2) ((rd_T49 l0 a1).f3) ((rd_T49 l0 a1).f4) ((rd_T49 l0 a1).f5) ((rd_T49 l0 a1).f6)))) else (none)) else (none)
set_option maxHeartbeats 8000000 in
set_option maxRecDepth 100000 in
theorem spec_l23Field.calls (k : Nat) (A0 : Option Addr) (c0 : Nat) (l0 : List (S49)) (a1 : Int) (r : Bool) (w : World) (hr0 : Kd.C k49 w A0 l0.length l0) (hc0 : l0.length ≤ c0) (h : spec_l23Field.f k l0 a1 = some r) :
  Calls Try.prog 44 #[.slice A0 l0.length c0, .int .i64 a1] w fun e w' => e = .returned (.bool r) ∧ Below w.heap.size w w' := by
 (have hu49 := Try.underlying49); (have HR0 := Aside0.mk hr0); (have HC0 := Aside0.mk hc0); clear hr0 hc0; (have HB := Aside0.mk (Below.refl w.heap.size w)); (unfold spec_l23Field.f at h); (have H := h); clear h; (by_cases c3 : 0 ≤ a1)
 ·rw [if_pos c3] at H
  (have c3b0 := decide_eq_true c3); clear c3; (by_cases c4 : a1 < (l0.length : Int))
  ·rw [if_pos c4] at H
   (have c4b0 := decide_eq_true c4); clear c4; (have HC5 := Aside0.mk H); clear H; (have p101 : 0 ≤ (a1 : Int) := odt); (have q101 : a1 < (l0.length : Int) := odt); (obtain ⟨ad101, A101_4, c101_4, e101, hx101_0, hx101_1, hx101_2, hx101_3, hx101_4, hx101_5, hx101_6, hl101_4, hi101_4⟩ := at_T49 HR0.out a1 p101 q101); (cases e101); (have HR101_4 := Aside0.mk hi101_4); (have HC101_4 := Aside0.mk hl101_4); clear hi101_4 hl101_4; (replace p101 := eq_true p101); (replace q101 := eq_true q101); (go_enter Try.func44, Try.ntmps44); (go_upto_region 2 with (first | ((with_reducible refine gate_dst (N := 5) rfl ?_); refine box_event ?hg (N := 5) ?hd (cs := #[.string (⟨#[]⟩ : ByteArray), .int .i64 0, .int .i64 0, .int .i64 0, .slice none 0 0, .bool false, .string (⟨#[]⟩ : ByteArray)]) (t := 49) ?hr ?_; (case hd => rfl); (case hg => rfl); (case hr => first | (go_simp; done) | (go_simp; rfl)); intro gb102 hg w6 hbox hb; have hB_ := zI hb HB; have n0_ := Aside0.mk (below_step hB_ hb); have n1_ := Aside0.mk (hbox); have n2_ := Aside0.mk (bx0 hg hB_); have n3_ := n2_; clear HB; have HB := n0_; have BK102 := n1_; have GW102 := n2_; have GE102 := n3_; clear n0_ n1_ n2_ n3_ hB_ hb hbox hg; have hcz7_0 := cz BK102.out 0; have hcz7_1 := cz BK102.out 1; have hcz7_2 := cz BK102.out 2; have hcz7_3 := cz BK102.out 3; have hcz7_4 := cz BK102.out 4; have hcz7_5 := cz BK102.out 5; have hcz7_6 := cz BK102.out 6; have hfz7_0 := blk_frozen BK102.out 0; have hfz7_1 := blk_frozen BK102.out 1; have hfz7_2 := blk_frozen BK102.out 2; have hfz7_3 := blk_frozen BK102.out 3; have hfz7_4 := blk_frozen BK102.out 4; have hfz7_5 := blk_frozen BK102.out 5; have hfz7_6 := blk_frozen BK102.out 6))); ((try simp only [Act.put, aS1, aS2, aS3])); (go_cut [28] (fun v28 wc => ∃ (kq : Nat) (x28_4 : Bool), v28 = .bool x28_4 ∧ Aside0 (spec_l23Field.j0 kq l0 a1 x28_4 ((rd_T49 l0 a1).f0) ((rd_T49 l0 a1).f1) ((rd_T49 l0 a1).f2) ((rd_T49 l0 a1).f3) ((rd_T49 l0 a1).f4) ((rd_T49 l0 a1).f5) ((rd_T49 l0 a1).f6) = some r) ∧ Aside0 (kq ≤ k) ∧ Aside0 (wc.heap[gb102]? = some (.cells #[.string ((rd_T49 l0 a1).f0), .int .i64 ((rd_T49 l0 a1).f1), .int .i64 ((rd_T49 l0 a1).f2), .int .i64 ((rd_T49 l0 a1).f3), (.slice A101_4 ((rd_T49 l0 a1).f4).length c101_4), .bool ((rd_T49 l0 a1).f5), .string ((rd_T49 l0 a1).f6)] 49 (0, 0))) ∧ Aside0 (Below w.heap.size w wc)))
   case first =>
    (have H := HC5.out); clear HC5; (replace H := obS H); (obtain ⟨t103, A8, H⟩ := H); (by_cases c9 : t103 = true)
    ·subst c9
     (rw [if_pos rfl] at H); (replace H := obS H); (obtain ⟨t104, A10, H⟩ := H); (by_cases c11 : t104 = a1)
     ·rw [if_pos c11] at H
      (have c11b0 : (t104 == a1) = true := beq_iff_eq.mpr c11); (have c11b1 : (t104 != a1) = false := bne_eq_false_iff_eq.mpr c11); clear c11; ((first | rw [c11b0] | (simp only [i64_w, i32_w]; rw [c11b0]) | skip)); (replace H := Option.bind_eq_some_iff.mp H); (obtain ⟨t105, A120, H⟩ := H); (have A12 := Aside0.mk A120); clear A120; (have H' := Aside0.mk H); clear H; (have hcz13_0 := cz BK102.out 0); (have hcz13_1 := cz BK102.out 1); (have hcz13_2 := cz BK102.out 2); (have hcz13_3 := cz BK102.out 3); (have hcz13_4 := cz BK102.out 4); (have hcz13_5 := cz BK102.out 5); (have hcz13_6 := cz BK102.out 6); (have hfz13_0 := blk_frozen BK102.out 0); (have hfz13_1 := blk_frozen BK102.out 1); (have hfz13_2 := blk_frozen BK102.out 2); (have hfz13_3 := blk_frozen BK102.out 3); (have hfz13_4 := blk_frozen BK102.out 4); (have hfz13_5 := blk_frozen BK102.out 5); (have hfz13_6 := blk_frozen BK102.out 6); (go_wp2_with (first | ((with_reducible refine gate_callee (f := 47) rfl ?_); refine gL (some 13) Try.func47 #[.string ((rd_T49 l0 a1).f0)] ?_; (with_reducible refine (spec_l7Name.calls k ((rd_T49 l0 a1).f0) true _ A8.out).mono ?_); rintro e w' ⟨rfl, ⟨nd, rfl⟩⟩; refine ⟨_, rfl, ?_⟩) | (go_at_call 19; (with_reducible refine (spec_l23Find.calls k _ _ l0 ((rd_T49 l0 a1).f0) t104 _ ?side1 ?side2 A10.out).mono ?_); (case side1 => exact Kd.C_below HR0.out (by repeat (first | (with_reducible first | exact HB.out | apply bA | apply bN | apply bD | refine below_set ?_ GE102.out) | exact HB.out))); (case side2 => exact HC0.out); rintro e w' ⟨rfl, ⟨nd, rfl⟩⟩) | (go_at_call 48; (with_reducible refine (spec_l1In.calls ((rd_T49 l0 a1).f1) 1 4 t105 _ A12.out).mono ?_); rintro e w' ⟨rfl, ⟨nd, rfl⟩⟩))); (go_meet)
      case rel => exact ⟨_, (!t105), (by first | rfl | (simp; done) | (simp [*]; done)), H', ⟨by first | omega | exact Nat.le_refl _⟩, ⟨by (with_reducible repeat (first | refine kN ?_ _ | refine kD ?_ | refine kA ?_ _)); refine blk_put (cs := #[.string ((rd_T49 l0 a1).f0), .int .i64 ((rd_T49 l0 a1).f1), .int .i64 ((rd_T49 l0 a1).f2), .int .i64 ((rd_T49 l0 a1).f3), .slice A101_4 ((rd_T49 l0 a1).f4).length c101_4, .bool ((rd_T49 l0 a1).f5), .string (⟨#[]⟩ : ByteArray)]) ?_ 6 _ rfl; (with_reducible repeat (first | refine kN ?_ _ | refine kD ?_ | refine kA ?_ _)); refine blk_put (cs := #[.string ((rd_T49 l0 a1).f0), .int .i64 ((rd_T49 l0 a1).f1), .int .i64 ((rd_T49 l0 a1).f2), .int .i64 ((rd_T49 l0 a1).f3), .slice A101_4 ((rd_T49 l0 a1).f4).length c101_4, .bool false, .string (⟨#[]⟩ : ByteArray)]) ?_ 5 _ rfl; (with_reducible repeat (first | refine kN ?_ _ | refine kD ?_ | refine kA ?_ _)); refine blk_put (cs := #[.string ((rd_T49 l0 a1).f0), .int .i64 ((rd_T49 l0 a1).f1), .int .i64 ((rd_T49 l0 a1).f2), .int .i64 ((rd_T49 l0 a1).f3), .slice none 0 0, .bool false, .string (⟨#[]⟩ : ByteArray)]) ?_ 4 _ rfl; (with_reducible repeat (first | refine kN ?_ _ | refine kD ?_ | refine kA ?_ _)); refine blk_put (cs := #[.string ((rd_T49 l0 a1).f0), .int .i64 ((rd_T49 l0 a1).f1), .int .i64 ((rd_T49 l0 a1).f2), .int .i64 0, .slice none 0 0, .bool false, .string (⟨#[]⟩ : ByteArray)]) ?_ 3 _ rfl; (with_reducible repeat (first | refine kN ?_ _ | refine kD ?_ | refine kA ?_ _)); refine blk_put (cs := #[.string ((rd_T49 l0 a1).f0), .int .i64 ((rd_T49 l0 a1).f1), .int .i64 0, .int .i64 0, .slice none 0 0, .bool false, .string (⟨#[]⟩ : ByteArray)]) ?_ 2 _ rfl; (with_reducible repeat (first | refine kN ?_ _ | refine kD ?_ | refine kA ?_ _)); refine blk_put (cs := #[.string ((rd_T49 l0 a1).f0), .int .i64 0, .int .i64 0, .int .i64 0, .slice none 0 0, .bool false, .string (⟨#[]⟩ : ByteArray)]) ?_ 1 _ rfl; (with_reducible repeat (first | refine kN ?_ _ | refine kD ?_ | refine kA ?_ _)); refine blk_put (cs := #[.string (⟨#[]⟩ : ByteArray), .int .i64 0, .int .i64 0, .int .i64 0, .slice none 0 0, .bool false, .string (⟨#[]⟩ : ByteArray)]) ?_ 0 _ rfl; (with_reducible repeat (first | refine kN ?_ _ | refine kD ?_ | refine kA ?_ _)); exact BK102.out⟩, ⟨by repeat (first | (with_reducible first | exact HB.out | apply bA | apply bN | apply bD | refine below_set ?_ GE102.out) | exact HB.out)⟩⟩
     ·rw [if_neg c11] at H
      (have c11b0 : (t104 == a1) = false := beq_eq_false_iff_ne.mpr c11); (have c11b1 : (t104 != a1) = true := bne_iff_ne.mpr c11); ((first | rw [c11b0] | (simp only [i64_w, i32_w]; rw [c11b0]) | skip)); (have H' := Aside0.mk H); clear H; (have hcz14_0 := cz BK102.out 0); (have hcz14_1 := cz BK102.out 1); (have hcz14_2 := cz BK102.out 2); (have hcz14_3 := cz BK102.out 3); (have hcz14_4 := cz BK102.out 4); (have hcz14_5 := cz BK102.out 5); (have hcz14_6 := cz BK102.out 6); (have hfz14_0 := blk_frozen BK102.out 0); (have hfz14_1 := blk_frozen BK102.out 1); (have hfz14_2 := blk_frozen BK102.out 2); (have hfz14_3 := blk_frozen BK102.out 3); (have hfz14_4 := blk_frozen BK102.out 4); (have hfz14_5 := blk_frozen BK102.out 5); (have hfz14_6 := blk_frozen BK102.out 6); (go_wp2_with (first | ((with_reducible refine gate_callee (f := 47) rfl ?_); refine gL (some 13) Try.func47 #[.string ((rd_T49 l0 a1).f0)] ?_; (with_reducible refine (spec_l7Name.calls k ((rd_T49 l0 a1).f0) true _ A8.out).mono ?_); rintro e w' ⟨rfl, ⟨nd, rfl⟩⟩; refine ⟨_, rfl, ?_⟩) | (go_at_call 19; (with_reducible refine (spec_l23Find.calls k _ _ l0 ((rd_T49 l0 a1).f0) t104 _ ?side1 ?side2 A10.out).mono ?_); (case side1 => exact Kd.C_below HR0.out (by repeat (first | (with_reducible first | exact HB.out | apply bA | apply bN | apply bD | refine below_set ?_ GE102.out) | exact HB.out))); (case side2 => exact HC0.out); rintro e w' ⟨rfl, ⟨nd, rfl⟩⟩))); (go_meet)
      case rel => exact ⟨_, (true), (by first | rfl | (simp; done) | (simp [*]; done)), H', ⟨by first | omega | exact Nat.le_refl _⟩, ⟨by (with_reducible repeat (first | refine kN ?_ _ | refine kD ?_ | refine kA ?_ _)); refine blk_put (cs := #[.string ((rd_T49 l0 a1).f0), .int .i64 ((rd_T49 l0 a1).f1), .int .i64 ((rd_T49 l0 a1).f2), .int .i64 ((rd_T49 l0 a1).f3), .slice A101_4 ((rd_T49 l0 a1).f4).length c101_4, .bool ((rd_T49 l0 a1).f5), .string (⟨#[]⟩ : ByteArray)]) ?_ 6 _ rfl; (with_reducible repeat (first | refine kN ?_ _ | refine kD ?_ | refine kA ?_ _)); refine blk_put (cs := #[.string ((rd_T49 l0 a1).f0), .int .i64 ((rd_T49 l0 a1).f1), .int .i64 ((rd_T49 l0 a1).f2), .int .i64 ((rd_T49 l0 a1).f3), .slice A101_4 ((rd_T49 l0 a1).f4).length c101_4, .bool false, .string (⟨#[]⟩ : ByteArray)]) ?_ 5 _ rfl; (with_reducible repeat (first | refine kN ?_ _ | refine kD ?_ | refine kA ?_ _)); refine blk_put (cs := #[.string ((rd_T49 l0 a1).f0), .int .i64 ((rd_T49 l0 a1).f1), .int .i64 ((rd_T49 l0 a1).f2), .int .i64 ((rd_T49 l0 a1).f3), .slice none 0 0, .bool false, .string (⟨#[]⟩ : ByteArray)]) ?_ 4 _ rfl; (with_reducible repeat (first | refine kN ?_ _ | refine kD ?_ | refine kA ?_ _)); refine blk_put (cs := #[.string ((rd_T49 l0 a1).f0), .int .i64 ((rd_T49 l0 a1).f1), .int .i64 ((rd_T49 l0 a1).f2), .int .i64 0, .slice none 0 0, .bool false, .string (⟨#[]⟩ : ByteArray)]) ?_ 3 _ rfl; (with_reducible repeat (first | refine kN ?_ _ | refine kD ?_ | refine kA ?_ _)); refine blk_put (cs := #[.string ((rd_T49 l0 a1).f0), .int .i64 ((rd_T49 l0 a1).f1), .int .i64 0, .int .i64 0, .slice none 0 0, .bool false, .string (⟨#[]⟩ : ByteArray)]) ?_ 2 _ rfl; (with_reducible repeat (first | refine kN ?_ _ | refine kD ?_ | refine kA ?_ _)); refine blk_put (cs := #[.string ((rd_T49 l0 a1).f0), .int .i64 0, .int .i64 0, .int .i64 0, .slice none 0 0, .bool false, .string (⟨#[]⟩ : ByteArray)]) ?_ 1 _ rfl; (with_reducible repeat (first | refine kN ?_ _ | refine kD ?_ | refine kA ?_ _)); refine blk_put (cs := #[.string (⟨#[]⟩ : ByteArray), .int .i64 0, .int .i64 0, .int .i64 0, .slice none 0 0, .bool false, .string (⟨#[]⟩ : ByteArray)]) ?_ 0 _ rfl; (with_reducible repeat (first | refine kN ?_ _ | refine kD ?_ | refine kA ?_ _)); exact BK102.out⟩, ⟨by repeat (first | (with_reducible first | exact HB.out | apply bA | apply bN | apply bD | refine below_set ?_ GE102.out) | exact HB.out)⟩⟩
    ·replace c9 := Bool.eq_false_iff.mpr c9
     subst c9; (rw [if_neg (show ¬ (false = true) by decide)] at H); (have H' := Aside0.mk H); clear H; (have hcz15_0 := cz BK102.out 0); (have hcz15_1 := cz BK102.out 1); (have hcz15_2 := cz BK102.out 2); (have hcz15_3 := cz BK102.out 3); (have hcz15_4 := cz BK102.out 4); (have hcz15_5 := cz BK102.out 5); (have hcz15_6 := cz BK102.out 6); (have hfz15_0 := blk_frozen BK102.out 0); (have hfz15_1 := blk_frozen BK102.out 1); (have hfz15_2 := blk_frozen BK102.out 2); (have hfz15_3 := blk_frozen BK102.out 3); (have hfz15_4 := blk_frozen BK102.out 4); (have hfz15_5 := blk_frozen BK102.out 5); (have hfz15_6 := blk_frozen BK102.out 6); (go_wp2_with (first | ((with_reducible refine gate_callee (f := 47) rfl ?_); refine gL (some 13) Try.func47 #[.string ((rd_T49 l0 a1).f0)] ?_; (with_reducible refine (spec_l7Name.calls k ((rd_T49 l0 a1).f0) false _ A8.out).mono ?_); rintro e w' ⟨rfl, ⟨nd, rfl⟩⟩; refine ⟨_, rfl, ?_⟩))); (go_meet)
     case rel => exact ⟨_, (true), (by first | rfl | (simp; done) | (simp [*]; done)), H', ⟨by first | omega | exact Nat.le_refl _⟩, ⟨by (with_reducible repeat (first | refine kN ?_ _ | refine kD ?_ | refine kA ?_ _)); refine blk_put (cs := #[.string ((rd_T49 l0 a1).f0), .int .i64 ((rd_T49 l0 a1).f1), .int .i64 ((rd_T49 l0 a1).f2), .int .i64 ((rd_T49 l0 a1).f3), .slice A101_4 ((rd_T49 l0 a1).f4).length c101_4, .bool ((rd_T49 l0 a1).f5), .string (⟨#[]⟩ : ByteArray)]) ?_ 6 _ rfl; (with_reducible repeat (first | refine kN ?_ _ | refine kD ?_ | refine kA ?_ _)); refine blk_put (cs := #[.string ((rd_T49 l0 a1).f0), .int .i64 ((rd_T49 l0 a1).f1), .int .i64 ((rd_T49 l0 a1).f2), .int .i64 ((rd_T49 l0 a1).f3), .slice A101_4 ((rd_T49 l0 a1).f4).length c101_4, .bool false, .string (⟨#[]⟩ : ByteArray)]) ?_ 5 _ rfl; (with_reducible repeat (first | refine kN ?_ _ | refine kD ?_ | refine kA ?_ _)); refine blk_put (cs := #[.string ((rd_T49 l0 a1).f0), .int .i64 ((rd_T49 l0 a1).f1), .int .i64 ((rd_T49 l0 a1).f2), .int .i64 ((rd_T49 l0 a1).f3), .slice none 0 0, .bool false, .string (⟨#[]⟩ : ByteArray)]) ?_ 4 _ rfl; (with_reducible repeat (first | refine kN ?_ _ | refine kD ?_ | refine kA ?_ _)); refine blk_put (cs := #[.string ((rd_T49 l0 a1).f0), .int .i64 ((rd_T49 l0 a1).f1), .int .i64 ((rd_T49 l0 a1).f2), .int .i64 0, .slice none 0 0, .bool false, .string (⟨#[]⟩ : ByteArray)]) ?_ 3 _ rfl; (with_reducible repeat (first | refine kN ?_ _ | refine kD ?_ | refine kA ?_ _)); refine blk_put (cs := #[.string ((rd_T49 l0 a1).f0), .int .i64 ((rd_T49 l0 a1).f1), .int .i64 0, .int .i64 0, .slice none 0 0, .bool false, .string (⟨#[]⟩ : ByteArray)]) ?_ 2 _ rfl; (with_reducible repeat (first | refine kN ?_ _ | refine kD ?_ | refine kA ?_ _)); refine blk_put (cs := #[.string ((rd_T49 l0 a1).f0), .int .i64 0, .int .i64 0, .int .i64 0, .slice none 0 0, .bool false, .string (⟨#[]⟩ : ByteArray)]) ?_ 1 _ rfl; (with_reducible repeat (first | refine kN ?_ _ | refine kD ?_ | refine kA ?_ _)); refine blk_put (cs := #[.string (⟨#[]⟩ : ByteArray), .int .i64 0, .int .i64 0, .int .i64 0, .slice none 0 0, .bool false, .string (⟨#[]⟩ : ByteArray)]) ?_ 0 _ rfl; (with_reducible repeat (first | refine kN ?_ _ | refine kD ?_ | refine kA ?_ _)); exact BK102.out⟩, ⟨by repeat (first | (with_reducible first | exact HB.out | apply bA | apply bN | apply bD | refine below_set ?_ GE102.out) | exact HB.out)⟩⟩
   case rest =>
    clear HC5; (try clear c1); (try clear p1); (try clear q1); (try clear hx1); (try clear p2); (try clear c3); (try clear c3b0); (try clear c4); (try clear c4b0); (try clear c9); (try clear c10); (try clear p10); (try clear q10); (try clear hx10); (try clear c11); (try clear c11b0); (try clear c11b1); (try clear hcz13_0); (try clear hcz13_1); (try clear hcz13_2); (try clear hcz13_3); (try clear hcz13_4); (try clear hcz13_5); (try clear hcz13_6); (try clear hcz14_0); (try clear hcz14_1); (try clear hcz14_2); (try clear hcz14_3); (try clear hcz14_4); (try clear hcz14_5); (try clear hcz14_6); (try clear hcz15_0); (try clear hcz15_1); (try clear hcz15_2); (try clear hcz15_3); (try clear hcz15_4); (try clear hcz15_5); (try clear hcz15_6); (try clear hcz7_0); (try clear hcz7_1); (try clear hcz7_2); (try clear hcz7_3); (try clear hcz7_4); (try clear hcz7_5); (try clear hcz7_6); (try clear hfz13_0); (try clear hfz13_1); (try clear hfz13_2); (try clear hfz13_3); (try clear hfz13_4); (try clear hfz13_5); (try clear hfz13_6); (try clear hfz14_0); (try clear hfz14_1); (try clear hfz14_2); (try clear hfz14_3); (try clear hfz14_4); (try clear hfz14_5); (try clear hfz14_6); (try clear hfz15_0); (try clear hfz15_1); (try clear hfz15_2); (try clear hfz15_3); (try clear hfz15_4); (try clear hfz15_5); (try clear hfz15_6); (try clear hfz7_0); (try clear hfz7_1); (try clear hfz7_2); (try clear hfz7_3); (try clear hfz7_4); (try clear hfz7_5); (try clear hfz7_6); (try clear hx101_0); (try clear hx101_1); (try clear hx101_2); (try clear hx101_3); (try clear hx101_4); (try clear hx101_5); (try clear hx101_6); (try clear p101); (try clear q101); (obtain ⟨kq, x28_4, rfl, HA, HJ4, BK102, HB⟩ := hcut)
    cases kq with
    | zero => exact absurd HA.out (by simp [spec_l23Field.j0])
    | succ kj4 =>
     (have H := HA.out); clear HA; (simp only [spec_l23Field.j0] at H); (by_cases c16 : x28_4 = true); (· subst c16; (rw [if_pos rfl] at H); (obtain rfl := Option.some.inj H); (go_wp2); go_ret; (exact ⟨rfl, eI HB⟩))
     ·replace c16 := Bool.eq_false_iff.mpr c16
      subst c16; (rw [if_neg (show ¬ (false = true) by decide)] at H); (have HC17 := Aside0.mk H); clear H; (have hcz18_0 := cz BK102.out 0); (have hcz18_1 := cz BK102.out 1); (have hcz18_2 := cz BK102.out 2); (have hcz18_3 := cz BK102.out 3); (have hcz18_4 := cz BK102.out 4); (have hcz18_5 := cz BK102.out 5); (have hcz18_6 := cz BK102.out 6); (have hfz18_0 := blk_frozen BK102.out 0); (have hfz18_1 := blk_frozen BK102.out 1); (have hfz18_2 := blk_frozen BK102.out 2); (have hfz18_3 := blk_frozen BK102.out 3); (have hfz18_4 := blk_frozen BK102.out 4); (have hfz18_5 := blk_frozen BK102.out 5); (have hfz18_6 := blk_frozen BK102.out 6); (go_upto_if 31 with (fail)); (go_cut [] (fun wc => ∃ (kq : Nat), Aside0 (spec_l23Field.j1 kq ((rd_T49 l0 a1).f0) ((rd_T49 l0 a1).f1) ((rd_T49 l0 a1).f2) ((rd_T49 l0 a1).f3) ((rd_T49 l0 a1).f4) ((rd_T49 l0 a1).f5) ((rd_T49 l0 a1).f6) = some r) ∧ Aside0 (kq ≤ kj4) ∧ Aside0 (wc.heap[gb102]? = some (.cells #[.string ((rd_T49 l0 a1).f0), .int .i64 ((rd_T49 l0 a1).f1), .int .i64 ((rd_T49 l0 a1).f2), .int .i64 ((rd_T49 l0 a1).f3), (.slice A101_4 ((rd_T49 l0 a1).f4).length c101_4), .bool ((rd_T49 l0 a1).f5), .string ((rd_T49 l0 a1).f6)] 49 (0, 0))) ∧ Aside0 (Below w.heap.size w wc)))
      case first =>
       (have H := HC17.out); clear HC17; (by_cases c19 : ((rd_T49 l0 a1).f6).toList = ([] : List UInt8))
       ·rw [if_pos c19] at H
        (have c19b0 : ((rd_T49 l0 a1).f6).toList.isEmpty = true := List.isEmpty_iff.mpr c19); (have c19b1 : (!((rd_T49 l0 a1).f6).toList.isEmpty) = false := by rw [List.isEmpty_iff.mpr c19]; rfl); (have c19b2 : (((rd_T49 l0 a1).f6).toList == ([] : List UInt8)) = true := beq_iff_eq.mpr c19); (have c19b3 : (((rd_T49 l0 a1).f6).toList != ([] : List UInt8)) = false := bne_eq_false_iff_eq.mpr c19); clear c19; ((first | rw [c19b0] | (simp only [i64_w, i32_w]; rw [c19b0]) | skip)); (have H' := Aside0.mk H); clear H; (go_wp2); (go_meet)
        case rel => exact ⟨_, H', ⟨by have := HJ4.out; first | omega | exact Nat.le_refl _⟩, ⟨kI BK102⟩, ⟨eI HB⟩⟩
       ·rw [if_neg c19] at H
        (have c19b0 : ((rd_T49 l0 a1).f6).toList.isEmpty = false := by rw [Bool.eq_false_iff]; exact fun h_ => c19 (List.isEmpty_iff.mp h_)); (have c19b1 : (!((rd_T49 l0 a1).f6).toList.isEmpty) = true := by rw [show ((rd_T49 l0 a1).f6).toList.isEmpty = false from by rw [Bool.eq_false_iff]; exact fun h_ => c19 (List.isEmpty_iff.mp h_)]; rfl); (have c19b2 : (((rd_T49 l0 a1).f6).toList == ([] : List UInt8)) = false := beq_eq_false_iff_ne.mpr c19); (have c19b3 : (((rd_T49 l0 a1).f6).toList != ([] : List UInt8)) = true := bne_iff_ne.mpr c19); ((first | rw [c19b0] | (simp only [i64_w, i32_w]; rw [c19b0]) | skip)); (replace H := obS H); (obtain ⟨t106, A20, H⟩ := H); (by_cases c21 : t106 < 0)
        ·rw [if_pos c21] at H
         (have c21b0 := decide_eq_true c21); clear c21; (obtain rfl := Option.some.inj H); (have hcz22_0 := cz BK102.out 0); (have hcz22_1 := cz BK102.out 1); (have hcz22_2 := cz BK102.out 2); (have hcz22_3 := cz BK102.out 3); (have hcz22_4 := cz BK102.out 4); (have hcz22_5 := cz BK102.out 5); (have hcz22_6 := cz BK102.out 6); (have hfz22_0 := blk_frozen BK102.out 0); (have hfz22_1 := blk_frozen BK102.out 1); (have hfz22_2 := blk_frozen BK102.out 2); (have hfz22_3 := blk_frozen BK102.out 3); (have hfz22_4 := blk_frozen BK102.out 4); (have hfz22_5 := blk_frozen BK102.out 5); (have hfz22_6 := blk_frozen BK102.out 6); (go_wp2_with (first | ((with_reducible refine gate_callee (f := 19) rfl ?_); refine gL (some 35) Try.func19 #[.slice (some ad101) l0.length c0, .string ((rd_T49 l0 a1).f6)] ?_; (with_reducible refine (spec_l23Find.calls kj4 _ _ l0 ((rd_T49 l0 a1).f6) t106 _ ?side1 ?side2 A20.out).mono ?_); (case side1 => exact Kd.C_below HR0.out (eI HB)); (case side2 => exact HC0.out); rintro e w' ⟨rfl, ⟨nd, rfl⟩⟩; refine ⟨_, rfl, ?_⟩))); go_ret; (exact ⟨rfl, eI HB⟩)
        ·rw [if_neg c21] at H
         (have c21b0 := decide_eq_false c21); clear c21; (by_cases c23 : t106 ≥ a1)
         ·rw [if_pos c23] at H
          (have c23b0 : decide (a1 ≤ t106) = true := decide_eq_true c23); clear c23; (obtain rfl := Option.some.inj H); (have hcz24_0 := cz BK102.out 0); (have hcz24_1 := cz BK102.out 1); (have hcz24_2 := cz BK102.out 2); (have hcz24_3 := cz BK102.out 3); (have hcz24_4 := cz BK102.out 4); (have hcz24_5 := cz BK102.out 5); (have hcz24_6 := cz BK102.out 6); (have hfz24_0 := blk_frozen BK102.out 0); (have hfz24_1 := blk_frozen BK102.out 1); (have hfz24_2 := blk_frozen BK102.out 2); (have hfz24_3 := blk_frozen BK102.out 3); (have hfz24_4 := blk_frozen BK102.out 4); (have hfz24_5 := blk_frozen BK102.out 5); (have hfz24_6 := blk_frozen BK102.out 6); (go_wp2_with (first | ((with_reducible refine gate_callee (f := 19) rfl ?_); refine gL (some 35) Try.func19 #[.slice (some ad101) l0.length c0, .string ((rd_T49 l0 a1).f6)] ?_; (with_reducible refine (spec_l23Find.calls kj4 _ _ l0 ((rd_T49 l0 a1).f6) t106 _ ?side1 ?side2 A20.out).mono ?_); (case side1 => exact Kd.C_below HR0.out (eI HB)); (case side2 => exact HC0.out); rintro e w' ⟨rfl, ⟨nd, rfl⟩⟩; refine ⟨_, rfl, ?_⟩))); go_ret; (exact ⟨rfl, eI HB⟩)
         ·rw [if_neg c23] at H
          (have c23b0 : decide (a1 ≤ t106) = false := decide_eq_false c23); clear c23; (by_cases c25 : 0 ≤ t106)
          ·rw [if_pos c25] at H
           (have c25b0 := decide_eq_true c25); clear c25; (by_cases c26 : t106 < (l0.length : Int))
           ·rw [if_pos c26] at H
            (have c26b0 := decide_eq_true c26); clear c26; (by_cases c27 : ((rd_T49 l0 t106).f1) = 4)
            ·rw [if_pos c27] at H
             (have c27b0 : (((rd_T49 l0 t106).f1) == 4) = true := beq_iff_eq.mpr c27); (have c27b1 : (((rd_T49 l0 t106).f1) != 4) = false := bne_eq_false_iff_eq.mpr c27); clear c27; (have H' := Aside0.mk H); clear H; (have hcz28_0 := cz BK102.out 0); (have hcz28_1 := cz BK102.out 1); (have hcz28_2 := cz BK102.out 2); (have hcz28_3 := cz BK102.out 3); (have hcz28_4 := cz BK102.out 4); (have hcz28_5 := cz BK102.out 5); (have hcz28_6 := cz BK102.out 6); (have hfz28_0 := blk_frozen BK102.out 0); (have hfz28_1 := blk_frozen BK102.out 1); (have hfz28_2 := blk_frozen BK102.out 2); (have hfz28_3 := blk_frozen BK102.out 3); (have hfz28_4 := blk_frozen BK102.out 4); (have hfz28_5 := blk_frozen BK102.out 5); (have hfz28_6 := blk_frozen BK102.out 6); (go_wp2_with (first | ((with_reducible refine gate_callee (f := 19) rfl ?_); refine gL (some 35) Try.func19 #[.slice (some ad101) l0.length c0, .string ((rd_T49 l0 a1).f6)] ?_; (with_reducible refine (spec_l23Find.calls kj4 _ _ l0 ((rd_T49 l0 a1).f6) t106 _ ?side1 ?side2 A20.out).mono ?_); (case side1 => exact Kd.C_below HR0.out (eI HB)); (case side2 => exact HC0.out); rintro e w' ⟨rfl, ⟨nd, rfl⟩⟩; refine ⟨_, rfl, ?_⟩; have p107 : 0 ≤ (t106 : Int) := odt; have q107 : t106 < (l0.length : Int) := odt; obtain ⟨ad107, A107_4, c107_4, e107, hx107_0, hx107_1, hx107_2, hx107_3, hx107_4, hx107_5, hx107_6, hl107_4, hi107_4⟩ := at_T49 HR0.out t106 p107 q107; obtain rfl : ad101 = ad107 := (by injection e107); replace hx107_0 := hcI HB hx107_0; replace hx107_1 := hcI HB hx107_1; replace hx107_2 := hcI HB hx107_2; replace hx107_3 := hcI HB hx107_3; replace hx107_4 := hcI HB hx107_4; replace hx107_5 := hcI HB hx107_5; replace hx107_6 := hcI HB hx107_6; have HR107_4 := Aside0.mk hi107_4; have HC107_4 := Aside0.mk hl107_4; clear hi107_4 hl107_4; replace p107 := eq_true p107; replace q107 := eq_true q107))); (go_meet)
             case rel => exact ⟨_, H', ⟨by have := HJ4.out; first | omega | exact Nat.le_refl _⟩, ⟨kI BK102⟩, ⟨eI HB⟩⟩
            ·rw [if_neg c27] at H
             (have c27b0 : (((rd_T49 l0 t106).f1) == 4) = false := beq_eq_false_iff_ne.mpr c27); (have c27b1 : (((rd_T49 l0 t106).f1) != 4) = true := bne_iff_ne.mpr c27); (obtain rfl := Option.some.inj H); (have hcz29_0 := cz BK102.out 0); (have hcz29_1 := cz BK102.out 1); (have hcz29_2 := cz BK102.out 2); (have hcz29_3 := cz BK102.out 3); (have hcz29_4 := cz BK102.out 4); (have hcz29_5 := cz BK102.out 5); (have hcz29_6 := cz BK102.out 6); (have hfz29_0 := blk_frozen BK102.out 0); (have hfz29_1 := blk_frozen BK102.out 1); (have hfz29_2 := blk_frozen BK102.out 2); (have hfz29_3 := blk_frozen BK102.out 3); (have hfz29_4 := blk_frozen BK102.out 4); (have hfz29_5 := blk_frozen BK102.out 5); (have hfz29_6 := blk_frozen BK102.out 6); (go_wp2_with (first | ((with_reducible refine gate_callee (f := 19) rfl ?_); refine gL (some 35) Try.func19 #[.slice (some ad101) l0.length c0, .string ((rd_T49 l0 a1).f6)] ?_; (with_reducible refine (spec_l23Find.calls kj4 _ _ l0 ((rd_T49 l0 a1).f6) t106 _ ?side1 ?side2 A20.out).mono ?_); (case side1 => exact Kd.C_below HR0.out (eI HB)); (case side2 => exact HC0.out); rintro e w' ⟨rfl, ⟨nd, rfl⟩⟩; refine ⟨_, rfl, ?_⟩; have p107 : 0 ≤ (t106 : Int) := odt; have q107 : t106 < (l0.length : Int) := odt; obtain ⟨ad107, A107_4, c107_4, e107, hx107_0, hx107_1, hx107_2, hx107_3, hx107_4, hx107_5, hx107_6, hl107_4, hi107_4⟩ := at_T49 HR0.out t106 p107 q107; obtain rfl : ad101 = ad107 := (by injection e107); replace hx107_0 := hcI HB hx107_0; replace hx107_1 := hcI HB hx107_1; replace hx107_2 := hcI HB hx107_2; replace hx107_3 := hcI HB hx107_3; replace hx107_4 := hcI HB hx107_4; replace hx107_5 := hcI HB hx107_5; replace hx107_6 := hcI HB hx107_6; have HR107_4 := Aside0.mk hi107_4; have HC107_4 := Aside0.mk hl107_4; clear hi107_4 hl107_4; replace p107 := eq_true p107; replace q107 := eq_true q107))); go_ret; (exact ⟨rfl, eI HB⟩)
           ·rw [if_neg c26] at H
            exact absurd H (by simp)
          ·rw [if_neg c25] at H
           exact absurd H (by simp)
      case rest =>
       clear HC17; (try clear c1); (try clear p1); (try clear q1); (try clear hx1); (try clear c2); (try clear p2); (try clear c3); (try clear c3b0); (try clear c4); (try clear c4b0); (try clear c9); (try clear c10); (try clear p10); (try clear q10); (try clear hx10); (try clear c11); (try clear c11b0); (try clear c11b1); (try clear c16); (try clear c19); (try clear c19b0); (try clear c19b1); (try clear c19b2); (try clear c21); (try clear c21b0); (try clear c23); (try clear c23b0); (try clear c25); (try clear c25b0); (try clear c26); (try clear c26b0); (try clear c27); (try clear c27b0); (try clear c27b1); (try clear hcz13_0); (try clear hcz13_1); (try clear hcz13_2); (try clear hcz13_3); (try clear hcz13_4); (try clear hcz13_5); (try clear hcz13_6); (try clear hcz14_0); (try clear hcz14_1); (try clear hcz14_2); (try clear hcz14_3); (try clear hcz14_4); (try clear hcz14_5); (try clear hcz14_6); (try clear hcz15_0); (try clear hcz15_1); (try clear hcz15_2); (try clear hcz15_3); (try clear hcz15_4); (try clear hcz15_5); (try clear hcz15_6); (try clear hcz18_0); (try clear hcz18_1); (try clear hcz18_2); (try clear hcz18_3); (try clear hcz18_4); (try clear hcz18_5); (try clear hcz18_6); (try clear hcz22_0); (try clear hcz22_1); (try clear hcz22_2); (try clear hcz22_3); (try clear hcz22_4); (try clear hcz22_5); (try clear hcz22_6); (try clear hcz24_0); (try clear hcz24_1); (try clear hcz24_2); (try clear hcz24_3); (try clear hcz24_4); (try clear hcz24_5); (try clear hcz24_6); (try clear hcz28_0); (try clear hcz28_1); (try clear hcz28_2); (try clear hcz28_3); (try clear hcz28_4); (try clear hcz28_5); (try clear hcz28_6); (try clear hcz29_0); (try clear hcz29_1); (try clear hcz29_2); (try clear hcz29_3); (try clear hcz29_4); (try clear hcz29_5); (try clear hcz29_6); (try clear hcz7_0); (try clear hcz7_1); (try clear hcz7_2); (try clear hcz7_3); (try clear hcz7_4); (try clear hcz7_5); (try clear hcz7_6); (try clear hfz13_0); (try clear hfz13_1); (try clear hfz13_2); (try clear hfz13_3); (try clear hfz13_4); (try clear hfz13_5); (try clear hfz13_6); (try clear hfz14_0); (try clear hfz14_1); (try clear hfz14_2); (try clear hfz14_3); (try clear hfz14_4); (try clear hfz14_5); (try clear hfz14_6); (try clear hfz15_0); (try clear hfz15_1); (try clear hfz15_2); (try clear hfz15_3); (try clear hfz15_4); (try clear hfz15_5); (try clear hfz15_6); (try clear hfz18_0); (try clear hfz18_1); (try clear hfz18_2); (try clear hfz18_3); (try clear hfz18_4); (try clear hfz18_5); (try clear hfz18_6); (try clear hfz22_0); (try clear hfz22_1); (try clear hfz22_2); (try clear hfz22_3); (try clear hfz22_4); (try clear hfz22_5); (try clear hfz22_6); (try clear hfz24_0); (try clear hfz24_1); (try clear hfz24_2); (try clear hfz24_3); (try clear hfz24_4); (try clear hfz24_5); (try clear hfz24_6); (try clear hfz28_0); (try clear hfz28_1); (try clear hfz28_2); (try clear hfz28_3); (try clear hfz28_4); (try clear hfz28_5); (try clear hfz28_6); (try clear hfz29_0); (try clear hfz29_1); (try clear hfz29_2); (try clear hfz29_3); (try clear hfz29_4); (try clear hfz29_5); (try clear hfz29_6); (try clear hfz7_0); (try clear hfz7_1); (try clear hfz7_2); (try clear hfz7_3); (try clear hfz7_4); (try clear hfz7_5); (try clear hfz7_6); (try clear hx101_0); (try clear hx101_1); (try clear hx101_2); (try clear hx101_3); (try clear hx101_4); (try clear hx101_5); (try clear hx101_6); (try clear hx107_0); (try clear hx107_1); (try clear hx107_2); (try clear hx107_3); (try clear hx107_4); (try clear hx107_5); (try clear hx107_6); (try clear p1); (try clear p10); (try clear p101); (try clear p107); (try clear p2); (try clear q1); (try clear q10); (try clear q101); (try clear q107); (obtain ⟨kq, HA, HJ16, BK102, HB⟩ := hcut)
       cases kq with
       | zero => exact absurd HA.out (by simp [spec_l23Field.j1])
       | succ kj16 =>
        (have H := HA.out); clear HA; (simp only [spec_l23Field.j1] at H); (by_cases c30 : ((rd_T49 l0 a1).f1) = 1)
        ·rw [if_pos c30] at H
         (have c30b0 : (((rd_T49 l0 a1).f1) == 1) = true := beq_iff_eq.mpr c30); (have c30b1 : (((rd_T49 l0 a1).f1) != 1) = false := bne_eq_false_iff_eq.mpr c30); clear c30; (replace H := obS H); (obtain ⟨t108, A31, H⟩ := H); (by_cases c32 : t108 = true)
         ·subst c32
          (rw [if_pos rfl] at H); (by_cases c33 : ((rd_T49 l0 a1).f3) ≤ 999999)
          ·rw [if_pos c33] at H
           (have c33b0 := decide_eq_true c33); clear c33; (obtain rfl := Option.some.inj H); (have hcz34_0 := cz BK102.out 0); (have hcz34_1 := cz BK102.out 1); (have hcz34_2 := cz BK102.out 2); (have hcz34_3 := cz BK102.out 3); (have hcz34_4 := cz BK102.out 4); (have hcz34_5 := cz BK102.out 5); (have hcz34_6 := cz BK102.out 6); (have hfz34_0 := blk_frozen BK102.out 0); (have hfz34_1 := blk_frozen BK102.out 1); (have hfz34_2 := blk_frozen BK102.out 2); (have hfz34_3 := blk_frozen BK102.out 3); (have hfz34_4 := blk_frozen BK102.out 4); (have hfz34_5 := blk_frozen BK102.out 5); (have hfz34_6 := blk_frozen BK102.out 6); (go_wp2_with (first | ((with_reducible refine gate_callee (f := 48) rfl ?_); refine gL (some 59) Try.func48 #[.int .i64 ((rd_T49 l0 a1).f2), .int .i64 (-999999), .int .i64 ((rd_T49 l0 a1).f3)] ?_; (with_reducible refine (spec_l1In.calls ((rd_T49 l0 a1).f2) (-999999) ((rd_T49 l0 a1).f3) true _ A31.out).mono ?_); rintro e w' ⟨rfl, ⟨nd, rfl⟩⟩; refine ⟨_, rfl, ?_⟩))); go_ret; (exact ⟨rfl, eI HB⟩)
          ·rw [if_neg c33] at H
           (have c33b0 := decide_eq_false c33); clear c33; (obtain rfl := Option.some.inj H); (have hcz35_0 := cz BK102.out 0); (have hcz35_1 := cz BK102.out 1); (have hcz35_2 := cz BK102.out 2); (have hcz35_3 := cz BK102.out 3); (have hcz35_4 := cz BK102.out 4); (have hcz35_5 := cz BK102.out 5); (have hcz35_6 := cz BK102.out 6); (have hfz35_0 := blk_frozen BK102.out 0); (have hfz35_1 := blk_frozen BK102.out 1); (have hfz35_2 := blk_frozen BK102.out 2); (have hfz35_3 := blk_frozen BK102.out 3); (have hfz35_4 := blk_frozen BK102.out 4); (have hfz35_5 := blk_frozen BK102.out 5); (have hfz35_6 := blk_frozen BK102.out 6); (go_wp2_with (first | ((with_reducible refine gate_callee (f := 48) rfl ?_); refine gL (some 59) Try.func48 #[.int .i64 ((rd_T49 l0 a1).f2), .int .i64 (-999999), .int .i64 ((rd_T49 l0 a1).f3)] ?_; (with_reducible refine (spec_l1In.calls ((rd_T49 l0 a1).f2) (-999999) ((rd_T49 l0 a1).f3) true _ A31.out).mono ?_); rintro e w' ⟨rfl, ⟨nd, rfl⟩⟩; refine ⟨_, rfl, ?_⟩))); go_ret; (exact ⟨rfl, eI HB⟩)
         ·replace c32 := Bool.eq_false_iff.mpr c32
          subst c32; (rw [if_neg (show ¬ (false = true) by decide)] at H); (obtain rfl := Option.some.inj H); (have hcz36_0 := cz BK102.out 0); (have hcz36_1 := cz BK102.out 1); (have hcz36_2 := cz BK102.out 2); (have hcz36_3 := cz BK102.out 3); (have hcz36_4 := cz BK102.out 4); (have hcz36_5 := cz BK102.out 5); (have hcz36_6 := cz BK102.out 6); (have hfz36_0 := blk_frozen BK102.out 0); (have hfz36_1 := blk_frozen BK102.out 1); (have hfz36_2 := blk_frozen BK102.out 2); (have hfz36_3 := blk_frozen BK102.out 3); (have hfz36_4 := blk_frozen BK102.out 4); (have hfz36_5 := blk_frozen BK102.out 5); (have hfz36_6 := blk_frozen BK102.out 6); (go_wp2_with (first | ((with_reducible refine gate_callee (f := 48) rfl ?_); refine gL (some 59) Try.func48 #[.int .i64 ((rd_T49 l0 a1).f2), .int .i64 (-999999), .int .i64 ((rd_T49 l0 a1).f3)] ?_; (with_reducible refine (spec_l1In.calls ((rd_T49 l0 a1).f2) (-999999) ((rd_T49 l0 a1).f3) false _ A31.out).mono ?_); rintro e w' ⟨rfl, ⟨nd, rfl⟩⟩; refine ⟨_, rfl, ?_⟩))); go_ret; (exact ⟨rfl, eI HB⟩)
        ·rw [if_neg c30] at H
         (have c30b0 : (((rd_T49 l0 a1).f1) == 1) = false := beq_eq_false_iff_ne.mpr c30); (have c30b1 : (((rd_T49 l0 a1).f1) != 1) = true := bne_iff_ne.mpr c30); (by_cases c37 : ((rd_T49 l0 a1).f1) = 2)
         ·rw [if_pos c37] at H
          (have c37b0 : (((rd_T49 l0 a1).f1) == 2) = true := beq_iff_eq.mpr c37); (have c37b1 : (((rd_T49 l0 a1).f1) != 2) = false := bne_eq_false_iff_eq.mpr c37); clear c37; (replace H := obS H); (obtain ⟨t109, A38, H⟩ := H); (by_cases c39 : t109 = true)
          ·subst c39
           (rw [if_pos rfl] at H); (by_cases c40 : ((rd_T49 l0 a1).f3) ≤ 40)
           ·rw [if_pos c40] at H
            (have c40b0 := decide_eq_true c40); clear c40; (obtain rfl := Option.some.inj H); (have hcz41_0 := cz BK102.out 0); (have hcz41_1 := cz BK102.out 1); (have hcz41_2 := cz BK102.out 2); (have hcz41_3 := cz BK102.out 3); (have hcz41_4 := cz BK102.out 4); (have hcz41_5 := cz BK102.out 5); (have hcz41_6 := cz BK102.out 6); (have hfz41_0 := blk_frozen BK102.out 0); (have hfz41_1 := blk_frozen BK102.out 1); (have hfz41_2 := blk_frozen BK102.out 2); (have hfz41_3 := blk_frozen BK102.out 3); (have hfz41_4 := blk_frozen BK102.out 4); (have hfz41_5 := blk_frozen BK102.out 5); (have hfz41_6 := blk_frozen BK102.out 6); (go_wp2_with (first | ((with_reducible refine gate_callee (f := 48) rfl ?_); refine gL (some 77) Try.func48 #[.int .i64 ((rd_T49 l0 a1).f2), .int .i64 0, .int .i64 ((rd_T49 l0 a1).f3)] ?_; (with_reducible refine (spec_l1In.calls ((rd_T49 l0 a1).f2) 0 ((rd_T49 l0 a1).f3) true _ A38.out).mono ?_); rintro e w' ⟨rfl, ⟨nd, rfl⟩⟩; refine ⟨_, rfl, ?_⟩))); go_ret; (exact ⟨rfl, eI HB⟩)
           ·rw [if_neg c40] at H
            (have c40b0 := decide_eq_false c40); clear c40; (obtain rfl := Option.some.inj H); (have hcz42_0 := cz BK102.out 0); (have hcz42_1 := cz BK102.out 1); (have hcz42_2 := cz BK102.out 2); (have hcz42_3 := cz BK102.out 3); (have hcz42_4 := cz BK102.out 4); (have hcz42_5 := cz BK102.out 5); (have hcz42_6 := cz BK102.out 6); (have hfz42_0 := blk_frozen BK102.out 0); (have hfz42_1 := blk_frozen BK102.out 1); (have hfz42_2 := blk_frozen BK102.out 2); (have hfz42_3 := blk_frozen BK102.out 3); (have hfz42_4 := blk_frozen BK102.out 4); (have hfz42_5 := blk_frozen BK102.out 5); (have hfz42_6 := blk_frozen BK102.out 6); (go_wp2_with (first | ((with_reducible refine gate_callee (f := 48) rfl ?_); refine gL (some 77) Try.func48 #[.int .i64 ((rd_T49 l0 a1).f2), .int .i64 0, .int .i64 ((rd_T49 l0 a1).f3)] ?_; (with_reducible refine (spec_l1In.calls ((rd_T49 l0 a1).f2) 0 ((rd_T49 l0 a1).f3) true _ A38.out).mono ?_); rintro e w' ⟨rfl, ⟨nd, rfl⟩⟩; refine ⟨_, rfl, ?_⟩))); go_ret; (exact ⟨rfl, eI HB⟩)
          ·replace c39 := Bool.eq_false_iff.mpr c39
           subst c39; (rw [if_neg (show ¬ (false = true) by decide)] at H); (obtain rfl := Option.some.inj H); (have hcz43_0 := cz BK102.out 0); (have hcz43_1 := cz BK102.out 1); (have hcz43_2 := cz BK102.out 2); (have hcz43_3 := cz BK102.out 3); (have hcz43_4 := cz BK102.out 4); (have hcz43_5 := cz BK102.out 5); (have hcz43_6 := cz BK102.out 6); (have hfz43_0 := blk_frozen BK102.out 0); (have hfz43_1 := blk_frozen BK102.out 1); (have hfz43_2 := blk_frozen BK102.out 2); (have hfz43_3 := blk_frozen BK102.out 3); (have hfz43_4 := blk_frozen BK102.out 4); (have hfz43_5 := blk_frozen BK102.out 5); (have hfz43_6 := blk_frozen BK102.out 6); (go_wp2_with (first | ((with_reducible refine gate_callee (f := 48) rfl ?_); refine gL (some 77) Try.func48 #[.int .i64 ((rd_T49 l0 a1).f2), .int .i64 0, .int .i64 ((rd_T49 l0 a1).f3)] ?_; (with_reducible refine (spec_l1In.calls ((rd_T49 l0 a1).f2) 0 ((rd_T49 l0 a1).f3) false _ A38.out).mono ?_); rintro e w' ⟨rfl, ⟨nd, rfl⟩⟩; refine ⟨_, rfl, ?_⟩))); go_ret; (exact ⟨rfl, eI HB⟩)
         ·rw [if_neg c37] at H
          (have c37b0 : (((rd_T49 l0 a1).f1) == 2) = false := beq_eq_false_iff_ne.mpr c37); (have c37b1 : (((rd_T49 l0 a1).f1) != 2) = true := bne_iff_ne.mpr c37); (by_cases c44 : ((rd_T49 l0 a1).f1) = 3)
          ·rw [if_pos c44] at H
           (have c44b0 : (((rd_T49 l0 a1).f1) == 3) = true := beq_iff_eq.mpr c44); (have c44b1 : (((rd_T49 l0 a1).f1) != 3) = false := bne_eq_false_iff_eq.mpr c44); clear c44; (by_cases c45 : ((rd_T49 l0 a1).f2) = 0)
           ·rw [if_pos c45] at H
            (have c45b0 : (((rd_T49 l0 a1).f2) == 0) = true := beq_iff_eq.mpr c45); (have c45b1 : (((rd_T49 l0 a1).f2) != 0) = false := bne_eq_false_iff_eq.mpr c45); clear c45; (by_cases c46 : ((rd_T49 l0 a1).f3) = 0)
            ·rw [if_pos c46] at H
             (have c46b0 : (((rd_T49 l0 a1).f3) == 0) = true := beq_iff_eq.mpr c46); (have c46b1 : (((rd_T49 l0 a1).f3) != 0) = false := bne_eq_false_iff_eq.mpr c46); clear c46; (replace H := obS H); (obtain ⟨t110, A47, H⟩ := H); (by_cases c48 : t110 = true)
             ·subst c48
              (rw [if_pos rfl] at H); (replace H := obS H); (obtain ⟨t111, A49, H⟩ := H); (obtain rfl := Option.some.inj H); (have hcz50_0 := cz BK102.out 0); (have hcz50_1 := cz BK102.out 1); (have hcz50_2 := cz BK102.out 2); (have hcz50_3 := cz BK102.out 3); (have hcz50_4 := cz BK102.out 4); (have hcz50_5 := cz BK102.out 5); (have hcz50_6 := cz BK102.out 6); (have hfz50_0 := blk_frozen BK102.out 0); (have hfz50_1 := blk_frozen BK102.out 1); (have hfz50_2 := blk_frozen BK102.out 2); (have hfz50_3 := blk_frozen BK102.out 3); (have hfz50_4 := blk_frozen BK102.out 4); (have hfz50_5 := blk_frozen BK102.out 5); (have hfz50_6 := blk_frozen BK102.out 6); (go_wp2_with (first | (go_at_call 48; (with_reducible refine (spec_l1In.calls (((rd_T49 l0 a1).f4).length : Int) 1 6 true _ A47.out).mono ?_); rintro e w' ⟨rfl, ⟨nd, rfl⟩⟩) | (go_at_call 49; (with_reducible refine (spec_l23Names.calls kj16 _ _ ((rd_T49 l0 a1).f4) t111 _ ?side1 ?side2 A49.out).mono ?_); (case side1 => exact Kd.C_below HR101_4.out (eI HB)); (case side2 => exact HC101_4.out); rintro e w' ⟨rfl, ⟨nd, rfl⟩⟩))); go_ret; (exact ⟨rfl, eI HB⟩)
             ·replace c48 := Bool.eq_false_iff.mpr c48
              subst c48; (rw [if_neg (show ¬ (false = true) by decide)] at H); (obtain rfl := Option.some.inj H); (have hcz51_0 := cz BK102.out 0); (have hcz51_1 := cz BK102.out 1); (have hcz51_2 := cz BK102.out 2); (have hcz51_3 := cz BK102.out 3); (have hcz51_4 := cz BK102.out 4); (have hcz51_5 := cz BK102.out 5); (have hcz51_6 := cz BK102.out 6); (have hfz51_0 := blk_frozen BK102.out 0); (have hfz51_1 := blk_frozen BK102.out 1); (have hfz51_2 := blk_frozen BK102.out 2); (have hfz51_3 := blk_frozen BK102.out 3); (have hfz51_4 := blk_frozen BK102.out 4); (have hfz51_5 := blk_frozen BK102.out 5); (have hfz51_6 := blk_frozen BK102.out 6); (go_wp2_with (first | (go_at_call 48; (with_reducible refine (spec_l1In.calls (((rd_T49 l0 a1).f4).length : Int) 1 6 false _ A47.out).mono ?_); rintro e w' ⟨rfl, ⟨nd, rfl⟩⟩))); go_ret; (exact ⟨rfl, eI HB⟩)
            ·rw [if_neg c46] at H
             (have c46b0 : (((rd_T49 l0 a1).f3) == 0) = false := beq_eq_false_iff_ne.mpr c46); (have c46b1 : (((rd_T49 l0 a1).f3) != 0) = true := bne_iff_ne.mpr c46); (obtain rfl := Option.some.inj H); (have hcz52_0 := cz BK102.out 0); (have hcz52_1 := cz BK102.out 1); (have hcz52_2 := cz BK102.out 2); (have hcz52_3 := cz BK102.out 3); (have hcz52_4 := cz BK102.out 4); (have hcz52_5 := cz BK102.out 5); (have hcz52_6 := cz BK102.out 6); (have hfz52_0 := blk_frozen BK102.out 0); (have hfz52_1 := blk_frozen BK102.out 1); (have hfz52_2 := blk_frozen BK102.out 2); (have hfz52_3 := blk_frozen BK102.out 3); (have hfz52_4 := blk_frozen BK102.out 4); (have hfz52_5 := blk_frozen BK102.out 5); (have hfz52_6 := blk_frozen BK102.out 6); (go_wp2); go_ret; (exact ⟨rfl, eI HB⟩)
           ·rw [if_neg c45] at H
            (have c45b0 : (((rd_T49 l0 a1).f2) == 0) = false := beq_eq_false_iff_ne.mpr c45); (have c45b1 : (((rd_T49 l0 a1).f2) != 0) = true := bne_iff_ne.mpr c45); (obtain rfl := Option.some.inj H); (have hcz53_0 := cz BK102.out 0); (have hcz53_1 := cz BK102.out 1); (have hcz53_2 := cz BK102.out 2); (have hcz53_3 := cz BK102.out 3); (have hcz53_4 := cz BK102.out 4); (have hcz53_5 := cz BK102.out 5); (have hcz53_6 := cz BK102.out 6); (have hfz53_0 := blk_frozen BK102.out 0); (have hfz53_1 := blk_frozen BK102.out 1); (have hfz53_2 := blk_frozen BK102.out 2); (have hfz53_3 := blk_frozen BK102.out 3); (have hfz53_4 := blk_frozen BK102.out 4); (have hfz53_5 := blk_frozen BK102.out 5); (have hfz53_6 := blk_frozen BK102.out 6); (go_wp2); go_ret; (exact ⟨rfl, eI HB⟩)
          ·rw [if_neg c44] at H
           (have c44b0 : (((rd_T49 l0 a1).f1) == 3) = false := beq_eq_false_iff_ne.mpr c44); (have c44b1 : (((rd_T49 l0 a1).f1) != 3) = true := bne_iff_ne.mpr c44); (by_cases c54 : ((rd_T49 l0 a1).f2) = 0)
           ·rw [if_pos c54] at H
            (have c54b0 : (((rd_T49 l0 a1).f2) == 0) = true := beq_iff_eq.mpr c54); (have c54b1 : (((rd_T49 l0 a1).f2) != 0) = false := bne_eq_false_iff_eq.mpr c54); clear c54; (by_cases c55 : ((rd_T49 l0 a1).f3) = 0)
            ·rw [if_pos c55] at H
             (have c55b0 : (((rd_T49 l0 a1).f3) == 0) = true := beq_iff_eq.mpr c55); (have c55b1 : (((rd_T49 l0 a1).f3) != 0) = false := bne_eq_false_iff_eq.mpr c55); clear c55; (obtain rfl := Option.some.inj H); (have hcz56_0 := cz BK102.out 0); (have hcz56_1 := cz BK102.out 1); (have hcz56_2 := cz BK102.out 2); (have hcz56_3 := cz BK102.out 3); (have hcz56_4 := cz BK102.out 4); (have hcz56_5 := cz BK102.out 5); (have hcz56_6 := cz BK102.out 6); (have hfz56_0 := blk_frozen BK102.out 0); (have hfz56_1 := blk_frozen BK102.out 1); (have hfz56_2 := blk_frozen BK102.out 2); (have hfz56_3 := blk_frozen BK102.out 3); (have hfz56_4 := blk_frozen BK102.out 4); (have hfz56_5 := blk_frozen BK102.out 5); (have hfz56_6 := blk_frozen BK102.out 6); (go_wp2); go_ret; (exact ⟨rfl, eI HB⟩)
            ·rw [if_neg c55] at H
             (have c55b0 : (((rd_T49 l0 a1).f3) == 0) = false := beq_eq_false_iff_ne.mpr c55); (have c55b1 : (((rd_T49 l0 a1).f3) != 0) = true := bne_iff_ne.mpr c55); (obtain rfl := Option.some.inj H); (have hcz57_0 := cz BK102.out 0); (have hcz57_1 := cz BK102.out 1); (have hcz57_2 := cz BK102.out 2); (have hcz57_3 := cz BK102.out 3); (have hcz57_4 := cz BK102.out 4); (have hcz57_5 := cz BK102.out 5); (have hcz57_6 := cz BK102.out 6); (have hfz57_0 := blk_frozen BK102.out 0); (have hfz57_1 := blk_frozen BK102.out 1); (have hfz57_2 := blk_frozen BK102.out 2); (have hfz57_3 := blk_frozen BK102.out 3); (have hfz57_4 := blk_frozen BK102.out 4); (have hfz57_5 := blk_frozen BK102.out 5); (have hfz57_6 := blk_frozen BK102.out 6); (go_wp2); go_ret; (exact ⟨rfl, eI HB⟩)
           ·rw [if_neg c54] at H
            (have c54b0 : (((rd_T49 l0 a1).f2) == 0) = false := beq_eq_false_iff_ne.mpr c54); (have c54b1 : (((rd_T49 l0 a1).f2) != 0) = true := bne_iff_ne.mpr c54); (obtain rfl := Option.some.inj H); (have hcz58_0 := cz BK102.out 0); (have hcz58_1 := cz BK102.out 1); (have hcz58_2 := cz BK102.out 2); (have hcz58_3 := cz BK102.out 3); (have hcz58_4 := cz BK102.out 4); (have hcz58_5 := cz BK102.out 5); (have hcz58_6 := cz BK102.out 6); (have hfz58_0 := blk_frozen BK102.out 0); (have hfz58_1 := blk_frozen BK102.out 1); (have hfz58_2 := blk_frozen BK102.out 2); (have hfz58_3 := blk_frozen BK102.out 3); (have hfz58_4 := blk_frozen BK102.out 4); (have hfz58_5 := blk_frozen BK102.out 5); (have hfz58_6 := blk_frozen BK102.out 6); (go_wp2); go_ret; (exact ⟨rfl, eI HB⟩)
  ·rw [if_neg c4] at H
   exact absurd H (by simp)
 ·rw [if_neg c3] at H
  exact absurd H (by simp)
/-! ### spec_l23Good: function 33 -/
def spec_l23Good.l0 : Nat → List (S49) → Int → Option (Bool)
 | 0, _, _ => none
 | k + 1, x0, x3 => if x3 < (x0.length : Int) then ((spec_l23Field.f k x0 x3).bind fun t101 => (if t101 = true then (spec_l23Good.l0 k x0 (wrap64 (x3 + 1))) else (some false))) else (some true)
def spec_l23Good.f (k : Nat) (l0 : List (S49)) : Option (Bool) := if (l0.length : Int) > 10 then (some false) else (spec_l23Good.l0 k l0 0)
set_option maxHeartbeats 8000000 in
set_option maxRecDepth 100000 in
theorem spec_l23Good.calls (k : Nat) (A0 : Option Addr) (c0 : Nat) (l0 : List (S49)) (r : Bool) (w : World) (hr0 : Kd.C k49 w A0 l0.length l0) (hc0 : l0.length ≤ c0) (h : spec_l23Good.f k l0 = some r) :
  Calls Try.prog 33 #[.slice A0 l0.length c0] w fun e w' => e = .returned (.bool r) ∧ Below w.heap.size w w' := by
 (have HR0 := Aside0.mk hr0); (have HC0 := Aside0.mk hc0); clear hr0 hc0; (have HB := Aside0.mk (Below.refl w.heap.size w)); (unfold spec_l23Good.f at h); (have H := h); clear h; (by_cases c2 : (l0.length : Int) > 10); (· (rw [if_pos c2] at H); (have c2b0 : decide (10 < (l0.length : Int)) = true := decide_eq_true c2); (have c2b1 : decide (10 < l0.length) = true := decide_eq_true (by omega)); clear c2; (obtain rfl := Option.some.inj H); (go_enter Try.func33, Try.ntmps33); (go_wp2); go_ret; (exact ⟨rfl, eI HB⟩))
 ·rw [if_neg c2] at H
  (have c2b0 : decide (10 < (l0.length : Int)) = false := decide_eq_false c2); (have c2b1 : decide (10 < l0.length) = false := decide_eq_false (by omega)); clear c2; (have H' := Aside0.mk H); clear H; (go_enter Try.func33, Try.ntmps33); (go_wp2); (go_loopg [3] k (fun kq v3 w' => ∃ (x3_1 : Int), v3 = .int .i64 x3_1 ∧ Aside0 (spec_l23Good.l0 kq l0 x3_1 = some r) ∧ Aside0 (kq ≤ k) ∧ Aside0 (Below w.heap.size w w')))
  case atStart => exact ⟨(0), (by first | rfl | (simp; done) | (simp [*]; done)), H', ⟨Nat.le_refl _⟩, ⟨eI HB⟩⟩
  case round =>
   (clear H'); (try clear c2); (try clear c2b0); (try clear c2b1); (try clear p2); (obtain ⟨x3_1, rfl, HA, HK1, HB⟩ := hrel)
   cases gk with
   | zero => exact absurd HA.out (by simp [spec_l23Good.l0])
   | succ k1 =>
    (have H := HA.out); clear HA; (simp only [spec_l23Good.l0] at H); (by_cases c3 : x3_1 < (l0.length : Int))
    ·rw [if_pos c3] at H
     (have c3b0 := decide_eq_true c3); clear c3; (replace H := obS H); (obtain ⟨t101, A4, H⟩ := H); (by_cases c5 : t101 = true)
     ·subst c5
      (rw [if_pos rfl] at H); (have H' := Aside0.mk H); clear H; (go_wp2_with (first | ((with_reducible refine gate_callee (f := 44) rfl ?_); refine gL (some 15) Try.func44 #[.slice A0 l0.length c0, .int .i64 x3_1] ?_; (with_reducible refine (spec_l23Field.calls k1 _ _ l0 x3_1 true _ ?side1 ?side2 A4.out).mono ?_); (case side1 => exact Kd.C_below HR0.out (eI HB)); (case side2 => exact HC0.out); rintro e w6 ⟨rfl, hb⟩; refine ⟨_, rfl, ?_⟩; have n0_ := Aside0.mk (sI hb HB); clear HB; have HB := n0_; clear n0_; (try clear hb); (try clear hb2); (try clear hk); (try clear hi)))); go_roundg k1
      case measure => have := HK1.out; omega
      case rel => exact ⟨(wrap64 (x3_1 + 1)), (by first | rfl | (simp; done) | (simp [*]; done)), H', ⟨by have := HK1.out; omega⟩, ⟨eI HB⟩⟩
     ·replace c5 := Bool.eq_false_iff.mpr c5
      subst c5; (rw [if_neg (show ¬ (false = true) by decide)] at H); (obtain rfl := Option.some.inj H); (go_wp2_with (first | ((with_reducible refine gate_callee (f := 44) rfl ?_); refine gL (some 15) Try.func44 #[.slice A0 l0.length c0, .int .i64 x3_1] ?_; (with_reducible refine (spec_l23Field.calls k1 _ _ l0 x3_1 false _ ?side1 ?side2 A4.out).mono ?_); (case side1 => exact Kd.C_below HR0.out (eI HB)); (case side2 => exact HC0.out); rintro e w7 ⟨rfl, hb⟩; refine ⟨_, rfl, ?_⟩; have n0_ := Aside0.mk (sI hb HB); clear HB; have HB := n0_; clear n0_; (try clear hb); (try clear hb2); (try clear hk); (try clear hi)))); go_ret; (exact ⟨rfl, eI HB⟩)
    ·rw [if_neg c3] at H
     (have c3b0 := decide_eq_false c3); clear c3; (obtain rfl := Option.some.inj H); (go_wp2); go_ret; (exact ⟨rfl, eI HB⟩)
/-! ### spec_l21Text: function 34 -/
mutual
def spec_l21Text.l0 : Nat → ByteArray → Int → Option (Bool)
 | 0, _, _ => none
 | k + 1, x0, x3 => if x3 < (x0.size : Int) then (spec_l21Text.j1 k x0 x3 (decide (x3 ≤ 40))) else (spec_l21Text.j1 k x0 x3 false)
def spec_l21Text.j1 : Nat → ByteArray → Int → Bool → Option (Bool)
 | 0, _, _, _ => none
 | k + 1, x0, x3, x11 => if x11 = true then (if 0 ≤ x3 then (if x3 < (x0.size : Int) then (if (bt x0 x3) < 32 then (some false) else (if (bt x0 x3) > 126 then (some false) else (spec_l21Text.l0 k x0 (wrap64 (x3 + 1))))) else (none)) else (none)) else (some (decide ((x0.size : Int) ≤ 40)))
end
def spec_l21Text.f (k : Nat) (a0 : ByteArray) : Option (Bool) := spec_l21Text.l0 k a0 0
set_option maxHeartbeats 8000000 in
set_option maxRecDepth 100000 in
theorem spec_l21Text.calls (k : Nat) (a0 : ByteArray) (r : Bool) (w : World) (h : spec_l21Text.f k a0 = some r) :
  Calls Try.prog 34 #[.string a0] w fun e w' => e = .returned (.bool r) ∧ Drawn0 w w' := by
 (unfold spec_l21Text.f at h); (have H := h); clear h; (have H' := Aside0.mk H); clear H; (go_enter Try.func34, Try.ntmps34); (go_wp2); (go_loopg [3] k (fun kq v3 w' => ∃ (x3_1 : Int), v3 = .int .i64 x3_1 ∧ Aside0 (spec_l21Text.l0 kq a0 x3_1 = some r) ∧ Aside0 (kq ≤ k) ∧ Drawn0 w w'))
 case atStart => exact ⟨(0), (by first | rfl | (simp; done) | (simp [*]; done)), H', ⟨Nat.le_refl _⟩, by repeat (first | exact Drawn0.refl _ | apply Drawn0.step)⟩
 case round =>
  (clear H'); (obtain ⟨x3_1, rfl, HA, HK1, ⟨m1, rfl⟩⟩ := hrel)
  cases gk with
  | zero => exact absurd HA.out (by simp [spec_l21Text.l0])
  | succ k1 =>
   (have H := HA.out); clear HA; (simp only [spec_l21Text.l0] at H); (have HC2 := Aside0.mk H); clear H; (go_upto_region 2 with (fail)); (go_cut [11] (fun v11 wc => ∃ (kq : Nat) (x11_1 : Bool), v11 = .bool x11_1 ∧ Aside0 (spec_l21Text.j1 kq a0 x3_1 x11_1 = some r) ∧ Aside0 (kq ≤ k1) ∧ Drawn0 w wc))
   case first =>
    (have H := HC2.out); clear HC2; (by_cases c3 : x3_1 < (a0.size : Int))
    ·rw [if_pos c3] at H
     (have c3b0 := decide_eq_true c3); clear c3; ((first | rw [c3b0] | (simp only [i64_w, i32_w]; rw [c3b0]) | skip)); (have H' := Aside0.mk H); clear H; (go_wp2); (go_meet)
     case rel => exact ⟨_, (decide (x3_1 ≤ 40)), (by first | rfl | (simp; done) | (simp [*]; done)), H', ⟨by have := HK1.out; first | omega | exact Nat.le_refl _⟩, by repeat (first | exact Drawn0.refl _ | apply Drawn0.step)⟩
    ·rw [if_neg c3] at H
     (have c3b0 := decide_eq_false c3); clear c3; ((first | rw [c3b0] | (simp only [i64_w, i32_w]; rw [c3b0]) | skip)); (have H' := Aside0.mk H); clear H; (go_wp2); (go_meet)
     case rel => exact ⟨_, (false), (by first | rfl | (simp; done) | (simp [*]; done)), H', ⟨by have := HK1.out; first | omega | exact Nat.le_refl _⟩, by repeat (first | exact Drawn0.refl _ | apply Drawn0.step)⟩
   case rest =>
    clear HC2; (try clear p2); (try clear c3); (try clear c3b0); (obtain ⟨kq, x11_1, rfl, HA, HJ1, ⟨mc1, rfl⟩⟩ := hcut)
    cases kq with
    | zero => exact absurd HA.out (by simp [spec_l21Text.j1])
    | succ kj1 =>
     (have H := HA.out); clear HA; (simp only [spec_l21Text.j1] at H); (by_cases c4 : x11_1 = true)
     ·subst c4
      (rw [if_pos rfl] at H); (by_cases c5 : 0 ≤ x3_1)
      ·rw [if_pos c5] at H
       (have c5b0 := decide_eq_true c5); clear c5; (by_cases c6 : x3_1 < (a0.size : Int))
       ·rw [if_pos c6] at H
        (have c6b0 := decide_eq_true c6); clear c6; (by_cases c8 : (bt a0 x3_1) < 32); (· (rw [if_pos c8] at H); (have c8b0 := decide_eq_true c8); clear c8; (obtain rfl := Option.some.inj H); (have p7 : 0 ≤ (x3_1 : Int) := odt); (have q7 : x3_1 < (a0.size : Int) := odt); (have hx7 := bt_at a0 x3_1); (replace p7 := eq_true p7); (replace q7 := eq_true q7); (go_wp2); go_ret; (exact ⟨by first | rfl | (simp; done) | (simp [*]; done), by repeat (first | exact Drawn0.refl _ | apply Drawn0.step)⟩))
        ·rw [if_neg c8] at H
         (have c8b0 := decide_eq_false c8); clear c8; (by_cases c10 : (bt a0 x3_1) > 126)
         ·rw [if_pos c10] at H
          (have c10b0 : decide (126 < (bt a0 x3_1)) = true := decide_eq_true c10); clear c10; (obtain rfl := Option.some.inj H); (have p7 : 0 ≤ (x3_1 : Int) := odt); (have q7 : x3_1 < (a0.size : Int) := odt); (have hx7 := bt_at a0 x3_1); (replace p7 := eq_true p7); (replace q7 := eq_true q7); (have p9 : 0 ≤ (x3_1 : Int) := odt); (have q9 : x3_1 < (a0.size : Int) := odt); (have hx9 := bt_at a0 x3_1); (replace p9 := eq_true p9); (replace q9 := eq_true q9); (go_wp2); go_ret; (exact ⟨by first | rfl | (simp; done) | (simp [*]; done), by repeat (first | exact Drawn0.refl _ | apply Drawn0.step)⟩)
         ·rw [if_neg c10] at H
          (have c10b0 : decide (126 < (bt a0 x3_1)) = false := decide_eq_false c10); clear c10; (have H' := Aside0.mk H); clear H; (have p7 : 0 ≤ (x3_1 : Int) := odt); (have q7 : x3_1 < (a0.size : Int) := odt); (have hx7 := bt_at a0 x3_1); (replace p7 := eq_true p7); (replace q7 := eq_true q7); (have p9 : 0 ≤ (x3_1 : Int) := odt); (have q9 : x3_1 < (a0.size : Int) := odt); (have hx9 := bt_at a0 x3_1); (replace p9 := eq_true p9); (replace q9 := eq_true q9); (go_wp2); go_roundg kj1
          case measure => have := HK1.out; have := HJ1.out; omega
          case rel => exact ⟨(wrap64 (x3_1 + 1)), (by first | rfl | (simp; done) | (simp [*]; done)), H', ⟨by have := HK1.out; have := HJ1.out; omega⟩, by repeat (first | exact Drawn0.refl _ | apply Drawn0.step)⟩
       ·rw [if_neg c6] at H
        exact absurd H (by simp)
      ·rw [if_neg c5] at H
       exact absurd H (by simp)
     ·replace c4 := Bool.eq_false_iff.mpr c4
      subst c4; (rw [if_neg (show ¬ (false = true) by decide)] at H); (obtain rfl := Option.some.inj H); (go_wp2); go_ret; (exact ⟨by first | rfl | (simp; done) | (simp [*]; done), by repeat (first | exact Drawn0.refl _ | apply Drawn0.step)⟩)

end Go.Proofs.Ytcjloeeomhiblaa.X
