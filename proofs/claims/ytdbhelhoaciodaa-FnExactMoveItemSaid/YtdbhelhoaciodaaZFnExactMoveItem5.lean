/- For all items, boxes, capacities and numbers the law FnExactMoveItem answers true. No condition beyond what a reading tells.
This file (part 5 of 5) holds what the proof needs: plain functions with rounds and contracts written by programs of this work over the translation, and the lemmas. -/
import Derived.Test.YtdbhelhoaciodaaZFnExactMoveItem4
import Derived.Test.YtdbhelhoaciodaaZFnExactMoveItem2
import Derived.Lib.RowBridge
import Derived.Test.YtdbhelhoaciodaaZFnExactMoveItem3
import Derived.Test.YtdbhelhoaciodaaRows
import Derived.WalkKit
import Derived.ProofKit
import Derived.OpenShut
import Derived.ShutString
import Derived.ChangeOld
import Derived.Below
import Derived.SizedLaws
import Derived.Lib.SmallJoins
set_option linter.unusedVariables false
set_option linter.unusedSimpArgs false
namespace Go.Proofs.Ytdbhelhoaciodaa.X
open Go.RowKit Go.Proofs.YtdbhelhoaciodaaW.PrintWords Go.Proofs.Ytdbhelhoaciodaa.E
theorem itemOf_eq (items : List Item) (n : Int) : impl_itemOf.f items n = some (fnd items n) := rfl
def usedL (items : List Item) (s : List Int) : List Bool := items.map (fun x => decide (x.f0 ∈ s))
theorem usedL_length (items : List Item) (s : List Int) : (usedL items s).length = items.length := by simp [usedL]
theorem usedL_get {items : List Item} {s : List Int} {i : Nat} (h : i < items.length) : (usedL items s).getD i false = decide ((items.getD i z83).f0 ∈ s) := by
 simp [usedL, List.getD_eq_getElem?_getD, List.getElem?_eq_getElem h]
theorem usedL_set {items : List Item} (hs : Sane items) {s : List Int} {n : Int} (h : 0 ≤ fnd items n) : (usedL items s).set (fnd items n).toNat true = usedL items (s ++ [n]) := by
 have hr := fnd_range items n h
 apply List.ext_getElem
 ·simp [usedL]
 ·intro i h1 h2
  simp only [List.length_set, usedL_length] at h1
  rw [List.getElem_set]
  have e2 : (items.getD (fnd items n).toNat z83).f0 = n := hr.2
  by_cases c : (fnd items n).toNat = i
  ·rw [if_pos c]
   simp only [usedL, List.getElem_map]
   rw [c, getD_in h1] at e2
   simp [e2]
  ·rw [if_neg c]
   simp only [usedL, List.getElem_map]
   have hne : items[i].f0 ≠ n := by
    intro e
    have hj : (fnd items n).toNat < items.length := by omega
    rw [← getD_in h1 z83] at e
    rcases Nat.lt_trichotomy (fnd items n).toNat i with hlt | he | hlt
    ·have := hs.rise h1 hlt; omega
    ·exact c he
    ·have := hs.rise hj hlt; omega
   simp [hne]
def stepI (items : List Item) (boxes : List Box) (cap : Int) (i k : Nat) : Bool :=
 decide (0 ≤ fnd items ((bx boxes i).f1.getD k 0)) && decide ((bx boxes i).f1.getD k 0 ∉ prevL boxes i ++ (bx boxes i).f1.take k) && decide (0 < k → (bx boxes i).f1.getD (k - 1) 0 < (bx boxes i).f1.getD k 0) &&
 fitsI items (((bx boxes i).f1.take k).map (fnd items)) (pl items (bx boxes i).f1 k) cap
def boxI (items : List Item) (boxes : List Box) (cap : Int) (i : Nat) : Bool := numAt boxes i && (List.range (bx boxes i).f1.length).all (stepI items boxes cap i)
def goodI (items : List Item) (boxes : List Box) (cap : Int) : Bool := if (List.range boxes.length).all (boxI items boxes cap) = true then (((prevL boxes boxes.length).length : Int) == (items.length : Int)) else false
def goodQ (items : List Item) (boxes : List Box) (cap : Int) : Bool := itemsOk items && decide ((boxes.length : Int) ≤ 12) && decide (1 ≤ cap ∧ cap ≤ 10000) && goodI items boxes cap
abbrev L1 (items : List Item) (boxes : List Box) (cap : Int) (i : Nat) : Nat → Int × List Bool × List Int → Int → Option Bool := fun k s j =>
 impl_IsValidArchive.l1 k items boxes cap s.1 s.2.1 s.2.2 boxes (boxes.length : Int) i (bx boxes i).f1 ((bx boxes i).f1.length : Int) j (bx boxes i).f0 (bx boxes i).f1
def st1 (items : List Item) (boxes : List Box) (i k : Nat) : Int × List Bool × List Int :=
 (((prevL boxes i).length : Int) + (k : Int), usedL items (prevL boxes i ++ (bx boxes i).f1.take k), ((bx boxes i).f1.take k).map (fnd items))
theorem inner_ev (items : List Item) (boxes : List Box) (cap : Int) (hs : Sane items) (hb : small boxes) (i : Nat) (hi : i < boxes.length) (y : Bool)
  (hy : (List.range (bx boxes i).f1.length).all (stepI items boxes cap i) = true → Ev (fun k => impl_IsValidArchive.l0 k items boxes cap ((prevL boxes (i + 1)).length : Int) (usedL items (prevL boxes (i + 1))) boxes (boxes.length : Int) ((i + 1 : Nat) : Int)) y) :
  Ev (fun k => L1 items boxes cap i k (st1 items boxes i 0) 0) (if (List.range (bx boxes i).f1.length).all (stepI items boxes cap i) = true then y else false) := by
 have hbi := hb.box hi
 have hbl : boxes.length ≤ 1048576 := by unfold small at hb; omega
 have hpi := hb.prev i
 have places : ∀ m, m ≤ (bx boxes i).f1.length → (∀ j, j < m → stepI items boxes cap i j = true) → Places items (((bx boxes i).f1.take m).map (fnd items)) := by
  intro m hm h x hx
  obtain ⟨n, hn, rfl⟩ := List.mem_map.1 hx
  obtain ⟨q, hq, rfl⟩ := List.getElem_of_mem hn
  have hq' : q < m := by simp at hq; omega
  have := h q hq'
  simp only [stepI, Bool.and_eq_true, decide_eq_true_eq] at this
  have h0 := this.1.1.1
  rw [List.getElem_take]
  rw [getD_in (by omega)] at h0
  exact ⟨h0, (fnd_range items _ h0).1⟩
 have h := ev_all (L := L1 items boxes cap i) (bx boxes i).f1.length (st1 items boxes i) (stepI items boxes cap i) false y ?h0 ?h1 ?h2
 case h0 =>
  intro hC
  refine Ev.step (fun k => rfl) (ev_neg (by omega) ?_)
  rw [wrap_succ hi (by omega)]
  refine cast (congrArg (fun g => Ev g y) ?_) (hy (all_range.2 hC))
  funext k
  simp only [st1, List.take_length]
  rw [prevL_succ hi, List.length_append]
  simp
 case h1 =>
  intro m hm hprev hc z hz
  have hp := places m (by omega) hprev
  simp only [stepI, Bool.and_eq_true, decide_eq_true_eq] at hc
  obtain ⟨⟨⟨h1, h2⟩, h3⟩, h4⟩ := hc
  have hr := fnd_range items _ h1
  have fev := fits_ev items (((bx boxes i).f1.take m).map (fnd items)) (pl items (bx boxes i).f1 m) cap hs hp (by simp; omega) (by show (fnd items _).toNat < _; omega)
  rw [show ((pl items (bx boxes i).f1 m : Nat) : Int) = fnd items ((bx boxes i).f1.getD m 0) from by show (((fnd items _).toNat : Nat) : Int) = _; omega] at fev
  have hgo : Ev (fun k => impl_IsValidArchive.l1 k items boxes cap (wrap64 ((st1 items boxes i m).1 + 1)) ((st1 items boxes i m).2.1.set (fnd items ((bx boxes i).f1.getD m 0)).toNat true) ((st1 items boxes i m).2.2 ++ [fnd items ((bx boxes i).f1.getD m 0)]) boxes (boxes.length : Int) i (bx boxes i).f1 ((bx boxes i).f1.length : Int) (wrap64 ((m : Int) + 1)) (bx boxes i).f0 (bx boxes i).f1) z := by
   refine cast (congrArg (fun g => Ev g z) ?_) hz
   funext k
   have e1 : wrap64 ((st1 items boxes i m).1 + 1) = (st1 items boxes i (m + 1)).1 := by
    simp only [st1]
    rw [wrap_id (by omega) (by omega)]; omega
   have e2 : (st1 items boxes i m).2.1.set (fnd items ((bx boxes i).f1.getD m 0)).toNat true = (st1 items boxes i (m + 1)).2.1 := by
    simp only [st1]
    rw [usedL_set hs h1, List.append_assoc, List.take_succ_eq_append_getElem hm, getD_in hm]
   have e3 : (st1 items boxes i m).2.2 ++ [fnd items ((bx boxes i).f1.getD m 0)] = (st1 items boxes i (m + 1)).2.2 := by
    simp only [st1]
    rw [List.take_succ_eq_append_getElem hm, List.map_append, getD_in hm]; rfl
   rw [e1, e2, e3, wrap_succ hm (by omega)]
  have hlen : (st1 items boxes i m).2.2.length < 17592186044416 := by simp [st1]; omega
  have hul : (st1 items boxes i m).2.1.length = items.length := usedL_length _ _
  have hused : ¬ rdOf false (st1 items boxes i m).2.1 (fnd items ((bx boxes i).f1.getD m 0)) = true := by
   simp only [rdOf, st1]
   rw [usedL_get (by omega), hr.2, decide_eq_true_eq]
   exact h2
  refine Ev.step (fun k => rfl) (ev_pos (by omega) (ev_pos (by omega) (ev_pos (by omega) ?_)))
  simp only [rd_nat, itemOf_eq]
  refine ev_some (ev_neg (by omega) (ev_pos (by omega) (ev_pos (by omega) (ev_neg hused ?_))))
  refine ev_ite (fun h0 => ?_) (fun h0 => ?_)
  ·have hp' := wrap_pred (i := m) (by omega) (by omega)
   simp only [hp', rd_nat]
   have := h3 (by omega)
   exact ev_pos (by omega) (ev_pos (by omega) (ev_neg (by omega) (Ev.bind fev (ev_pos h4 (ev_pos hlen hgo)))))
  ·exact Ev.bind fev (ev_pos h4 (ev_pos hlen hgo))
 case h2 =>
  intro m hm hprev hc
  have hp := places m (by omega) hprev
  have hul : (st1 items boxes i m).2.1.length = items.length := usedL_length _ _
  refine Ev.step (fun k => rfl) (ev_pos (by omega) (ev_pos (by omega) (ev_pos (by omega) ?_)))
  simp only [rd_nat, itemOf_eq]
  refine ev_some (ev_ite (fun _ => ev_now rfl) (fun h1 => ?_))
  have h1' : 0 ≤ fnd items ((bx boxes i).f1.getD m 0) := by omega
  have hr := fnd_range items _ h1'
  refine ev_pos (by omega) (ev_pos (by omega) (ev_ite (fun _ => ev_now rfl) (fun hused => ?_)))
  have h2 : (bx boxes i).f1.getD m 0 ∉ prevL boxes i ++ (bx boxes i).f1.take m := by
   simp only [rdOf, st1] at hused
   rw [usedL_get (by omega), hr.2, decide_eq_true_eq] at hused
   exact hused
  have fev := fits_ev items (((bx boxes i).f1.take m).map (fnd items)) (pl items (bx boxes i).f1 m) cap hs hp (by simp; omega) (by show (fnd items _).toNat < _; omega)
  rw [show ((pl items (bx boxes i).f1 m : Nat) : Int) = fnd items ((bx boxes i).f1.getD m 0) from by show (((fnd items _).toNat : Nat) : Int) = _; omega] at fev
  have h4 : (0 < m → (bx boxes i).f1.getD (m - 1) 0 < (bx boxes i).f1.getD m 0) → ¬ fitsI items (((bx boxes i).f1.take m).map (fnd items)) (pl items (bx boxes i).f1 m) cap = true := by
   intro h3 h4
   have : stepI items boxes cap i m = true := by
    simp only [stepI, Bool.and_eq_true, decide_eq_true_eq]
    exact ⟨⟨⟨h1', h2⟩, h3⟩, h4⟩
   rw [this] at hc; cases hc
  refine ev_ite (fun h0 => ?_) (fun h0 => ?_)
  ·have hp' := wrap_pred (i := m) (by omega) (by omega)
   simp only [hp', rd_nat]
   refine ev_pos (by omega) (ev_pos (by omega) (ev_ite (fun _ => ev_now rfl) (fun h5 => Ev.bind fev (ev_neg (h4 (fun _ => by omega)) (ev_now rfl)))))
  ·exact Ev.bind fev (ev_neg (h4 (fun h => by omega)) (ev_now rfl))
 exact h
theorem implValid_ev (items : List Item) (boxes : List Box) (cap : Int) (hl : items.length ≤ 9223372036854775807) (hb : small boxes) : Ev (fun k => impl_IsValidArchive.f k items boxes cap) (goodQ items boxes cap) := by
 unfold impl_IsValidArchive.f
 refine Ev.bind (areItems_ev items hl) ?_
 have hbl : boxes.length ≤ 1048576 := by unfold small at hb; omega
 have stop : ∀ (b : Bool), b = false → Ev (fun k => impl_IsValidArchive.j0 k items boxes cap true) b := fun b hb => hb ▸ Ev.step (fun k => rfl) (ev_now rfl)
 by_cases c1 : itemsOk items = true
 case neg => exact ev_neg c1 (stop _ (by unfold goodQ; simp [c1]))
 refine ev_pos c1 ?_
 simp only [impl_isCapacity.f, within_eq]
 refine ev_ite (fun c3 => ?_) (fun c3 => stop _ (by unfold goodQ; simp at c3; simp; omega))
 have c3' : 1 ≤ cap ∧ cap ≤ 10000 := by simpa using c3
 by_cases c2 : (boxes.length : Int) > 12
 ·rw [decide_eq_true c2]
  exact stop _ (by unfold goodQ; rw [decide_eq_false (p := (boxes.length : Int) ≤ 12) (by omega)]; simp)
 rw [decide_eq_false c2]
 have hs := sane_of c1
 refine ev_cast (r := goodI items boxes cap) ?_ (by unfold goodQ; rw [c1, decide_eq_true (show (boxes.length : Int) ≤ 12 by omega), decide_eq_true c3']; simp)
 refine Ev.step (fun k => rfl) ?_
 show Ev (fun k => if 0 ≤ (items.length : Int) then (if ((items.length : Int) : Int).toNat ≤ 281474976710656 then (impl_IsValidArchive.l0 k items boxes cap 0 (List.replicate ((items.length : Int) : Int).toNat false) boxes (boxes.length : Int) 0) else (none)) else (none)) _
 refine ev_pos (by omega) (ev_pos (by have := hs.1; simp; omega) ?_)
 have e0 : List.replicate ((items.length : Int)).toNat false = usedL items (prevL boxes 0) := by
  apply List.ext_getElem
  ·simp [usedL]
  ·intro j h1 h2; simp [usedL, prevL]
 rw [e0]
 have h := ev_all (L := fun k (s : Int × List Bool) i => impl_IsValidArchive.l0 k items boxes cap s.1 s.2 boxes (boxes.length : Int) i) boxes.length (fun i => (((prevL boxes i).length : Int), usedL items (prevL boxes i))) (boxI items boxes cap) false (((prevL boxes boxes.length).length : Int) == (items.length : Int))
  (fun _ => Ev.step (fun k => rfl) (ev_neg (by omega) (ev_now rfl))) ?h1 ?h2
 case h1 =>
  intro i hi _ hc y hy
  simp only [boxI, numAt, Bool.and_eq_true, decide_eq_true_eq] at hc
  obtain ⟨hn, ha⟩ := hc
  have inn := inner_ev items boxes cap hs hb i hi y (fun _ => hy)
  rw [if_pos ha] at inn
  have hst : st1 items boxes i 0 = (((prevL boxes i).length : Int), usedL items (prevL boxes i), []) := by simp [st1]
  rw [hst] at inn
  have tail : Ev (fun k => impl_IsValidArchive.j2 k items boxes cap ((prevL boxes i).length : Int) (usedL items (prevL boxes i)) boxes (boxes.length : Int) i false (bx boxes i).f0 (bx boxes i).f1) y := Ev.step (fun k => rfl) inn
  refine Ev.step (fun k => rfl) (ev_pos (by omega) (ev_pos (by omega) (ev_pos (by omega) ?_)))
  simp only [rd_T80, Int.toNat_natCast, impl_isBoxNumber.f, within_eq]
  refine ev_pos (by simpa using hn.1) (ev_ite (fun h0 => ?_) (fun h0 => tail))
  have hp := wrap_pred (i := i) (by omega) (by omega)
  simp only [hp, Int.toNat_natCast]
  have := hn.2 (by omega)
  simp only [bx] at this
  rw [decide_eq_false (show ¬ (boxes.getD i z80).f0 ≤ (boxes.getD (i - 1) z80).f0 by omega)]
  exact ev_pos (by omega) (ev_pos (by omega) tail)
 case h2 =>
  intro i hi _ hc
  have bad : Ev (fun k => impl_IsValidArchive.j2 k items boxes cap ((prevL boxes i).length : Int) (usedL items (prevL boxes i)) boxes (boxes.length : Int) i true (bx boxes i).f0 (bx boxes i).f1) false := Ev.step (fun k => rfl) (ev_now rfl)
  have tail : numAt boxes i = true → Ev (fun k => impl_IsValidArchive.j2 k items boxes cap ((prevL boxes i).length : Int) (usedL items (prevL boxes i)) boxes (boxes.length : Int) i false (bx boxes i).f0 (bx boxes i).f1) false := by
   intro hn
   have ha : ¬ (List.range (bx boxes i).f1.length).all (stepI items boxes cap i) = true := by
    intro ha
    unfold boxI at hc
    rw [hn, ha] at hc
    cases hc
   have hst : st1 items boxes i 0 = (((prevL boxes i).length : Int), usedL items (prevL boxes i), []) := by simp [st1]
   have inn : Ev (fun k => L1 items boxes cap i k (st1 items boxes i 0) 0) false := by
    have h := inner_ev items boxes cap hs hb i hi false (fun h => absurd h ha)
    rw [if_neg ha] at h
    exact h
   rw [hst] at inn
   exact Ev.step (fun k => rfl) inn
  refine Ev.step (fun k => rfl) (ev_pos (by omega) (ev_pos (by omega) (ev_pos (by omega) ?_)))
  simp only [rd_T80, Int.toNat_natCast, impl_isBoxNumber.f, within_eq]
  refine ev_ite (fun h1 => ?_) (fun _ => ?_)
  ·have h1' : 1 ≤ (bx boxes i).f0 ∧ (bx boxes i).f0 ≤ 9999 := by simpa using h1
   refine ev_ite (fun h0 => ?_) (fun h0 => tail ?_)
   ·have hp := wrap_pred (i := i) (by omega) (by omega)
    simp only [hp, Int.toNat_natCast]
    refine ev_pos (by omega) (ev_pos (by omega) ?_)
    by_cases c : (boxes.getD i z80).f0 ≤ (boxes.getD (i - 1) z80).f0
    ·rw [decide_eq_true c]; exact bad
    ·rw [decide_eq_false c]
     refine tail ?_
     simp only [numAt, Bool.and_eq_true, decide_eq_true_eq]
     exact ⟨h1', fun _ => by simp only [bx]; omega⟩
   ·simp only [numAt, Bool.and_eq_true, decide_eq_true_eq]
    exact ⟨h1', fun h => by omega⟩
  ·exact bad
 exact h
end Go.Proofs.Ytdbhelhoaciodaa.X
set_option linter.unusedVariables false
set_option linter.unusedSimpArgs false
namespace Go.Proofs.Ytdbhelhoaciodaa.X
open Go.RowKit Go.Proofs.YtdbhelhoaciodaaW.PrintWords Go.Proofs.Ytdbhelhoaciodaa.E
theorem rise_lt {l : List Int} : ∀ {k : Nat}, k < l.length → (∀ j, j ≤ k → 0 < j → l.getD (j - 1) 0 < l.getD j 0) → ∀ m, m < k → l.getD m 0 < l.getD k 0
 | 0, _, _, m, hm => by omega
 | k + 1, hk, h, m, hm => by
  have h1 := h (k + 1) (Nat.le_refl _) (by omega)
  simp only [Nat.add_sub_cancel] at h1
  by_cases e : m = k
  ·subst e; exact h1
  ·have := rise_lt (l := l) (k := k) (by omega) (fun j hj h0 => h j (by omega) h0) m (by omega)
   omega
theorem boxIdx_iff {boxes : List Box} {i : Nat} (hi : i < boxes.length) {n : Int} (hn : n ∈ (bx boxes i).f1) : boxIdx boxes n = (i : Int) ↔ n ∉ prevL boxes i := by
 rcases idxG_spec (fun b : Box => decide (n ∈ b.f1)) boxes 0 with ⟨h1, h2⟩ | ⟨j, x, h1, h2, h3, h4, h5, h6⟩
 ·have := h2 _ (List.getElem_mem hi)
  rw [bx, getD_in hi] at hn
  simp [hn] at this
 ·have hx : boxes[i]? = some (bx boxes i) := by rw [bx, getD_in hi, List.getElem?_eq_getElem hi]
  have hji : j ≤ i := by
   rcases Nat.lt_or_ge i j with h | h
   ·have := h6 i _ h hx
    rw [decide_eq_false_iff_not] at this
    exact absurd hn this
   ·exact h
  rw [boxIdx, h2]
  constructor
  ·intro e
   have e' : j = i := by omega
   subst e'
   intro hm
   simp only [prevL, List.mem_flatMap] at hm
   obtain ⟨b, hb, hnb⟩ := hm
   obtain ⟨q, hq, rfl⟩ := List.getElem_of_mem hb
   have hq' : q < j := by simp at hq; omega
   have := h6 q (boxes[q]'(by omega)) hq' (List.getElem?_eq_getElem (by omega))
   rw [List.getElem_take] at hnb
   simp [hnb] at this
  ·intro hnp
   by_cases e : j = i
   ·rw [e]; simp
   ·exfalso
    refine hnp ?_
    simp only [prevL, List.mem_flatMap]
    refine ⟨x, ?_, by simpa using h4⟩
    have hj2 : j < (boxes.take i).length := by simp; omega
    have : (boxes.take i)[j]? = some x := by rw [List.getElem?_take_of_lt (by omega)]; exact h3
    exact List.mem_of_getElem? this
theorem fitsI_take {items : List Item} {l : List Int} {cap : Int} {k : Nat} (hk : k < l.length) :
  fitsI items ((l.take k).map (fnd items)) (pl items l k) cap = ((List.range k).all (fun m => shareB (mI items (pl items l m)) (mI items (pl items l k))) && decide (sumTo (fun m => wI items (pl items l m)) (k + 1) ≤ cap)) := by
 have hlen : ((l.take k).map (fnd items)).length = k := by simp; omega
 have hat : ∀ m, m < k → at_ ((l.take k).map (fnd items)) m = pl items l m := by
  intro m hm
  simp only [at_, pl]
  congr 1
  rw [getD_in (by rw [hlen]; exact hm), List.getElem_map, List.getElem_take, getD_in (by omega)]
 unfold fitsI
 rw [hlen]
 have e1 : (List.range k).all (fun m => shareB (mI items (at_ ((l.take k).map (fnd items)) m)) (mI items (pl items l k))) = (List.range k).all (fun m => shareB (mI items (pl items l m)) (mI items (pl items l k))) :=
  all_range_congr (fun m hm _ _ => by rw [hat m hm])
 have e2 : sumTo (fun m => wI items (at_ ((l.take k).map (fnd items)) m)) k = sumTo (fun m => wI items (pl items l m)) k := sumTo_congr (fun m hm => by rw [hat m hm])
 rw [e1, e2, sumTo, Int.add_comm]
 cases (List.range k).all (fun m => shareB (mI items (pl items l m)) (mI items (pl items l k))) <;> simp
theorem box_same {items : List Item} (hs : Sane items) {boxes : List Box} {cap : Int} (hcap : 1 ≤ cap) {i : Nat} (hi : i < boxes.length) : boxS items boxes cap i = boxI items boxes cap i := by
 unfold boxS boxI
 rw [Bool.and_assoc, Bool.and_assoc]
 congr 1
 rw [Bool.eq_iff_iff]
 simp only [Bool.and_eq_true, all_range, rising]
 constructor
 ·rintro ⟨hr, ha, hf⟩ k hk
  have h1 := ha k hk
  simp only [inBox, Bool.and_eq_true, decide_eq_true_eq] at h1
  have hmem : (bx boxes i).f1.getD k 0 ∈ (bx boxes i).f1 := by rw [getD_in hk]; exact List.getElem_mem hk
  have hrise : ∀ j, j ≤ k → 0 < j → (bx boxes i).f1.getD (j - 1) 0 < (bx boxes i).f1.getD j 0 := by
   intro j hj h0
   have := hr j (by omega)
   simp only [riseAt, Bool.and_eq_true, decide_eq_true_eq] at this
   exact this.2 h0
  unfold fitsL at hf
  split at hf
  case isFalse => cases hf
  case isTrue hall =>
   rw [decide_eq_true_eq] at hf
   have hkn : Known items (bx boxes i).f1 := known_of (all_range.2 ha)
   have hmono := sumTo_mono (f := fun m => wI items (pl items (bx boxes i).f1 m)) (show k + 1 ≤ (bx boxes i).f1.length by omega) (fun m hm => by have := hs.weight (hkn.get hm).2.2; omega)
   simp only [stepI, Bool.and_eq_true, decide_eq_true_eq]
   refine ⟨⟨⟨h1.1, ?_⟩, hrise k (Nat.le_refl k)⟩, ?_⟩
   ·rw [List.mem_append, not_or]
    refine ⟨(boxIdx_iff hi hmem).1 h1.2, fun hm => ?_⟩
    obtain ⟨q, hq, e⟩ := List.getElem_of_mem hm
    have hq' : q < k := by simp at hq; omega
    rw [List.getElem_take] at e
    have := rise_lt hk hrise q hq'
    rw [← e, getD_in (show q < (bx boxes i).f1.length by omega)] at this
    omega
   ·rw [fitsI_take hk, Bool.and_eq_true, decide_eq_true_eq]
    refine ⟨?_, by omega⟩
    have := all_range.1 hall k hk
    rw [pairOk, all_range] at this
    rw [all_range]
    intro m hm
    rw [shareB_comm]
    exact this m hm
 ·intro h
  have h' : ∀ k, k < (bx boxes i).f1.length → (0 ≤ fnd items ((bx boxes i).f1.getD k 0)) ∧ ((bx boxes i).f1.getD k 0 ∉ prevL boxes i ++ (bx boxes i).f1.take k) ∧ (0 < k → (bx boxes i).f1.getD (k - 1) 0 < (bx boxes i).f1.getD k 0) ∧
    (List.range k).all (fun m => shareB (mI items (pl items (bx boxes i).f1 m)) (mI items (pl items (bx boxes i).f1 k))) = true ∧ sumTo (fun m => wI items (pl items (bx boxes i).f1 m)) (k + 1) ≤ cap := by
   intro k hk
   have := h k hk
   simp only [stepI, Bool.and_eq_true, decide_eq_true_eq] at this
   rw [fitsI_take hk, Bool.and_eq_true, decide_eq_true_eq] at this
   exact ⟨this.1.1.1, this.1.1.2, this.1.2, this.2.1, this.2.2⟩
  refine ⟨?_, ?_, ?_⟩
  ·intro k hk
   have := h' k hk
   simp only [riseAt, Bool.and_eq_true, decide_eq_true_eq]
   refine ⟨?_, this.2.2.1⟩
   have hr := fnd_range items _ this.1
   have := hs.num (show (fnd items ((bx boxes i).f1.getD k 0)).toNat < items.length by omega)
   rw [hr.2] at this
   exact this
  ·intro k hk
   have := h' k hk
   simp only [inBox, Bool.and_eq_true, decide_eq_true_eq]
   refine ⟨this.1, (boxIdx_iff hi (by rw [getD_in hk]; exact List.getElem_mem hk)).2 (fun hm => this.2.1 (List.mem_append_left _ hm))⟩
  ·unfold fitsL
   rw [if_pos, decide_eq_true_eq]
   ·rcases Nat.eq_zero_or_pos (bx boxes i).f1.length with e | e
    ·rw [e]; simp only [sumTo]; omega
    ·have := (h' ((bx boxes i).f1.length - 1) (by omega)).2.2.2.2
     rw [show (bx boxes i).f1.length - 1 + 1 = (bx boxes i).f1.length from by omega] at this
     exact this
   ·rw [all_range]
    intro k hk
    have := (h' k hk).2.2.2.1
    rw [all_range] at this
    rw [pairOk, all_range]
    intro m hm
    rw [shareB_comm]
    exact this m hm
theorem good_same (items : List Item) (boxes : List Box) (cap : Int) : good items boxes cap = goodQ items boxes cap := by
 unfold good goodQ
 by_cases c1 : itemsOk items = true
 case neg => simp [c1]
 by_cases c3 : 1 ≤ cap ∧ cap ≤ 10000
 case neg => simp [c3]
 congr 1
 unfold goodR goodI
 rw [all_range_congr (fun i hi _ _ => box_same (sane_of c1) c3.1 hi)]
end Go.Proofs.Ytdbhelhoaciodaa.X
set_option linter.unusedVariables false
set_option linter.unusedSimpArgs false
namespace Go.Proofs.Ytdbhelhoaciodaa.X
open Go.RowKit Go.Proofs.YtdbhelhoaciodaaW.PrintWords Go.Proofs.Ytdbhelhoaciodaa.E
theorem asc_ext : ∀ {a b : List Int}, a.Pairwise (· < ·) → b.Pairwise (· < ·) → (∀ x, x ∈ a ↔ x ∈ b) → a = b
 | [], [], _, _, _ => rfl
 | [], y :: b, _, _, h => by have := (h y).2 List.mem_cons_self; simp at this
 | x :: a, [], _, _, h => by have := (h x).1 List.mem_cons_self; simp at this
 | x :: a, y :: b, ha, hb, h => by
  rw [List.pairwise_cons] at ha hb
  have e : x = y := by
   have h1 := (h x).1 List.mem_cons_self
   have h2 := (h y).2 List.mem_cons_self
   rcases List.mem_cons.1 h1 with e | e
   ·exact e
   ·rcases List.mem_cons.1 h2 with e2 | e2
    ·exact e2.symm
    ·have := hb.1 x e
     have := ha.1 y e2
     omega
  subst e
  congr 1
  refine asc_ext ha.2 hb.2 (fun z => ⟨fun hz => ?_, fun hz => ?_⟩)
  ·have := ha.1 z hz
   rcases List.mem_cons.1 ((h z).1 (List.mem_cons_of_mem _ hz)) with e | e
   ·omega
   ·exact e
  ·have := hb.1 z hz
   rcases List.mem_cons.1 ((h z).2 (List.mem_cons_of_mem _ hz)) with e | e
   ·omega
   ·exact e
def putL (n : Int) : List Int → List Int
 | [] => [n]
 | x :: l => if x < n then x :: putL n l else if x = n then x :: l else n :: x :: l
theorem mem_putL (n : Int) : ∀ (l : List Int) (z : Int), z ∈ putL n l ↔ z = n ∨ z ∈ l
 | [], z => by simp [putL]
 | x :: l, z => by
  rw [putL]
  split
  ·rw [List.mem_cons, mem_putL n l z, List.mem_cons]
   constructor
   ·rintro (h | h | h)
    ·exact .inr (.inl h)
    ·exact .inl h
    ·exact .inr (.inr h)
   ·rintro (h | h | h)
    ·exact .inr (.inl h)
    ·exact .inl h
    ·exact .inr (.inr h)
  ·split
   next _ e => 
    subst e
    simp
   ·simp
theorem asc_putL (n : Int) : ∀ {l : List Int}, l.Pairwise (· < ·) → (putL n l).Pairwise (· < ·)
 | [], _ => by simp [putL]
 | x :: l, h => by
  rw [List.pairwise_cons] at h
  rw [putL]
  split
  next c =>
   rw [List.pairwise_cons]
   refine ⟨fun z hz => ?_, asc_putL n h.2⟩
   rcases (mem_putL n l z).1 hz with e | e
   ·omega
   ·exact h.1 z e
  next c =>
   split
   next e => exact List.pairwise_cons.2 h
   next e =>
    rw [List.pairwise_cons]
    refine ⟨fun z hz => ?_, List.pairwise_cons.2 h⟩
    rcases List.mem_cons.1 hz with e2 | e2
    ·omega
    ·have := h.1 z e2
     omega
theorem putL_length (n : Int) : ∀ l : List Int, (putL n l).length ≤ l.length + 1
 | [] => by simp [putL]
 | x :: l => by
  have := putL_length n l
  rw [putL]
  split
  ·rw [List.length_cons, List.length_cons]; omega
  ·split
   ·exact Nat.le_succ _
   ·rw [List.length_cons]; exact Nat.le_refl _
theorem l1Put_ev (l : List Int) (n : Int) (hl : l.length ≤ 1000000) : Ev (fun k => spec_l1Put.f k l n) (putL n l) := by
 have key : ∀ m i : Nat, i + m = l.length → Ev (fun k => spec_l1Put.l0 k l n (i : Int)) (l.take i ++ putL n (l.drop i)) := by
  intro m
  induction m with
  | zero =>
   intro i hi
   have e1 : (l.take (i : Int).toNat).length = i := by rw [Int.toNat_natCast, List.length_take]; omega
   refine Ev.step (fun k => rfl) (ev_neg (by omega) (ev_some (ev_pos (by omega) (ev_pos (by omega) (ev_some (ev_pos (by rw [e1]; simp; omega) (ev_some (ev_some (ev_pos (by rw [List.length_append, e1]; simp; omega) (ev_some (ev_some (ev_pos (by rw [List.length_append, List.length_append, e1, List.length_drop]; simp; omega) (ev_now ?_)))))))))))))
   rw [Int.toNat_natCast, List.nil_append, List.drop_eq_nil_of_le (by omega), putL, List.append_nil]
  | succ m ih =>
   intro i hi
   have hlt : i < l.length := by omega
   have e1 : (l.take (i : Int).toNat).length = i := by rw [Int.toNat_natCast, List.length_take]; omega
   have hrd : rd l (i : Int) = l[i] := by rw [rd_nat, getD_in hlt]
   have hdr : l.drop i = l[i] :: l.drop (i + 1) := List.drop_eq_getElem_cons hlt
   refine Ev.step (fun k => rfl) (ev_pos (by omega) (ev_pos (by omega) ?_))
   rw [hrd]
   by_cases c : l[i] < n
   ·refine ev_pos c ?_
    rw [wrap_succ hlt (by omega)]
    refine ev_cast (ih (i + 1) (by omega)) ?_
    rw [List.take_succ_eq_append_getElem hlt, hdr, putL, if_pos c, List.append_assoc]
    rfl
   refine ev_neg c ?_
   by_cases d : l[i] = n
   ·refine ev_pos d (ev_now ?_)
    rw [hdr, putL, if_neg c, if_pos d, ← hdr, List.take_append_drop]
   refine ev_neg d (ev_some (ev_pos (by omega) (ev_some (ev_pos (by rw [e1]; simp; omega) (ev_some (ev_some (ev_pos (by rw [List.length_append, e1]; simp; omega) (ev_some (ev_some (ev_pos (by rw [List.length_append, List.length_append, e1, List.length_drop]; simp; omega) (ev_now ?_)))))))))))
   rw [Int.toNat_natCast, List.nil_append, hdr, putL, if_neg c, if_neg d, List.append_assoc]
   rfl
 have h := key l.length 0 (by omega)
 rw [List.take_zero, List.drop_zero, List.nil_append] at h
 exact h
end Go.Proofs.Ytdbhelhoaciodaa.X
set_option linter.unusedVariables false
set_option linter.unusedSimpArgs false
set_option linter.unusedSectionVars false
namespace Go.Proofs.Ytdbhelhoaciodaa.X
open Go.RowKit Go.Proofs.YtdbhelhoaciodaaW.PrintWords Go.Proofs.Ytdbhelhoaciodaa.E
theorem sort_put {l : List Int} (h : l.Pairwise (· < ·)) {n : Int} (hn : n ∉ l) : (l ++ [n]).mergeSort (fun x y => decide (x ≤ y)) = putL n l := by
 have hs : ((l ++ [n]).mergeSort fun x y => decide (x ≤ y)).Pairwise (· ≤ ·) := by
  have := List.pairwise_mergeSort (le := fun x y : Int => decide (x ≤ y)) (fun a b c h1 h2 => by simp at *; omega) (fun a b => by simp; omega) (l ++ [n])
  exact this.imp (fun h => by simpa using h)
 have hnd : ((l ++ [n]).mergeSort fun x y => decide (x ≤ y)).Nodup := by
  rw [(List.mergeSort_perm (l ++ [n]) (fun x y => decide (x ≤ y))).nodup_iff]
  rw [List.nodup_append]
  refine ⟨h.imp (fun h => by omega), by simp, fun a ha b hb => ?_⟩
  rw [List.mem_singleton] at hb
  subst hb
  intro e
  subst e
  exact hn ha
 refine asc_ext ((hs.and hnd).imp (fun h => by have := h.1; have := h.2; omega)) (asc_putL n h) (fun z => ?_)
 rw [List.mem_mergeSort, List.mem_append, List.mem_singleton, mem_putL]
 exact Or.comm
def keepL (number : Int) (l : List Int) : List Int := l.filter (fun n => !(n == number))
def spList (number tt : Int) (x : Box) : List Int := if x.f0 = tt then putL number (keepL number x.f1) else keepL number x.f1
def spBoxes (number tt : Int) (l : List Box) : List Box := l.map (fun x => ⟨x.f0, spList number tt x⟩)
theorem keepL_asc (number : Int) {l : List Int} (h : l.Pairwise (· < ·)) : (keepL number l).Pairwise (· < ·) := h.sublist List.filter_sublist
theorem keepL_not (number : Int) (l : List Int) : number ∉ keepL number l := by
 unfold keepL
 intro h
 have := (List.mem_filter.1 h).2
 simp at this
theorem same_boxes (number tt : Int) (l : List Box) (h : ∀ b ∈ l, b.f1.Pairwise (· < ·)) : mvBoxes number tt l = spBoxes number tt l := by
 unfold mvBoxes spBoxes
 refine List.map_congr_left (fun x hx => ?_)
 congr 1
 unfold mvList spList
 split
 ·exact sort_put (keepL_asc number (h x hx)) (keepL_not number x.f1)
 ·rfl
section
variable {items : List Item} {boxes : List Box} {cap number tt : Int} (hbl : boxes.length ≤ 12) (h12 : ∀ b ∈ boxes, b.f1.length ≤ 12)
include hbl h12
theorem mvIn_ev {i : Nat} (hlt : i < boxes.length) (out : List Box) (ho : out.length ≤ 12) (found : Bool) {y : List Box × Bool} : ∀ (m j : Nat) (s : List Int), j + m = boxes[i].f1.length → s.length ≤ j →
  Ev (fun k => spec_MoveItem.l0 k items boxes cap number tt (out ++ [⟨boxes[i].f0, if boxes[i].f0 = tt then putL number (s ++ keepL number (boxes[i].f1.drop j)) else s ++ keepL number (boxes[i].f1.drop j)⟩]) (found || (boxes[i].f0 == tt)) ((i + 1 : Nat) : Int)) y → Ev (fun k => spec_MoveItem.l1 k items boxes cap number tt out found (i : Int) s (j : Int)) y := by
 have hrd : rd_T80 boxes (i : Int) = boxes[i] := by unfold rd_T80; rw [Int.toNat_natCast, getD_in hlt]
 have hb := h12 _ (List.getElem_mem hlt)
 intro m
 induction m with
 | zero =>
  intro j s hj hs h
  rw [List.drop_eq_nil_of_le (by omega), show keepL number [] = [] from rfl, List.append_nil] at h
  refine Ev.step (fun k => rfl) (ev_pos (by omega) (ev_pos (by omega) ?_))
  rw [hrd]
  refine ev_neg (by omega) ?_
  rw [wrap_succ hlt (by omega)]
  by_cases c : boxes[i].f0 = tt
  ·rw [if_pos c, show (boxes[i].f0 == tt) = true from beq_iff_eq.2 c, Bool.or_true] at h
   exact ev_pos c (Ev.bind (l1Put_ev s number (by omega)) (ev_pos (by omega) h))
  ·rw [if_neg c, show (boxes[i].f0 == tt) = false from beq_eq_false_iff_ne.2 c, Bool.or_false] at h
   exact ev_neg c (ev_pos (by omega) h)
 | succ m ih =>
  intro j s hj hs h
  have hjl : j < boxes[i].f1.length := by omega
  rw [List.drop_eq_getElem_cons hjl] at h
  refine Ev.step (fun k => rfl) (ev_pos (by omega) (ev_pos (by omega) ?_))
  rw [hrd]
  refine ev_pos (by omega) (ev_pos (by omega) ?_)
  rw [rd_nat, getD_in hjl, wrap_succ hjl (by omega)]
  unfold keepL at h
  by_cases c : boxes[i].f1[j] = number
  ·rw [List.filter_cons_of_neg (by simpa using c)] at h
   exact ev_pos c (ih (j + 1) s (by omega) (by omega) h)
  ·have hap : ∀ r : List Int, s ++ boxes[i].f1[j] :: r = (s ++ [boxes[i].f1[j]]) ++ r := fun r => List.append_cons ..
   rw [List.filter_cons_of_pos (by simpa using c), hap] at h
   exact ev_neg c (ev_pos (by omega) (ih (j + 1) (s ++ [boxes[i].f1[j]]) (by omega) (by rw [List.length_append, List.length_singleton]; omega) h))
theorem mvOut_ev {y : List Box × Bool} : ∀ (m i : Nat) (out : List Box) (found : Bool), i + m = boxes.length → out.length ≤ i →
  Ev (fun k => spec_MoveItem.l0 k items boxes cap number tt (out ++ spBoxes number tt (boxes.drop i)) (found || (boxes.drop i).any (fun b => b.f0 == tt)) (boxes.length : Int)) y → Ev (fun k => spec_MoveItem.l0 k items boxes cap number tt out found (i : Int)) y := by
 intro m
 induction m with
 | zero =>
  intro i out found hi ho h
  rw [List.drop_eq_nil_of_le (by omega), show spBoxes number tt [] = [] from rfl, List.append_nil, List.any_nil, Bool.or_false] at h
  have e : i = boxes.length := by omega
  rw [e]
  exact h
 | succ m ih =>
  intro i out found hi ho h
  have hlt : i < boxes.length := by omega
  rw [List.drop_eq_getElem_cons hlt, List.any_cons, ← Bool.or_assoc, show spBoxes number tt (boxes[i] :: boxes.drop (i + 1)) = ⟨boxes[i].f0, spList number tt boxes[i]⟩ :: spBoxes number tt (boxes.drop (i + 1)) from rfl, List.append_cons] at h
  refine Ev.step (fun k => rfl) (ev_pos (by omega) ?_)
  have g := mvIn_ev (items := items) (cap := cap) (number := number) (tt := tt) hbl h12 hlt out (by omega) found (y := y) boxes[i].f1.length 0 [] (by omega) (by simp)
  refine g ?_
  rw [List.drop_zero, List.nil_append]
  have q := ih (i + 1) (out ++ [⟨boxes[i].f0, spList number tt boxes[i]⟩]) (found || (boxes[i].f0 == tt)) (by omega) (by rw [List.length_append, List.length_singleton]; omega) h
  exact q
end
theorem small_sp (number tt : Int) (boxes : List Box) (hbl : boxes.length ≤ 12) (h12 : ∀ b ∈ boxes, b.f1.length ≤ 12) : small (spBoxes number tt boxes) ∧ (∀ b ∈ spBoxes number tt boxes, b.f1.length ≤ 13) ∧ (spBoxes number tt boxes).length = boxes.length := by
 have hl : (spBoxes number tt boxes).length = boxes.length := List.length_map ..
 have h13 : ∀ b ∈ spBoxes number tt boxes, b.f1.length ≤ 13 := by
  intro b hb
  obtain ⟨x, hx, rfl⟩ := List.mem_map.1 hb
  have h1 := h12 x hx
  have h2 : (keepL number x.f1).length ≤ x.f1.length := List.length_filter_le _ _
  show (spList number tt x).length ≤ 13
  unfold spList
  split
  ·have := putL_length number (keepL number x.f1)
   omega
  ·omega
 refine ⟨?_, h13, hl⟩
 have hsum : ∀ L : List Box, (∀ b ∈ L, b.f1.length ≤ 13) → (L.map (fun b => b.f1.length)).sum ≤ 13 * L.length := by
  intro L
  induction L with
  | nil => intro _; simp
  | cons b L ih =>
   intro h
   have h1 := ih (fun b' hb' => h b' (List.mem_cons_of_mem _ hb'))
   have h2 := h b List.mem_cons_self
   rw [List.map_cons, List.sum_cons, List.length_cons]
   omega
 have := hsum _ h13
 unfold small
 omega
theorem good_boxes {items : List Item} {boxes : List Box} {cap : Int} (h : good items boxes cap = true) : boxes.length ≤ 12 ∧ (∀ b ∈ boxes, b.f1.length ≤ 12) ∧ ∀ b ∈ boxes, b.f1.Pairwise (· < ·) := by
 unfold good at h
 simp only [Bool.and_eq_true, decide_eq_true_eq] at h
 obtain ⟨⟨⟨h1, h2⟩, h3⟩, h4⟩ := h
 have hs := sane_of h1
 unfold goodR at h4
 split at h4
 case isFalse => cases h4
 case isTrue hall =>
  have hn : (prevL boxes boxes.length).length = items.length := by
   have : ((prevL boxes boxes.length).length : Int) = (items.length : Int) := by simpa using h4
   omega
  refine ⟨by omega, fun b hb => ?_, fun b hb => ?_⟩
  ·have hp : prevL boxes boxes.length = boxes.flatMap (fun b => b.f1) := by unfold prevL; rw [List.take_length]
   rw [hp, List.length_flatMap] at hn
   have := le_sum (f := fun b : Box => b.f1.length) hb
   have := hs.1
   omega
  ·obtain ⟨i, hi, rfl⟩ := List.getElem_of_mem hb
   have hbx := all_range.1 hall i hi
   unfold boxS at hbx
   simp only [Bool.and_eq_true] at hbx
   have hr := all_range.1 hbx.1.1.2
   have he : bx boxes i = boxes[i] := getD_in hi _
   rw [he] at hr
   rw [List.pairwise_iff_getElem]
   intro p q hp hq hpq
   have := rise_lt hq (fun j hj h0 => by
    have := hr j (by omega)
    unfold riseAt at this
    simp only [Bool.and_eq_true, decide_eq_true_eq] at this
    exact this.2 h0) p hpq
   rw [getD_in hp, getD_in hq] at this
   exact this
theorem move_both (items : List Item) (boxes : List Box) (cap number tt : Int) (hl : items.length ≤ 9223372036854775807) (hsm : small boxes) :
  ∃ (a : List Box) (c : Bool), a.length ≤ 12 ∧ (∀ b ∈ a, b.f1.length ≤ 13) ∧ Ev (fun k => spec_MoveItem.f k items boxes cap number tt) (a, c) ∧ Ev (fun k => impl_MoveItem.f k items boxes cap number tt) (a, c) := by
 have h1 := specGood_ev items boxes cap hl hsm
 have h2 := implValid_ev items boxes cap hl hsm
 rw [← good_same] at h2
 have no1 : Ev (fun k => spec_MoveItem.j0 k items boxes cap number tt [] true) (([] : List Box), false) := Ev.step (fun k => rfl) (ev_now rfl)
 cases hv : good items boxes cap
 ·rw [hv] at h1 h2
  exact ⟨[], false, by simp, by simp, ev_some (Ev.bind h1 (ev_neg (by simp) no1)), Ev.bind h2 (ev_neg (by simp) (ev_now rfl))⟩
 rw [hv] at h1 h2
 obtain ⟨hbl, h12, hasc⟩ := good_boxes hv
 by_cases cq : fnd items number < 0
 ·refine ⟨[], false, by simp, by simp, ev_some (Ev.bind h1 (ev_pos rfl (Ev.bind (l26Find_ev items number hl) ?_))), Ev.bind h2 (ev_pos rfl (ev_bind0 (itemOf_eq items number) (ev_pos cq (ev_now rfl))))⟩
  rw [decide_eq_true cq]
  exact no1
 obtain ⟨hsp, h13, hspl⟩ := small_sp number tt boxes hbl h12
 have hspec : ∀ y, Ev (fun k => spec_MoveItem.l0 k items boxes cap number tt (spBoxes number tt boxes) (boxes.any (fun b => b.f0 == tt)) (boxes.length : Int)) y → Ev (fun k => spec_MoveItem.f k items boxes cap number tt) y := by
  intro y h
  refine ev_some (Ev.bind h1 (ev_pos rfl (Ev.bind (l26Find_ev items number hl) ?_)))
  rw [decide_eq_false cq]
  refine Ev.step (fun k => rfl) ?_
  simp only [spec_MoveItem.j0]
  refine ev_neg (by simp) ?_
  have g := mvOut_ev (items := items) (cap := cap) (number := number) (tt := tt) hbl h12 (y := y) boxes.length 0 [] false (by omega) (by simp)
  refine g ?_
  rw [List.drop_zero, List.nil_append, Bool.false_or]
  exact h
 have hms : mvSmall boxes = true := by
  unfold mvSmall
  rw [Bool.and_eq_true, decide_eq_true_eq, List.all_eq_true]
  exact ⟨by omega, fun x hx => decide_eq_true (by have := h12 x hx; omega)⟩
 cases hA : boxes.any (fun b => b.f0 == tt)
 ·refine ⟨[], false, by simp, by simp, hspec _ ?_, Ev.bind h2 (ev_pos rfl (ev_bind0 (itemOf_eq items number) (ev_neg cq (ev_neg (by rw [hA]; simp) (ev_now rfl)))))⟩
  rw [hA]
  exact Ev.step (fun k => rfl) (ev_neg (by omega) (ev_neg (by simp) (ev_now rfl)))
 ·have h3 := specGood_ev items (spBoxes number tt boxes) cap hl hsp
  have h4 := implValid_ev items (spBoxes number tt boxes) cap hl hsp
  rw [← good_same] at h4
  rw [hA] at hspec
  have hmv := same_boxes number tt boxes hasc
  have hi : ∀ y, Ev (fun k => (impl_IsValidArchive.f k items (spBoxes number tt boxes) cap).bind fun t2 => (if t2 = true then (some (spBoxes number tt boxes, true)) else (some (([] : List Box), false)))) y → Ev (fun k => impl_MoveItem.f k items boxes cap number tt) y := by
   intro y h
   refine Ev.bind h2 (ev_pos rfl (ev_bind0 (itemOf_eq items number) (ev_neg cq (ev_pos hA (ev_pos hms ?_)))))
   rw [hmv]
   exact h
  cases hg : good items (spBoxes number tt boxes) cap
  ·rw [hg] at h3 h4
   exact ⟨[], false, by simp, by simp, hspec _ (Ev.step (fun k => rfl) (ev_neg (by omega) (ev_pos rfl (Ev.bind h3 (ev_neg (by simp) (ev_now rfl)))))), hi _ (Ev.bind h4 (ev_neg (by simp) (ev_now rfl)))⟩
  ·rw [hg] at h3 h4
   exact ⟨_, true, by rw [hspl]; exact hbl, h13, hspec _ (Ev.step (fun k => rfl) (ev_neg (by omega) (ev_pos rfl (Ev.bind h3 (ev_pos rfl (ev_now rfl)))))), hi _ (Ev.bind h4 (ev_pos rfl (ev_now rfl)))⟩
end Go.Proofs.Ytdbhelhoaciodaa.X
namespace Go.Proofs.Ytdbhelhoaciodaa.X
open Go.RowKit Go.Proofs.YtdbhelhoaciodaaW.PrintWords Go.Proofs.YtdbhelhoaciodaaW.PrintLast Go.Proofs.YtdbhelhoaciodaaW.PrintMore
attribute [local go_sem] max2_int min2_int max_two min_two max_three min_three max_four min_four
set_option linter.unusedVariables false
set_option linter.unusedSimpArgs false
attribute [-simp] ByteArray.size_append ByteArray.size_extract
attribute [-go_sem] ByteArray.size_append'
/-! ### laws_markText: function 95 -/
def laws_markText.l0 : Nat → Int → ByteArray → Option (ByteArray)
 | 0, _, _ => none
 | k + 1, x0, x3 => if x0 > 0 then ((some (([(wrap64 (48 + (Int.tmod x0 10))) % 256] : List Int) : List Int)).bind fun y101 => (if (strOfNums y101).size + x3.size ≤ 9223372036854775807 then (laws_markText.l0 k (wrap64 (Int.tdiv x0 10)) ((strOfNums y101) ++ x3)) else (none))) else (if 1 + x3.size ≤ 9223372036854775807 then (some ((⟨#[109]⟩ : ByteArray) ++ x3)) else (none))
def laws_markText.f (k : Nat) (a0 : Int) : Option (ByteArray) := if a0 ≤ 0 then (some (⟨#[109, 48]⟩ : ByteArray)) else (laws_markText.l0 k a0 (⟨#[]⟩ : ByteArray))
set_option maxHeartbeats 8000000 in
set_option maxRecDepth 100000 in
theorem laws_markText.calls (k : Nat) (a0 : Int) (r : ByteArray) (w : World) (h : laws_markText.f k a0 = some r) :
  Calls Try.prog 95 #[.int .i64 a0] w fun e w' => e = .returned (.string r) ∧ Below w.heap.size w w' := by
 (have HB := Aside0.mk (Below.refl w.heap.size w)); (unfold laws_markText.f at h); (have H := h); clear h; (by_cases c2 : a0 ≤ 0); (· (rw [if_pos c2] at H); (have c2b0 := decide_eq_true c2); clear c2; (obtain rfl := Option.some.inj H); (go_enter Try.func95, Try.ntmps95); (go_wp2); go_ret; (exact Q18))
 ·rw [if_neg c2] at H
  (have c2b0 := decide_eq_false c2); clear c2; (have H' := Aside0.mk H); clear H; (go_enter Try.func95, Try.ntmps95); (go_wp2); (go_loopg [0, 3] k (fun kq v0 v3 w' => ∃ (x0_1 : Int) (x3_1 : ByteArray), v0 = .int .i64 x0_1 ∧ v3 = .string x3_1 ∧ Aside0 (laws_markText.l0 kq x0_1 x3_1 = some r) ∧ Aside0 (kq ≤ k) ∧ Aside0 (Below w.heap.size w w')))
  case atStart => exact ⟨(a0), ((⟨#[]⟩ : ByteArray)), Q6, Q6, H', ⟨Nat.le_refl _⟩, ⟨eI HB⟩⟩
  case round =>
   (clear H'); (try clear c2); (try clear c2b0); (try clear p2); (obtain ⟨x0_1, x3_1, rfl, rfl, HA, HK1, HB⟩ := hrel)
   cases gk with
   | zero => exact absurd HA.out (by simp [laws_markText.l0])
   | succ k1 =>
    (have H := HA.out); clear HA; (simp only [laws_markText.l0] at H); (by_cases c3 : x0_1 > 0)
    ·rw [if_pos c3] at H
     (have c3b0 : decide (0 < x0_1) = true := decide_eq_true c3); clear c3; (obtain ⟨y101, hy101⟩ : ∃ y_ : List Int, y_ = (([(wrap64 (48 + (Int.tmod x0_1 10))) % 256] : List Int)) := ⟨_, rfl⟩); (replace H : (if (strOfNums y101).size + x3_1.size ≤ 9223372036854775807 then (laws_markText.l0 k1 (wrap64 (Int.tdiv x0_1 10)) ((strOfNums y101) ++ x3_1)) else (none)) = some r := Q3); (have Ny101 := Aside0.mk hy101); clear hy101; (by_cases c4 : (strOfNums y101).size + x3_1.size ≤ 9223372036854775807)
     ·rw [if_pos c4] at H
      (have c4b0 := eq_true c4); (have c4b1 := decide_eq_true c4); (try have c4b2 : (9223372036854775807 < (strOfNums y101).size + x3_1.size) = False := eq_false (Nat.not_lt.2 c4)); (have H' := Aside0.mk H); clear H; (go_wp2_with (first | ((with_reducible refine gate_dst (N := 12) rfl ?_); refine Kd.R_lit (Kd.int .u8) _ 5 ?hg (N := 12) ?hd (xs := ([(wrap64 (48 + (Int.tmod x0_1 10))) % 256] : List Int)) (inner := [.int .u8 ((wrap64 (48 + (Int.tmod x0_1 10))) % 256)]) (ok := fun _ => True) (okp := fun _ => True) ?hr ?hp (fun _ hk => hk) trivial (Below.refl _ _) (Nat.le_refl _) (by simp) ?_; (case hd => rfl); (case hg => rfl); (case hr => first | (go_simp; done) | (go_simp; rfl)); (case hp => exact (Reps.one (show Kd.M (Kd.int .u8) _ _ _ ((wrap64 (48 + (Int.tmod x0_1 10))) % 256) [.int .u8 ((wrap64 (48 + (Int.tmod x0_1 10))) % 256)] from rfl) (Reps.none _ _))); intro v102 w5 ho6 hb hg_ hnew_; clear hg_ hnew_; (first | rw [← Ny101.out] at ho6 | (simp only [Int.reduceToNat] at ho6; rw [← Ny101.out] at ho6)); have hB_ := zI hb HB; have n0_ := Aside0.mk (Kd.R_lower ho6 (below_size hB_)); have n1_ := Aside0.mk (below_step hB_ hb); clear HB; have HO103 := n0_; have HB := n1_; clear n0_ n1_ hB_ hb ho6; have hcv7 := own_string (P := Try.prog) Try.underlying150 Try.underlying5 Try.underlying9 (Kd.own_of_R HO103.out)))); go_roundg k1
      case measure => have := HK1.out; omega
      case rel => exact ⟨(wrap64 (Int.tdiv x0_1 10)), ((strOfNums y101) ++ x3_1), Q6, Q6, H', ⟨Q7⟩, ⟨eI HB⟩⟩
     ·rw [if_neg c4] at H
      exact Q8
    ·rw [if_neg c3] at H
     (have c3b0 : decide (0 < x0_1) = false := decide_eq_false c3); clear c3; (by_cases c8 : 1 + x3_1.size ≤ 9223372036854775807); (· (rw [if_pos c8] at H); (have c8b0 := eq_true c8); (have c8b1 := decide_eq_true c8); (try have c8b2 : (9223372036854775807 < 1 + x3_1.size) = False := eq_false (Nat.not_lt.2 c8)); (obtain rfl := Option.some.inj H); (go_wp2); go_ret; (exact Q18)); (· (rw [if_neg c8] at H); (exact Q8))
end Go.Proofs.Ytdbhelhoaciodaa.X
set_option linter.unusedVariables false
set_option linter.unusedSimpArgs false
namespace Go.Proofs.Ytdbhelhoaciodaa.X
open Go.RowKit Go.Proofs.YtdbhelhoaciodaaW.PrintWords Go.Proofs.Ytdbhelhoaciodaa.E
end Go.Proofs.Ytdbhelhoaciodaa.X
set_option linter.unusedVariables false
set_option linter.unusedSimpArgs false
namespace Go.Proofs.Ytdbhelhoaciodaa.X
open Go.RowKit Go.Proofs.YtdbhelhoaciodaaW.PrintWords Go.Proofs.Ytdbhelhoaciodaa.E
def mkIt (q : Int) (_ : S83) : S83 := ⟨q, q + 1, q + 2⟩
theorem sum3 {α : Type} (L : List α) : (L.map (fun _ => 3)).sum = 3 * L.length := by
 induction L with
 | nil => rfl
 | cons e L ih => rw [List.map_cons, List.sum_cons, ih, List.length_cons]; omega
theorem markItem (L : List S83) (q : Int) (h0 : 0 ≤ q) (hq : q + 3 * L.length ≤ 4611686018427387904) : Ev (fun k => laws_markItemS.f k L q) (q + (3 * L.length : Nat), markAll mkIt (fun _ => 3) q L) := by
 have h := ev_mark (L := fun k l q i => laws_markItemS.l0 k l q i) L mkIt (fun _ => 3) (fun out q ho => Ev.step (fun k => rfl) (ev_neg (by omega) (ev_now rfl))) ?hs q h0 (by rw [sum3]; omega)
 case hs =>
  intro out q i x y hi ho hx hxm hg h0 hb h
  have hw1 : wrap64 (q + 1) = q + 1 := wrap_id (by omega) (by omega)
  have hw2 : wrap64 (q + 1 + 1) = q + 2 := by rw [wrap_id (by omega) (by omega)]; omega
  have hw3 : wrap64 (q + 2 + 1) = q + (3 : Nat) := by rw [wrap_id (by omega) (by omega)]; omega
  have hr : ∀ a, rd_T83 (out.set i a) (i : Int) = a := by
   intro a
   unfold rd_T83
   rw [Int.toNat_natCast, List.getD_eq_getElem?_getD, List.getElem?_set_self (by omega)]
   rfl
  refine Ev.step (fun k => rfl) (ev_pos (by omega) (ev_pos (by omega) (ev_some (ev_some ?_))))
  simp only [Int.toNat_natCast, List.set_set, hr, hw1, hw2, hw3]
  rw [wrap_succ hi (by omega)]
  exact h
 rw [sum3] at h
 exact h
end Go.Proofs.Ytdbhelhoaciodaa.X
set_option linter.unusedVariables false
set_option linter.unusedSimpArgs false
namespace Go.Proofs.Ytdbhelhoaciodaa.X
open Go.RowKit Go.Proofs.YtdbhelhoaciodaaW.PrintWords Go.Proofs.Ytdbhelhoaciodaa.E
def mkI (q : Int) (_ : Int) : Int := q
theorem sum1i {α : Type} (L : List α) : (L.map (fun _ => 1)).sum = L.length := by
 induction L with
 | nil => rfl
 | cons e L ih => rw [List.map_cons, List.sum_cons, ih, List.length_cons]; omega
theorem markInt (L : List Int) (q : Int) (h0 : 0 ≤ q) (hq : q + L.length ≤ 4611686018427387904) : Ev (fun k => laws_markIntS.f k L q) (q + (L.length : Nat), markAll mkI (fun _ => 1) q L) := by
 have h := ev_mark (L := fun k l q i => laws_markIntS.l0 k l q i) L mkI (fun _ => 1) (fun out q ho => Ev.step (fun k => rfl) (ev_neg (by omega) (ev_now rfl))) ?hs q h0 (by rw [sum1i]; omega)
 case hs =>
  intro out q i x y hi ho hx hxm hg h0 hb h
  have hw1 : wrap64 (q + 1) = q + (1 : Nat) := by rw [wrap_id (by omega) (by omega)]; omega
  refine Ev.step (fun k => rfl) (ev_pos (by omega) (ev_pos (by omega) ?_))
  rw [hw1, wrap_succ hi (by omega), Int.toNat_natCast]
  exact h
 rw [sum1i] at h
 exact h
theorem heldInt (L : List Int) (q0 : Int) (h0 : 0 ≤ q0) (hq : q0 + L.length ≤ 4611686018427387904) : Ev (fun k => laws_heldIntS.f k (markAll mkI (fun _ => 1) q0 L) q0) (q0 + (L.length : Nat)) := by
 have hlen := markAll_length mkI (fun _ => 1) L q0
 have h := ev_held (H := fun k q i => laws_heldIntS.l0 k (markAll mkI (fun _ => 1) q0 L) q i) L (markAll mkI (fun _ => 1) q0 L) mkI (fun _ => 1) q0 rfl (fun q => Ev.step (fun k => rfl) (ev_neg (by omega) (ev_now rfl))) ?hs h0 (by rw [sum1i]; omega)
 case hs =>
  intro q i x y hi hxm hx hg h0 hb h
  have hw1 : wrap64 (q + 1) = q + (1 : Nat) := by rw [wrap_id (by omega) (by omega)]; omega
  have hr : rd (markAll mkI (fun _ => 1) q0 L) (i : Int) = q := by unfold rd; rw [Int.toNat_natCast]; exact hg _
  refine Ev.step (fun k => rfl) (ev_pos (by omega) (ev_pos (by omega) (ev_pos hr ?_)))
  rw [hw1, wrap_succ hi (by omega)]
  exact h
 rw [sum1i] at h
 exact h
end Go.Proofs.Ytdbhelhoaciodaa.X
set_option linter.unusedVariables false
set_option linter.unusedSimpArgs false
namespace Go.Proofs.Ytdbhelhoaciodaa.X
open Go.RowKit Go.Proofs.YtdbhelhoaciodaaW.PrintWords Go.Proofs.Ytdbhelhoaciodaa.E
def mkB (q : Int) (x : S80) : S80 := ⟨q, markAll mkI (fun _ => 1) (q + 1) x.f1⟩
def wB (x : S80) : Nat := 1 + x.f1.length
theorem wB_len (L : List S80) : L.length ≤ (L.map wB).sum := by
 induction L with
 | nil => exact Nat.le_refl _
 | cons e L ih => rw [List.map_cons, List.sum_cons, List.length_cons]; unfold wB at *; omega
theorem markBox (L : List S80) (q : Int) (h0 : 0 ≤ q) (hq : q + (((L.map wB).sum : Nat) : Int) ≤ 4611686018427387904) : Ev (fun k => laws_markArchiveBoxS.f k L q) (q + (((L.map wB).sum : Nat) : Int), markAll mkB wB q L) := by
 refine ev_mark (L := fun k l q i => laws_markArchiveBoxS.l0 k l q i) L mkB wB (fun out q ho => Ev.step (fun k => rfl) (ev_neg (by omega) (ev_now rfl))) ?hs q h0 (by omega)
 case hs =>
  intro out q i x y hi ho hx hxm hg h0 hb h
  have hc : (wB x : Int) = 1 + (x.f1.length : Int) := by unfold wB; omega
  have hle : wB x ≤ (L.map wB).sum := le_sum hxm
  have hll := wB_len L
  have e1 : wrap64 (q + 1) = q + 1 := wrap_id (by omega) (by omega)
  have hrd : rd_T80 out (i : Int) = x := by unfold rd_T80; rw [Int.toNat_natCast]; exact hg _
  refine Ev.step (fun k => rfl) (ev_pos (by omega) (ev_pos (by omega) ?_))
  simp only [e1, hrd]
  refine Ev.bind (markInt x.f1 (q + 1) (by omega) (by omega)) ?_
  have e3 : q + 1 + ((x.f1.length : Nat) : Int) = q + (wB x : Int) := by omega
  simp only [e3]
  rw [wrap_succ hi (by omega), Int.toNat_natCast]
  exact h
end Go.Proofs.Ytdbhelhoaciodaa.X
set_option linter.unusedVariables false
set_option linter.unusedSimpArgs false
namespace Go.Proofs.Ytdbhelhoaciodaa.X
open Go.RowKit Go.Proofs.YtdbhelhoaciodaaW.PrintWords Go.Proofs.Ytdbhelhoaciodaa.E
theorem heldBox (L : List S80) (q0 : Int) (h0 : 0 ≤ q0) (hq : q0 + (((L.map wB).sum : Nat) : Int) ≤ 4611686018427387904) : Ev (fun k => laws_heldArchiveBoxS.f k (markAll mkB wB q0 L) q0) (q0 + (((L.map wB).sum : Nat) : Int)) := by
 have hlen := markAll_length mkB wB L q0
 refine ev_held (H := fun k q i => laws_heldArchiveBoxS.l0 k (markAll mkB wB q0 L) q i) L (markAll mkB wB q0 L) mkB wB q0 rfl (fun q => Ev.step (fun k => rfl) (ev_neg (by omega) (ev_now rfl))) ?hs h0 (by omega)
 case hs =>
  intro q i x y hi hxm hx hg h0 hb h
  have hc : (wB x : Int) = 1 + (x.f1.length : Int) := by unfold wB; omega
  have hle : wB x ≤ (L.map wB).sum := le_sum hxm
  have hll := wB_len L
  have e1 : wrap64 (q + 1) = q + 1 := wrap_id (by omega) (by omega)
  have hrd : rd_T80 (markAll mkB wB q0 L) (i : Int) = mkB q x := by unfold rd_T80; rw [Int.toNat_natCast]; exact hg _
  refine Ev.step (fun k => rfl) (ev_pos (by omega) (ev_pos (by omega) ?_))
  simp only [e1, hrd]
  refine ev_pos rfl (Ev.bind (heldInt x.f1 (q + 1) (by omega) (by omega)) (ev_neg (by omega) ?_))
  have e3 : q + 1 + ((x.f1.length : Nat) : Int) = q + (wB x : Int) := by omega
  simp only [e3]
  rw [wrap_succ hi (by omega)]
  exact h
end Go.Proofs.Ytdbhelhoaciodaa.X
set_option linter.unusedVariables false
namespace Go.Proofs.Ytdbhelhoaciodaa.X
open Go.RowKit Go.Proofs.YtdbhelhoaciodaaW.PrintWords Go.Proofs.Ytdbhelhoaciodaa.E
def wt78 (x : S78) : Nat := x.f1.length
end Go.Proofs.Ytdbhelhoaciodaa.X
set_option linter.unusedVariables false
namespace Go.Proofs.Ytdbhelhoaciodaa.X
open Go.RowKit Go.Proofs.YtdbhelhoaciodaaW.PrintWords Go.Proofs.Ytdbhelhoaciodaa.E
theorem laws_szItemS_ev (x : List (S85)) (g0 : x.length ≤ 9223372036854775807) (left : Int) (h0 : 0 ≤ left) (h1 : left ≤ 4611686018427387904) :
  Ev (fun k => laws_szItemS.f x left) (if ((x.length : Nat) : Int) ≤ left then left - ((x.length : Nat) : Int) else -1) := by
 unfold laws_szItemS.f
 have e0 : wrap64 (left - ((x.length : Nat) : Int)) = left - ((x.length : Nat) : Int) := wrap_id (by omega) (by omega)
 simp only [e0]
 by_cases c : ((x.length : Nat) : Int) ≤ left
 case neg => exact ev_pos (by omega) (ev_now (by first | rfl | rw [if_neg (by omega)]))
 refine ev_neg (by omega) ?_
 exact ev_now (by first | rfl | rw [if_pos (by omega)])
end Go.Proofs.Ytdbhelhoaciodaa.X
set_option linter.unusedVariables false
namespace Go.Proofs.Ytdbhelhoaciodaa.X
open Go.RowKit Go.Proofs.YtdbhelhoaciodaaW.PrintWords Go.Proofs.Ytdbhelhoaciodaa.E
theorem laws_szIntS_ev (x : List (Int)) (g0 : x.length ≤ 9223372036854775807) (left : Int) (h0 : 0 ≤ left) (h1 : left ≤ 4611686018427387904) :
  Ev (fun k => laws_szIntS.f x left) (if ((x.length : Nat) : Int) ≤ left then left - ((x.length : Nat) : Int) else -1) := by
 unfold laws_szIntS.f
 have e0 : wrap64 (left - ((x.length : Nat) : Int)) = left - ((x.length : Nat) : Int) := wrap_id (by omega) (by omega)
 simp only [e0]
 by_cases c : ((x.length : Nat) : Int) ≤ left
 case neg => exact ev_pos (by omega) (ev_now (by first | rfl | rw [if_neg (by omega)]))
 refine ev_neg (by omega) ?_
 exact ev_now (by first | rfl | rw [if_pos (by omega)])
end Go.Proofs.Ytdbhelhoaciodaa.X
set_option linter.unusedVariables false
namespace Go.Proofs.Ytdbhelhoaciodaa.X
open Go.RowKit Go.Proofs.YtdbhelhoaciodaaW.PrintWords Go.Proofs.Ytdbhelhoaciodaa.E
theorem laws_szArchiveBox_ev (x : S78) (g0 : x.f1.length ≤ 9223372036854775807) (left : Int) (h0 : 0 ≤ left) (h1 : left ≤ 4611686018427387904) :
  Ev (fun k => laws_szArchiveBox.f (x.f0) (x.f1) left) (if (((wt78 x) : Nat) : Int) ≤ left then left - (((wt78 x) : Nat) : Int) else -1) := by
 unfold laws_szArchiveBox.f
 unfold wt78
 refine Ev.bind (laws_szIntS_ev _ (by assumption) _ (by omega) (by omega)) ?_
 by_cases c1 : ((x.f1.length : Nat) : Int) ≤ left
 case neg =>
  rw [if_neg c1]
  exact ev_pos (by omega) (ev_now (by first | rfl | rw [if_neg (by omega)]))
 rw [if_pos c1]
 refine ev_neg (by omega) ?_
 exact ev_now (by first | rfl | omega | (rw [if_pos (by omega)]; omega))
end Go.Proofs.Ytdbhelhoaciodaa.X
set_option linter.unusedVariables false
namespace Go.Proofs.Ytdbhelhoaciodaa.X
open Go.RowKit Go.Proofs.YtdbhelhoaciodaaW.PrintWords Go.Proofs.Ytdbhelhoaciodaa.E
theorem laws_szArchiveBoxS_ev (x : List (S78)) (g0 : x.length ≤ 9223372036854775807) (g1 : ∀ y ∈ x, (y.f1.length ≤ 9223372036854775807)) (left : Int) (h0 : 0 ≤ left) (h1 : left ≤ 4611686018427387904) :
  Ev (fun k => laws_szArchiveBoxS.f k x left) (if (((x.length + (x.map (fun y => (wt78 y))).sum) : Nat) : Int) ≤ left then left - (((x.length + (x.map (fun y => (wt78 y))).sum) : Nat) : Int) else -1) := by
 unfold laws_szArchiveBoxS.f
 have e0 : wrap64 (left - ((x.length : Nat) : Int)) = left - ((x.length : Nat) : Int) := wrap_id (by omega) (by omega)
 simp only [e0]
 by_cases c : ((x.length : Nat) : Int) ≤ left
 case neg => exact ev_pos (by omega) (ev_now (by first | rfl | rw [if_neg (by omega)]))
 refine ev_neg (by omega) ?_
 have h := ev_sz (L := fun k l i => laws_szArchiveBoxS.l0 k x l i) x (fun y => (wt78 y)) (fun l => Ev.step (fun k => rfl) (ev_neg (by omega) (ev_now rfl))) ?step (left - ((x.length : Nat) : Int)) (by omega) (by omega)
 case step =>
  intro l i y r l0 l1 hi hm hd hy hn
  refine Ev.step (fun k => rfl) (ev_pos (by omega) (ev_pos (by omega) ?_))
  simp only [rd_T78, Int.toNat_natCast, hd]
  have hg := g1 y hm
  refine Ev.bind (laws_szArchiveBox_ev y (by assumption) l l0 l1) ?_
  by_cases c1 : (((wt78 y) : Nat) : Int) ≤ l
  case neg => rw [if_neg c1]; exact ev_pos (by omega) (ev_now (hn c1).symm)
  rw [if_pos c1]
  refine ev_neg (by omega) ?_
  rw [wrap_succ hi (by omega)]
  exact hy c1
 refine ev_cast h ?_
 by_cases c2 : (((x.map (fun y => (wt78 y))).sum : Nat) : Int) ≤ left - ((x.length : Nat) : Int)
 ·rw [if_pos c2, if_pos (by omega)]; omega
 ·rw [if_neg c2, if_neg (by omega)]
end Go.Proofs.Ytdbhelhoaciodaa.X
set_option linter.unusedVariables false
namespace Go.Proofs.Ytdbhelhoaciodaa.X
open Go.RowKit Go.Proofs.YtdbhelhoaciodaaW.PrintWords Go.Proofs.Ytdbhelhoaciodaa.E
def conv85 (x : S85) : S83 := ⟨x.f0, x.f1, x.f2⟩
theorem laws_toItem_ev (x : S85) : Ev (fun k => laws_toItem.f (x.f0) (x.f1) (x.f2)) ((conv85 x).f0, (conv85 x).f1, (conv85 x).f2) := by
 unfold laws_toItem.f
 exact ev_now rfl
end Go.Proofs.Ytdbhelhoaciodaa.X
set_option linter.unusedVariables false
namespace Go.Proofs.Ytdbhelhoaciodaa.X
open Go.RowKit Go.Proofs.YtdbhelhoaciodaaW.PrintWords Go.Proofs.Ytdbhelhoaciodaa.E
theorem laws_toItemS_ev (x : List (S85)) (hb : x.length ≤ 1048576) : Ev (fun k => laws_toItemS.f k x) (x.map conv85) := by
 unfold laws_toItemS.f
 refine ev_pos (by omega) (ev_pos (by simp only [Int.toNat_natCast]; omega) ?_)
 simp only [Int.toNat_natCast]
 refine ev_fill (L := fun k o i => laws_toItemS.l0 k x o i) x conv85 _ (fun o => Ev.step (fun k => rfl) (ev_neg (by omega) (ev_now rfl))) ?_
 intro o i y r hi hx hd hl hk
 refine Ev.step (fun k => rfl) (ev_pos (by omega) (ev_pos (by omega) ?_))
 simp only [rd_T85, Int.toNat_natCast, hd]
 refine Ev.bind (laws_toItem_ev y) ?_
 refine ev_pos (by omega) ?_
 rw [wrap_succ hi (by omega)]
 exact hk
end Go.Proofs.Ytdbhelhoaciodaa.X
set_option linter.unusedVariables false
namespace Go.Proofs.Ytdbhelhoaciodaa.X
open Go.RowKit Go.Proofs.YtdbhelhoaciodaaW.PrintWords Go.Proofs.Ytdbhelhoaciodaa.E
theorem laws_toIntS_ev (x : List (Int)) (hb : x.length ≤ 1048576) : Ev (fun k => laws_toIntS.f k x) (x) := by
 unfold laws_toIntS.f
 refine ev_pos (by omega) (ev_pos (by simp only [Int.toNat_natCast]; omega) ?_)
 simp only [Int.toNat_natCast]
 refine ev_cast (r := x.map id) ?_ (List.map_id x)
 refine ev_fill (L := fun k o i => laws_toIntS.l0 k x o i) x id _ (fun o => Ev.step (fun k => rfl) (ev_neg (by omega) (ev_now rfl))) ?_
 intro o i y r hi hx hd hl hk
 refine Ev.step (fun k => rfl) (ev_pos (by omega) (ev_pos (by omega) ?_))
 simp only [rd, Int.toNat_natCast, hd]
 refine ev_pos (by omega) ?_
 rw [wrap_succ hi (by omega)]
 exact hk
end Go.Proofs.Ytdbhelhoaciodaa.X
set_option linter.unusedVariables false
namespace Go.Proofs.Ytdbhelhoaciodaa.X
open Go.RowKit Go.Proofs.YtdbhelhoaciodaaW.PrintWords Go.Proofs.Ytdbhelhoaciodaa.E
def conv78 (x : S78) : S80 := ⟨x.f0, x.f1⟩
theorem laws_toArchiveBox_ev (x : S78) (hb : (wt78 x) ≤ 1048576) : Ev (fun k => laws_toArchiveBox.f k (x.f0) (x.f1)) ((conv78 x).f0, (conv78 x).f1) := by
 unfold laws_toArchiveBox.f
 unfold wt78 at hb
 refine Ev.bind (laws_toIntS_ev x.f1 (by omega)) ?_
 exact ev_now rfl
end Go.Proofs.Ytdbhelhoaciodaa.X
set_option linter.unusedVariables false
namespace Go.Proofs.Ytdbhelhoaciodaa.X
open Go.RowKit Go.Proofs.YtdbhelhoaciodaaW.PrintWords Go.Proofs.Ytdbhelhoaciodaa.E
theorem laws_toArchiveBoxS_ev (x : List (S78)) (hb : (x.length + (x.map (fun y => (wt78 y))).sum) ≤ 1048576) : Ev (fun k => laws_toArchiveBoxS.f k x) (x.map conv78) := by
 unfold laws_toArchiveBoxS.f
 refine ev_pos (by omega) (ev_pos (by simp only [Int.toNat_natCast]; omega) ?_)
 simp only [Int.toNat_natCast]
 refine ev_fill (L := fun k o i => laws_toArchiveBoxS.l0 k x o i) x conv78 _ (fun o => Ev.step (fun k => rfl) (ev_neg (by omega) (ev_now rfl))) ?_
 intro o i y r hi hx hd hl hk
 refine Ev.step (fun k => rfl) (ev_pos (by omega) (ev_pos (by omega) ?_))
 simp only [rd_T78, Int.toNat_natCast, hd]
 have hq := le_sum (f := fun y => (wt78 y)) (List.mem_of_getElem? hx)
 refine Ev.bind (laws_toArchiveBox_ev y (by omega)) ?_
 refine ev_pos (by omega) ?_
 rw [wrap_succ hi (by omega)]
 exact hk
end Go.Proofs.Ytdbhelhoaciodaa.X
set_option linter.unusedVariables false
namespace Go.Proofs.Ytdbhelhoaciodaa.X
open Go.RowKit Go.Proofs.YtdbhelhoaciodaaW.PrintWords Go.Proofs.Ytdbhelhoaciodaa.E
theorem laws_eqItem_ev (x : S83) : Ev (fun k => laws_eqItem.f (x.f0) (x.f1) (x.f2) (x.f0) (x.f1) (x.f2)) true := by
 unfold laws_eqItem.f
 repeat' (first | exact ev_now rfl | refine ev_pos rfl ?_ | refine ev_neg (by simp) ?_)
end Go.Proofs.Ytdbhelhoaciodaa.X
set_option linter.unusedVariables false
namespace Go.Proofs.Ytdbhelhoaciodaa.X
open Go.RowKit Go.Proofs.YtdbhelhoaciodaaW.PrintWords Go.Proofs.Ytdbhelhoaciodaa.E
theorem laws_eqItemS_ev (x : List (S83)) (hl0 : x.length ≤ 9223372036854775807) : Ev (fun k => laws_eqItemS.f k x x) true := by
 unfold laws_eqItemS.f
 refine ev_pos rfl ?_
 refine ev_same (L := fun k i => laws_eqItemS.l0 k x x i) x.length (Ev.step (fun k => rfl) (ev_neg (by omega) (ev_now rfl))) ?_
 intro i hi hk
 refine Ev.step (fun k => rfl) (ev_pos (by omega) (ev_pos (by omega) (ev_pos (by omega) ?_)))
 refine Ev.bind (laws_eqItem_ev _) ?_
 refine ev_pos rfl ?_
 rw [wrap_succ hi (by omega)]
 exact hk
end Go.Proofs.Ytdbhelhoaciodaa.X
set_option linter.unusedVariables false
namespace Go.Proofs.Ytdbhelhoaciodaa.X
open Go.RowKit Go.Proofs.YtdbhelhoaciodaaW.PrintWords Go.Proofs.Ytdbhelhoaciodaa.E
theorem laws_eqIntS_ev (x : List (Int)) (hl0 : x.length ≤ 9223372036854775807) : Ev (fun k => laws_eqIntS.f k x x) true := by
 unfold laws_eqIntS.f
 refine ev_pos rfl ?_
 refine ev_same (L := fun k i => laws_eqIntS.l0 k x x i) x.length (Ev.step (fun k => rfl) (ev_neg (by omega) (ev_now rfl))) ?_
 intro i hi hk
 refine Ev.step (fun k => rfl) (ev_pos (by omega) (ev_pos (by omega) (ev_pos (by omega) ?_)))
 refine ev_pos rfl ?_
 rw [wrap_succ hi (by omega)]
 exact hk
end Go.Proofs.Ytdbhelhoaciodaa.X
set_option linter.unusedVariables false
namespace Go.Proofs.Ytdbhelhoaciodaa.X
open Go.RowKit Go.Proofs.YtdbhelhoaciodaaW.PrintWords Go.Proofs.Ytdbhelhoaciodaa.E
theorem laws_eqArchiveBox_ev (x : S80) (hl0 : x.f1.length ≤ 9223372036854775807) : Ev (fun k => laws_eqArchiveBox.f k (x.f0) (x.f1) (x.f0) (x.f1)) true := by
 unfold laws_eqArchiveBox.f
 repeat' (first | exact ev_now rfl | refine ev_pos rfl ?_ | refine ev_neg (by simp) ?_ | refine Ev.bind (laws_eqIntS_ev _ (by assumption)) ?_)
end Go.Proofs.Ytdbhelhoaciodaa.X
set_option linter.unusedVariables false
namespace Go.Proofs.Ytdbhelhoaciodaa.X
open Go.RowKit Go.Proofs.YtdbhelhoaciodaaW.PrintWords Go.Proofs.Ytdbhelhoaciodaa.E
theorem laws_eqArchiveBoxS_ev (x : List (S80)) (hl0 : x.length ≤ 9223372036854775807) (hl1 : ∀ y ∈ x, (y.f1.length ≤ 9223372036854775807)) : Ev (fun k => laws_eqArchiveBoxS.f k x x) true := by
 unfold laws_eqArchiveBoxS.f
 refine ev_pos rfl ?_
 refine ev_same (L := fun k i => laws_eqArchiveBoxS.l0 k x x i) x.length (Ev.step (fun k => rfl) (ev_neg (by omega) (ev_now rfl))) ?_
 intro i hi hk
 refine Ev.step (fun k => rfl) (ev_pos (by omega) (ev_pos (by omega) (ev_pos (by omega) ?_)))
 have hy := hl1 _ (List.getElem_mem hi)
 have hr : rd_T80 x (i : Int) = x[i] := by simp [rd_T80, List.getD_eq_getElem?_getD, List.getElem?_eq_getElem hi]
 rw [hr]
 refine Ev.bind (laws_eqArchiveBox_ev _ (by first | exact hy | exact hy)) ?_
 refine ev_pos rfl ?_
 rw [wrap_succ hi (by omega)]
 exact hk
end Go.Proofs.Ytdbhelhoaciodaa.X
set_option linter.unusedVariables false
set_option linter.unusedSimpArgs false
namespace Go.Proofs.Ytdbhelhoaciodaa.Pure
open Go.RowKit Go.Proofs.Ytdbhelhoaciodaa.X Go.Proofs.YtdbhelhoaciodaaW.PrintWords Go.Proofs.Ytdbhelhoaciodaa.E
theorem sum_box (bs : List S78) : ((bs.map conv78).map wB).sum = bs.length + (bs.map (fun y => wt78 y)).sum := by
 induction bs with
 | nil => rfl
 | cons y l ih =>
  rw [List.map_cons, List.map_cons, List.sum_cons, List.map_cons, List.sum_cons, List.length_cons, ih]
  have h1 : wB (conv78 y) = 1 + y.f1.length := rfl
  have h2 : wt78 y = y.f1.length := rfl
  omega
theorem small_conv (bs : List S78) (h : bs.length + (bs.map (fun y => wt78 y)).sum ≤ 1048576) : small (bs.map conv78) := by
 unfold small
 rw [List.length_map, List.map_map]
 exact h
theorem sum_out : ∀ L : List S80, (∀ b ∈ L, b.f1.length ≤ 13) → (L.map wB).sum ≤ 14 * L.length := by
 intro L
 induction L with
 | nil => intro _; simp
 | cons b L ih =>
  intro h
  have h1 := ih (fun b' hb' => h b' (List.mem_cons_of_mem _ hb'))
  have h2 := h b List.mem_cons_self
  have h3 : wB b = 1 + b.f1.length := rfl
  rw [List.map_cons, List.sum_cons, List.length_cons]
  omega
theorem FnExactMoveItem : PureFnExactMoveItem := by
 intro items bs cap number tt hi hb hw1 hw2 hw3
 unfold laws_FnExactMoveItem.f
 refine ev_get (Ev.bind (laws_szItemS_ev items hi.1 1048576 (by omega) (by omega)) ?_)
 by_cases c0 : ((items.length : Nat) : Int) ≤ 1048576
 case neg => rw [if_neg c0]; exact ev_pos (by omega) (ev_now rfl)
 rw [if_pos c0]
 refine ev_neg (by omega) (Ev.bind (laws_szArchiveBoxS_ev bs hb.1 (fun y hy => (hb.2 y hy).2.1) _ (by omega) (by omega)) ?_)
 by_cases c : (((bs.length + (bs.map (fun y => wt78 y)).sum : Nat)) : Int) ≤ 1048576 - ((items.length : Nat) : Int)
 case neg => rw [if_neg c]; exact ev_pos (by omega) (ev_now rfl)
 rw [if_pos c]
 refine ev_neg (by omega) ?_
 have hw : ∀ b ∈ bs.map conv78, b.f1.length ≤ 9223372036854775807 := by
  intro b hb'
  obtain ⟨y, hy, rfl⟩ := List.mem_map.1 hb'
  exact (hb.2 y hy).2.1
 have hll : (bs.map conv78).length = bs.length := List.length_map ..
 have hli : (items.map conv85).length = items.length := List.length_map ..
 have hto := laws_toArchiveBoxS_ev bs (by omega)
 have hti := laws_toItemS_ev items (by omega)
 have hsm := small_conv bs (by omega)
 obtain ⟨a, r, ha, ha13, g1, g2⟩ := move_both (items.map conv85) (bs.map conv78) cap number tt (by omega) hsm
 have heI := laws_eqItemS_ev (items.map conv85) (by omega)
 have heB := laws_eqArchiveBoxS_ev (bs.map conv78) (by omega) hw
 have hea := laws_eqArchiveBoxS_ev a (by omega) (fun b h => Nat.le_trans (ha13 b h) (by decide))
 have hs := sum_box bs
 have hso := sum_out a ha13
 have hm1 := markItem (items.map conv85) 1 (by omega) (by omega)
 have hm2 := markBox (bs.map conv78) (1 + ((3 * (items.map conv85).length : Nat) : Int)) (by omega) (by omega)
 have hm3 := markBox a 1 (by omega) (by omega)
 have hh3 := heldBox a 1 (by omega) (by omega)
 refine Ev.bind hti (Ev.bind hto (Ev.bind g1 (Ev.bind hti (Ev.bind hto (Ev.bind g2 (Ev.bind hea (ev_pos rfl (ev_pos rfl ?_))))))))
 refine Ev.bind hti (Ev.bind heI (ev_pos rfl (Ev.bind hto (Ev.bind heB (ev_pos rfl (Ev.bind hm1 (Ev.bind hm2 (ev_pos (by omega) ?_))))))))
 refine Ev.bind hea (ev_pos rfl (ev_pos rfl (Ev.bind hm3 ?_)))
 refine Ev.bind hh3 (ev_pos (by omega) (ev_pos rfl ?_))
 refine Ev.bind hti (Ev.bind hto (Ev.bind g2 (Ev.bind hea (ev_pos rfl (ev_pos rfl ?_)))))
 exact Ev.bind hh3 (ev_pos (by omega) (ev_pos rfl (ev_now rfl)))
end Go.Proofs.Ytdbhelhoaciodaa.Pure
namespace Go.Proofs.Ytdbhelhoaciodaa.fnExactMoveItem
open Go.ChangeShapes Go.WideShapes Go.ChangeAt Go.RowKit Go.Joins Go.Proofs.YtdbhelhoaciodaaW.PrintWords Go.Proofs.Ytdbhelhoaciodaa.Open Go.Proofs.Ytdbhelhoaciodaa.X
open Go.ChangeMaps (open_string shut_string)
set_option linter.unusedVariables false
theorem own : ownKnob Try.prog.godebug = none := by kernel_rfl
theorem laidOut : laidOutB Try.prog = true := by kernel_rfl
set_option maxRecDepth 100000 in
theorem lifted (os : Os) (started : os.Started) (H : Type) (enc : TypeId × Value → H) :
  ReturnsInHanded {} Try.checked os 4 .any (Rows.fnExactMoveItemSpec.pre6 enc Try.prog Try.f4 Rows.fnExactMoveItemRow.domain false) (Rows.fnExactMoveItemSpec.post enc Try.prog Try.f4 false true false false) := by
 refine returnsInHanded_of_change_sized (C := Try.checked) own started (by kernel_rfl) Try.func4
  (ChangeSpec.witness6 (enc := enc) (C := Try.checked) false ⟨#[], #[.slice none 0 0, .slice none 0 0, .int .i64 0, .int .i64 0, .int .i64 0], []⟩ 8 (by kernel_rfl) (by kernel_rfl) (by kernel_rfl) (by kernel_rfl)) ?_
 intro W base args ds gs before hval0 hW hcnd hsz0 _
 have hval : ∀ (j : Nat) t v, Try.f4.params[j]? = some t → args[j]? = some v → Value.okWide Try.prog W .any base t v := hval0
 have hW' := hW
 obtain ⟨p, q, hA0, hV, rfl, hfz, hnd⟩ := hW
 have hA : DataW.TrodAll enc Try.prog W 0 (fun _ => true) true Try.f4.params.toList args.toList ds p := hA0
 rw [Try.params4] at hA hval
 obtain ⟨v0, vs0, d0, ds0, p0, q0, hargs, rfl, rfl, h0, r0⟩ := trodAll_cons hA
 obtain ⟨v1, vs1, d1, ds1, p1, q1, rfl, rfl, rfl, h1, r1⟩ := trodAll_cons r0
 obtain ⟨v2, vs2, d2, ds2, p2, q2, rfl, rfl, rfl, h2, r2⟩ := trodAll_cons r1
 obtain ⟨v3, vs3, d3, ds3, p3, q3, rfl, rfl, rfl, h3, r3⟩ := trodAll_cons r2
 obtain ⟨v4, vs4, d4, ds4, p4, q4, rfl, rfl, rfl, h4, r4⟩ := trodAll_cons r3
 obtain ⟨rfl, rfl, rfl⟩ := trodAll_nil r4
 obtain rfl : args = #[v0, v1, v2, v3, v4] := by cases args; simp_all
 obtain ⟨rfl, rfl⟩ := trodVars_none hV
 have kk0 := h0
 have lt0 : ∀ x ∈ p0, x.block < W.heap.size := by obtain ⟨m, hm⟩ := kk0; exact DataW.trod_lt m _ _ _ hm
 obtain ⟨A0, c0, a0, rfl, hc0, hr0, g0⟩ := arg_slice op22 (okWide_slice Try.underlying22 (hval 0 22 v0 rfl rfl)) h0
 have kk1 := h1
 have lt1 : ∀ x ∈ p1, x.block < W.heap.size := by obtain ⟨m, hm⟩ := kk1; exact DataW.trod_lt m _ _ _ hm
 obtain ⟨A1, c1, a1, rfl, hc1, hr1, g1⟩ := arg_slice op23 (okWide_slice Try.underlying23 (hval 1 23 v1 rfl rfl)) h1
 obtain ⟨a2, rfl, rfl, rfl, w2⟩ := open_int Try.underlying3 (hval 2 3 v2 rfl rfl) h2
 obtain ⟨a3, rfl, rfl, rfl, w3⟩ := open_int Try.underlying3 (hval 3 3 v3 rfl rfl) h3
 obtain ⟨a4, rfl, rfl, rfl, w4⟩ := open_int Try.underlying3 (hval 4 3 v4 rfl rfl) h4
 clear hA0 hval0 hsz0
 obtain ⟨k, hk⟩ := Pure.FnExactMoveItem a0 a1 a2 a3 a4 g0 g1 w2 w3 w4
 refine (X.laws_FnExactMoveItem.calls k _ _ a0 _ _ a1 a2 a3 a4 true W hr0 hc0 hr1 hc1 hk).mono ?_
 rintro e W' ⟨he, bel0⟩
 have bel : Below W.heap.size W W' := by first | exact bel0 | exact bel0.below
 subst he
 exact ⟨_, rfl, _, _, _, [], _, [], hW', trodAll_mk1 (shut_bool Try.underlying4 _), (trodAll_cons_mk (Below.trod laidOut (by kernel_rfl) (of_decide_eq_true (by kernel_rfl)) kk0 bel lt0) (trodAll_cons_mk (Below.trod laidOut (by kernel_rfl) (of_decide_eq_true (by kernel_rfl)) kk1 bel lt1) (trodAll_cons_mk (shut_int Try.underlying3 w2) (trodAll_cons_mk (shut_int Try.underlying3 w3) (trodAll_cons_mk (shut_int Try.underlying3 w4) trodAll_mk0))))), rfl, bel.frame _, fun h => by cases h⟩
theorem over : Rows.fnExactMoveItemRow.holds Try.pinned (OpenSpec.ofChange Rows.fnExactMoveItemSpec) :=
 OpenClaim.holds_of_wide 4 Try.f4 rfl rfl rfl rfl rfl rfl rfl ⟨rfl, rfl, rfl, rfl, rfl⟩ rfl rfl rfl rfl rfl (by kernel_rfl) Try.func4 (by kernel_rfl)
  (of_decide_eq_true (by kernel_rfl)) (by unfold Func.isWrapper; first | (rw [if_pos (by decide +kernel)]; kernel_rfl) | (rw [if_neg (by decide +kernel)]; exact ⟨rfl, rfl⟩))
  (fun os started H enc _ => lifted os started H enc)
theorem proved : Rows.FnExactMoveItemSaid := over
#print axioms proved
end Go.Proofs.Ytdbhelhoaciodaa.fnExactMoveItem
namespace Go.Proofs.Ytdbhelhoaciodaa
/-- The row, under a short name, for the claim. -/
theorem fnExactMoveItem_holds : Rows.FnExactMoveItemSaid := fnExactMoveItem.proved
end Go.Proofs.Ytdbhelhoaciodaa
