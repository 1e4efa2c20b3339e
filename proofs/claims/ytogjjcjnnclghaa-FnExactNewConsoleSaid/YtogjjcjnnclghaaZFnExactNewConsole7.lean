/- For every record the law FnExactNewConsole answers true
This file (part 7 of 7) holds what the proof needs: plain functions with rounds and contracts written by programs of this work over the translation, and the lemmas. -/
import Derived.Test.YtogjjcjnnclghaaZFnExactNewConsole1
import Derived.ChangeArms
import Derived.DataReads
import Derived.Deep.Slices
import Derived.ChangeOld
import Derived.OpenShut
import Derived.Test.YtogjjcjnnclghaaZFnExactNewConsole2
import Derived.Test.YtogjjcjnnclghaaZFnExactNewConsole6
import Derived.Test.YtogjjcjnnclghaaZFnExactNewConsole4
import Derived.Test.YtogjjcjnnclghaaZFnExactNewConsole3
import Derived.Test.YtogjjcjnnclghaaZFnExactNewConsole5
import Derived.Test.YtogjjcjnnclghaaRows
import Derived.WalkKit
import Derived.ProofKit
import Derived.ShutString
import Derived.Below
import Derived.SizedLaws
import Derived.Lib.SmallJoins
set_option linter.unusedVariables false
set_option linter.unusedSimpArgs false
namespace Go.Proofs.Ytogjjcjnnclghaa.Open
open Go.RowKit Go.Proofs.YtogjjcjnnclghaaW.PrintWords

/-- What reads at type t is of kind d, and good. -/
def Opens (P : Program) (t : TypeId) {α : Type} (d : Kd α) (good : α → Prop) : Prop :=
  ∀ (H : Type) (enc : TypeId × Value → H) (w : World) (fuel : Nat) (cs : List Value) (x : DataW H × List MemPlace),
    DataW.trod enc P w 0 (fun _ => true) true fuel t cs = some x → ∃ a, d.K w a cs ∧ good a

theorem opens_int {P : Program} {t : TypeId} {k : IntKind} (ht : P.underlying t = some (.int k)) : Opens P t (Kd.int k) (fun n => (Lit.int k n).wf = true) := by
  intro H enc w fuel cs x hx
  obtain ⟨n, rfl, _, hw⟩ := DataW.trod_int ht hx
  exact ⟨n, rfl, hw⟩
theorem cells_each {w : World} {a : Addr} {n : Nat} {cs : List Value} (h : w.cells? 0 a n = some cs) : cs.length = n ∧ ∀ i u, cs[i]? = some u → w.cell? (a.add i) = some u := by
  have h1 := World.cells?_some h
  refine ⟨h1.2.1, fun i u hu => ?_⟩
  have hi : i < n := by
    have := (List.getElem?_eq_some_iff.1 hu).1
    omega
  rw [h1.2.2 i hi, hu]

theorem opens_slice {P : Program} {t e : TypeId} {α : Type} {d : Kd α} {g : α → Prop} (ht : P.underlying t = some (.slice e)) (hsz : P.cellsOf e = d.sz) (h : Opens P e d g) :
    Opens P t (Kd.slice e d) (fun xs => xs.length ≤ 9223372036854775807 ∧ ∀ x ∈ xs, g x) := by
  intro H enc w fuel cs x hx
  rcases DataW.trod_slice ht hx with ⟨rfl, _⟩ | ⟨a, len, cap, elems, rest, n, rfl, rfl, _, _, hlc, hcap, hel, hget, _, _⟩
  · exact ⟨[], ⟨none, 0, rfl, Nat.le_refl _, Kd.C_nil d w⟩, by simp, by simp⟩
  · simp only [maxLen] at hcap
    have each : ∀ i, i < len → ∃ b : α, ∃ c : List Value, c.length = d.sz ∧ d.K w b c ∧ g b ∧ ∀ j u, c[j]? = some u → w.cell? (a.add (i * d.sz + j)) = some u := by
      intro i hi
      have h1 := hget i hi
      obtain ⟨y, hy⟩ : ∃ y, elems[i]? = some y := ⟨_, List.getElem?_eq_getElem (by omega)⟩
      rw [hy] at h1
      obtain ⟨c, hc, ht'⟩ := Option.bind_eq_some_iff.1 h1
      obtain ⟨b, hK, hg⟩ := h H enc w n c y ht'
      obtain ⟨hl, hcell⟩ := cells_each hc
      refine ⟨b, c, hl.trans hsz, hK, hg, fun j u hu => ?_⟩
      have := hcell j u hu
      rw [Deep.add_add, hsz] at this
      exact this
    have mk : ∀ m, m ≤ len → ∃ xs : List α, xs.length = m ∧ (∀ x ∈ xs, g x) ∧ ∀ j p, xs[j]? = some p → ∃ c, c.length = d.sz ∧ d.K w p c ∧ ∀ i u, c[i]? = some u → w.cell? (a.add (j * d.sz + i)) = some u := by
      intro m
      induction m with
      | zero => exact fun _ => ⟨[], rfl, by simp, by simp⟩
      | succ m ih =>
        intro hm
        obtain ⟨xs, hl, hg, hx⟩ := ih (by omega)
        obtain ⟨b, c, hc1, hc2, hc3, hc4⟩ := each m (by omega)
        refine ⟨xs ++ [b], by simp [hl], ?_, ?_⟩
        · intro x hx'
          rcases List.mem_append.1 hx' with hx' | hx'
          · exact hg x hx'
          · rw [List.mem_singleton.1 hx']; exact hc3
        · intro j p hj
          by_cases hjm : j < m
          · rw [List.getElem?_append_left (by omega)] at hj
            exact hx j p hj
          · have hlt := (List.getElem?_eq_some_iff.1 hj).1
            simp only [List.length_append, List.length_cons, List.length_nil] at hlt
            obtain rfl : j = m := by omega
            rw [List.getElem?_append_right (by omega), hl, Nat.sub_self] at hj
            simp only [List.getElem?_cons_zero, Option.some.injEq] at hj
            subst hj
            exact ⟨c, hc1, hc2, hc4⟩
    obtain ⟨ys, hl, hg, hy⟩ := mk len (Nat.le_refl _)
    subst hl
    exact ⟨ys, ⟨some a, cap, rfl, hlc, rfl, by omega, fun _ => ⟨a, rfl, hy⟩⟩, by omega, hg⟩

def offs (L : List (TypeId × Nat)) (i : Nat) : Nat := ((L.take i).map (·.2)).sum
def Sect (P : Program) (L : List (TypeId × Nat)) {α : Type} (d : Kd α) (good : α → Prop) : Prop :=
  ∀ (H : Type) (enc : TypeId × Value → H) (w : World) (n : Nat) (cs : List Value), cs.length = (L.map (·.2)).sum →
    (∀ i p, L[i]? = some p → ∃ y, DataW.trod enc P w 0 (fun _ => true) true n p.1 ((cs.drop (offs L i)).take p.2) = some y) → ∃ a, d.K w a cs ∧ good a
theorem sect_one {P : Program} {t : TypeId} {s : Nat} {α : Type} {d : Kd α} {g : α → Prop} (h : Opens P t d g) : Sect P [(t, s)] d g := by
  intro H enc w n cs hl hf
  obtain ⟨y, hy⟩ := hf 0 _ rfl
  simp only [offs, List.take_zero, List.map_nil, List.sum_nil, List.drop_zero] at hy
  rw [List.take_of_length_le (by simp at hl; omega)] at hy
  exact h H enc w n cs y hy
theorem sect_cons {P : Program} {t : TypeId} {s : Nat} {L : List (TypeId × Nat)} {α β : Type} {d : Kd α} {d' : Kd β} {g : α → Prop} {g' : β → Prop} (h : Opens P t d g) (h' : Sect P L d' g') :
    Sect P ((t, s) :: L) (Kd.pair d d') (fun x => g x.1 ∧ g' x.2) := by
  intro H enc w n cs hl hf
  obtain ⟨y, hy⟩ := hf 0 _ rfl
  simp only [offs, List.take_zero, List.map_nil, List.sum_nil, List.drop_zero] at hy
  obtain ⟨a, ha, hga⟩ := h H enc w n _ y hy
  obtain ⟨b, hb, hgb⟩ := h' H enc w n (cs.drop s) (by simp only [List.map_cons, List.sum_cons] at hl; rw [List.length_drop, hl]; omega) (by
    intro i p hp
    obtain ⟨z, hz⟩ := hf (i + 1) p (by simpa using hp)
    refine ⟨z, ?_⟩
    simp only [offs, List.take_succ_cons, List.map_cons, List.sum_cons] at hz
    rw [List.drop_drop]
    exact hz)
  exact ⟨(a, b), ⟨cs.take s, cs.drop s, (List.take_append_drop s cs).symm, ha, hb⟩, hga, hgb⟩
theorem opens_struct {P : Program} {t : TypeId} {fs : Array Field} {α β : Type} {d : Kd α} {g : α → Prop} (f : β → α) (k : α → β) (hk : ∀ x, f (k x) = x) (L : List (TypeId × Nat))
    (ht : P.underlying t = some (.struct fs)) (hL : L = fs.toList.map (fun f => (f.type, P.cellsOf f.type))) (ho : fs.toList.map (·.offset) = (List.range L.length).map (offs L)) (hc : P.cellsOf t = (L.map (·.2)).sum)
    (h : Sect P L d g) : Opens P t (Kd.iso d f) (fun x => g (f x)) := by
  intro H enc w fuel cs x hx
  obtain ⟨xs, n, rfl, rfl, hl, hxl, hf⟩ := DataW.trod_struct ht hx
  obtain ⟨a, ha, hg⟩ := h H enc w n cs (hl.trans hc) (by
    intro i p hp
    have hi : i < fs.size := by
      have := (List.getElem?_eq_some_iff.1 hp).1
      rw [hL] at this
      simpa using this
    have hfi : fs[i]? = some fs[i] := Array.getElem?_eq_getElem hi
    have h1 := hf i fs[i] hfi
    obtain ⟨y, hy⟩ : ∃ y, xs[i]? = some y := ⟨_, List.getElem?_eq_getElem (by omega)⟩
    rw [hy] at h1
    refine ⟨y, ?_⟩
    have hp' : p = (fs[i].type, P.cellsOf fs[i].type) := by
      rw [hL] at hp
      simp only [List.getElem?_map, Array.getElem?_toList, hfi, Option.map_some, Option.some.injEq] at hp
      exact hp.symm
    have hoi : fs[i].offset = offs L i := by
      have h2 : (fs.toList.map (·.offset))[i]? = ((List.range L.length).map (offs L))[i]? := by rw [ho]
      have hLl : L.length = fs.size := by rw [hL]; simp
      simp only [List.getElem?_map, Array.getElem?_toList, hfi, Option.map_some, List.getElem?_range (show i < L.length by omega)] at h2
      exact Option.some.inj h2
    rw [hp', ← hoi]
    exact h1)
  refine ⟨k a, ?_, ?_⟩
  · show d.K w (f (k a)) cs
    rw [hk]; exact ha
  · show g (f (k a))
    rw [hk]; exact hg

theorem arg_agg {P : Program} {W : World} {H : Type} {enc : TypeId × Value → H} {t : TypeId} {α : Type} {d : Kd α} {g : α → Prop} {v : Value} {x : DataW H} {p : List MemPlace} (h : Opens P t d g)
    (hs : ∃ cs, v = .agg cs) (hv : DataW.Trod enc P W 0 (fun _ => true) true t v x p) : ∃ a cs, v = .agg cs ∧ d.K W a cs.toList ∧ g a := by
  obtain ⟨cs, rfl⟩ := hs
  obtain ⟨fuel, hf⟩ := hv
  obtain ⟨a, hK, hg⟩ := h H enc W fuel _ _ hf
  exact ⟨a, cs, rfl, hK, hg⟩
end Go.Proofs.Ytogjjcjnnclghaa.Open
set_option linter.unusedVariables false
namespace Go.Proofs.Ytogjjcjnnclghaa.X
open Go.RowKit Go.Proofs.YtogjjcjnnclghaaW.PrintWords Go.Proofs.Ytogjjcjnnclghaa.Open
theorem op3 : Opens Try.prog 3 (Kd.int .i64) (fun n => (Lit.int .i64 n).wf = true) := opens_int Try.underlying3
def good64 (x : S64) : Prop := (Lit.int .i64 x.f0).wf = true ∧ (Lit.int .i64 x.f1).wf = true
theorem op64 : Opens Try.prog 64 k64 good64 :=
  opens_struct (fun x : S64 => (x.f0, x.f1)) (fun p => ⟨p.1, p.2⟩) (fun _ => rfl) [(3, 1), (3, 1)] Try.underlying64 (by kernel_rfl) (by decide) (by kernel_rfl) (sect_cons op3 (sect_one op3))
theorem op22 : Opens Try.prog 22 (Kd.slice 64 k64) (fun xs => (xs.length ≤ 9223372036854775807 ∧ ∀ y ∈ xs, good64 y)) := opens_slice Try.underlying22 (by kernel_rfl) op64
def good66 (x : S66) : Prop := (Lit.int .i64 x.f0).wf = true ∧ (Lit.int .i64 x.f1).wf = true
theorem op66 : Opens Try.prog 66 k66 good66 :=
  opens_struct (fun x : S66 => (x.f0, x.f1)) (fun p => ⟨p.1, p.2⟩) (fun _ => rfl) [(3, 1), (3, 1)] Try.underlying66 (by kernel_rfl) (by decide) (by kernel_rfl) (sect_cons op3 (sect_one op3))
theorem op23 : Opens Try.prog 23 (Kd.slice 66 k66) (fun xs => (xs.length ≤ 9223372036854775807 ∧ ∀ y ∈ xs, good66 y)) := opens_slice Try.underlying23 (by kernel_rfl) op66
def good25 (x : S25) : Prop := (x.f0.length ≤ 9223372036854775807 ∧ ∀ y ∈ x.f0, good64 y) ∧ (x.f1.length ≤ 9223372036854775807 ∧ ∀ y ∈ x.f1, good66 y)
theorem op25 : Opens Try.prog 25 k25 good25 :=
  opens_struct (fun x : S25 => (x.f0, x.f1)) (fun p => ⟨p.1, p.2⟩) (fun _ => rfl) [(22, 1), (23, 1)] Try.underlying25 (by kernel_rfl) (by decide) (by kernel_rfl) (sect_cons op22 (sect_one op23))
end Go.Proofs.Ytogjjcjnnclghaa.X
namespace Go.Proofs.Ytogjjcjnnclghaa.X
open Go.RowKit Go.Proofs.YtogjjcjnnclghaaW.PrintWords
def PureFnExactNewConsole : Prop := ∀ (a0 : S25), good25 a0 → ∃ k, laws_FnExactNewConsole.f k (a0.f0) (a0.f1) = some true
end Go.Proofs.Ytogjjcjnnclghaa.X
set_option linter.unusedVariables false
set_option linter.unusedSimpArgs false
namespace Go.Proofs.Ytogjjcjnnclghaa.X
open Go.RowKit Go.Proofs.YtogjjcjnnclghaaW.PrintWords Go.Proofs.Ytogjjcjnnclghaa.E
theorem specIn_eq (a l h : Int) : spec_l1In.f a l h = some (decide (l ≤ a ∧ a ≤ h)) := by
  unfold spec_l1In.f
  by_cases h1 : a ≥ l
  · rw [if_pos h1]; congr 1; simp [h1]
  · rw [if_neg h1]; congr 1; symm; simp; intro h2; omega
theorem implIn_eq (a l h : Int) : impl_within.f a l h = some (decide (l ≤ a ∧ a ≤ h)) := by
  unfold impl_within.f
  by_cases h1 : a ≥ l
  · rw [if_pos h1]; congr 1; simp [h1]
  · rw [if_neg h1]; congr 1; symm; simp; intro h2; omega
theorem isNumber_eq (a : Int) : impl_isNumber.f a = some (decide (1 ≤ a ∧ a ≤ 999)) := by unfold impl_isNumber.f; rw [implIn_eq]; rfl
theorem isKind_eq (a : Int) : impl_isKind.f a = some (decide (1 ≤ a ∧ a ≤ 4)) := by unfold impl_isKind.f; rw [implIn_eq]; rfl
def findC (cs : List S58) (n : Int) : Int := idxG (fun x : S58 => x.f0 == n) 0 cs
theorem indexOf_eq (cs : List S58) (rs : List S61) (n : Int) : impl_indexOf.f cs rs n = some (findC cs n) := rfl
theorem l2Find_ev (cs : List S58) (rs : List S61) (n : Int) (hl : cs.length ≤ 9223372036854775807) : Ev (fun k => spec_l2Find.f k cs rs n) (findC cs n) := by
  have h := ev_walk (L := fun k i => spec_l2Find.l0 k n i cs rs) (G := fun i r => idxG (fun x : S58 => x.f0 == n) i r) cs (Ev.step (fun k => rfl) (ev_neg (by omega) (ev_now rfl))) ?step
  case step =>
    intro i x r hi hd hx hk
    refine Ev.step (fun k => rfl) (ev_pos (by omega) (ev_pos (by omega) ?_))
    simp only [rd_T58, Int.toNat_natCast, hx]
    by_cases c : x.f0 = n
    · exact ev_pos c (ev_now (by simp [idxG, c]))
    · refine ev_neg c ?_
      rw [wrap_succ hi hl]
      exact ev_cast hk (by simp [idxG, c])
  exact h
def CtxP (cs : List S58) (i : Nat) : Prop := (1 ≤ (rd_T58 cs i).f0 ∧ (rd_T58 cs i).f0 ≤ 999) ∧ (1 ≤ (rd_T58 cs i).f1 ∧ (rd_T58 cs i).f1 ≤ 4) ∧ (0 < i → (rd_T58 cs ((i - 1 : Nat) : Int)).f0 < (rd_T58 cs i).f0)
def befP (x y : S61) : Prop := x.f0 < y.f0 ∨ (x.f0 = y.f0 ∧ x.f1 < y.f1)
def RelP (cs : List S58) (rs : List S61) (i : Nat) : Prop := (rd_T61 rs i).f0 ≠ (rd_T61 rs i).f1 ∧ 0 ≤ findC cs (rd_T61 rs i).f0 ∧ 0 ≤ findC cs (rd_T61 rs i).f1 ∧ (0 < i → befP (rd_T61 rs ((i - 1 : Nat) : Int)) (rd_T61 rs i))
instance (x y : S61) : Decidable (befP x y) := by unfold befP; exact inferInstance
instance (cs : List S58) (i : Nat) : Decidable (CtxP cs i) := by unfold CtxP; exact inferInstance
instance (cs : List S58) (rs : List S61) (i : Nat) : Decidable (RelP cs rs i) := by unfold RelP; exact inferInstance
def relsB (cs : List S58) (rs : List S61) : Bool := (List.range rs.length).all (fun i => decide (RelP cs rs i))
def recOk (cs : List S58) (rs : List S61) : Bool := decide (cs.length ≤ 10 ∧ rs.length ≤ 24) && ((List.range cs.length).all (fun i => decide (CtxP cs i)) && relsB cs rs)
def sg (a b : Int) : Int := if a < b then -1 else if a > b then 1 else 0
theorem compare_eq (a b : Int) : cmp_Compare_int.f a b = some (sg a b) := by
  have hn : ∀ z : Int, cmp_isNaN_int.f z = some false := fun z => by unfold cmp_isNaN_int.f; simp
  unfold cmp_Compare_int.f sg
  rw [hn, hn]
  simp only [Option.bind_some, Bool.false_eq_true, if_false]
  by_cases h : a < b
  · rw [if_pos h, if_pos h]
  · rw [if_neg h, if_neg h]
    by_cases h2 : a > b
    · rw [if_pos h2, if_pos h2]
    · rw [if_neg h2, if_neg h2]
theorem or_ev (a b : Int) : Ev (fun k => cmp_Or_int.f k [a, b]) (if a = 0 then b else a) := by
  have r0 : rd [a, b] 0 = a := rfl
  have r1 : rd [a, b] 1 = b := rfl
  have w1 : wrap64 (0 + 1) = 1 := by rw [wrap_id (by omega) (by omega)]; rfl
  have w2 : wrap64 (1 + 1) = 2 := by rw [wrap_id (by omega) (by omega)]; rfl
  unfold cmp_Or_int.f
  refine Ev.step (fun k => rfl) (ev_pos (by simp) (ev_pos (by omega) (ev_pos (by simp) ?_)))
  rw [r0, w1]
  by_cases h : a = 0
  · rw [if_pos h]
    refine ev_pos h (Ev.step (fun k => rfl) (ev_pos (by simp) (ev_pos (by omega) (ev_pos (by simp) ?_))))
    rw [r1, w2]
    by_cases h2 : b = 0
    · exact ev_pos h2 (Ev.step (fun k => rfl) (ev_neg (by simp) (ev_now h2.symm)))
    · exact ev_neg h2 (ev_now rfl)
  · rw [if_neg h]
    exact ev_neg h (ev_now rfl)
theorem compareRel_ev (x y : S61) : ∃ c, Ev (fun k => impl_compareRelations.f k x.f0 x.f1 y.f0 y.f1) c ∧ (c ≥ 0 ↔ ¬ befP x y) := by
  refine ⟨if sg x.f0 y.f0 = 0 then sg x.f1 y.f1 else sg x.f0 y.f0, ?_, ?_⟩
  · unfold impl_compareRelations.f
    exact ev_bind0 (compare_eq _ _) (ev_bind0 (compare_eq _ _) (Ev.bind (or_ev _ _) (ev_now rfl)))
  · unfold sg befP
    repeat' split
    all_goals omega
theorem before_eq (x y : S61) : spec_l2Before.f x.f0 x.f1 y.f0 y.f1 = some (decide (befP x y)) := by
  have hb : befP x y ↔ (x.f0 < y.f0 ∨ (x.f0 = y.f0 ∧ x.f1 < y.f1)) := Iff.rfl
  unfold spec_l2Before.f
  by_cases h1 : x.f0 < y.f0
  · rw [if_pos h1, decide_eq_true (hb.2 (Or.inl h1))]
  · rw [if_neg h1]
    by_cases h2 : x.f0 = y.f0
    · rw [if_pos h2]; congr 1; rw [decide_eq_decide, hb]; omega
    · rw [if_neg h2, decide_eq_false (fun h => by have := hb.1 h; omega)]
theorem implRels_ev (cs : List S58) (rs : List S61) (hr : rs.length ≤ 24) : Ev (fun k => impl_IsValidRecord.l1 k rs (rs.length : Int) 0 cs rs) (relsB cs rs) := by
  have h := ev_all0 (L := fun k i => impl_IsValidRecord.l1 k rs (rs.length : Int) i cs rs) rs.length (fun i => decide (RelP cs rs i)) false true (fun _ => Ev.step (fun k => rfl) (ev_neg (by omega) (ev_now rfl))) ?h1 ?h2
  case h1 =>
    intro i hi _ hc y hy
    obtain ⟨c1, c2, c3, c4⟩ := of_decide_eq_true hc
    refine Ev.step (fun k => rfl) (ev_pos (by omega) (ev_pos (by omega) (ev_pos (by omega) (ev_neg c1 (ev_bind0 (indexOf_eq _ _ _) (ev_neg (by omega) (ev_bind0 (indexOf_eq _ _ _) (Ev.step (fun k => rfl) (ev_neg (by rw [decide_eq_true_eq]; omega) ?_)))))))))
    rw [wrap_succ hi (by omega)]
    rcases Nat.eq_zero_or_pos i with h0 | h0
    · exact ev_neg (by omega) hy
    · rw [wrap_pred h0 (by omega)]
      obtain ⟨c, hv, hcc⟩ := compareRel_ev (rd_T61 rs ((i - 1 : Nat) : Int)) (rd_T61 rs i)
      exact ev_pos (by omega) (ev_pos (by omega) (ev_pos (by omega) (Ev.bind hv (ev_neg (fun e => hcc.1 e (c4 h0)) hy))))
  case h2 =>
    intro i hi _ hc
    have hc' := of_decide_eq_false hc
    refine Ev.step (fun k => rfl) (ev_pos (by omega) (ev_pos (by omega) (ev_pos (by omega) (ev_ite (fun _ => Ev.step (fun k => rfl) (ev_now rfl)) (fun c1 => ev_bind0 (indexOf_eq _ _ _) (ev_ite (fun _ => Ev.step (fun k => rfl) (ev_now rfl)) (fun c2 => ev_bind0 (indexOf_eq _ _ _) (Ev.step (fun k => rfl) (ev_ite (fun _ => ev_now rfl) (fun c3 => ?_))))))))))
    rw [decide_eq_true_eq] at c3
    rcases Nat.eq_zero_or_pos i with h0 | h0
    · exact absurd ⟨c1, by omega, by omega, fun h => by omega⟩ hc'
    · rw [wrap_pred h0 (by omega)]
      obtain ⟨c, hv, hcc⟩ := compareRel_ev (rd_T61 rs ((i - 1 : Nat) : Int)) (rd_T61 rs i)
      exact ev_pos (by omega) (ev_pos (by omega) (ev_pos (by omega) (Ev.bind hv (ev_pos (hcc.2 (fun e => hc' ⟨c1, by omega, by omega, fun _ => e⟩)) (ev_now rfl)))))
  refine ev_cast h ?_
  unfold relsB
  cases (List.range rs.length).all (fun i => decide (RelP cs rs i)) <;> rfl
theorem specRels_ev (cs : List S58) (rs : List S61) (hcl : cs.length ≤ 10) (hr : rs.length ≤ 24) : Ev (fun k => spec_l2Good.l1 k 0 cs rs) (relsB cs rs) := by
  have hf : ∀ n, Ev (fun k => spec_l2Find.f k cs rs n) (findC cs n) := fun n => l2Find_ev cs rs n (by omega)
  have h := ev_all0 (L := fun k i => spec_l2Good.l1 k i cs rs) rs.length (fun i => decide (RelP cs rs i)) false true (fun _ => Ev.step (fun k => rfl) (ev_neg (by omega) (ev_now rfl))) ?h1 ?h2
  case h1 =>
    intro i hi _ hc y hy
    obtain ⟨c1, c2, c3, c4⟩ := of_decide_eq_true hc
    refine Ev.step (fun k => rfl) (ev_pos (by omega) (ev_pos (by omega) (ev_neg c1 (Ev.bind (hf _) (ev_neg (by omega) (Ev.bind (hf _) (ev_neg (by omega) ?_)))))))
    rw [wrap_succ hi (by omega)]
    rcases Nat.eq_zero_or_pos i with h0 | h0
    · exact ev_neg (by omega) hy
    · rw [wrap_pred h0 (by omega)]
      exact ev_pos (by omega) (ev_pos (by omega) (ev_pos (by omega) (ev_bind0 (before_eq _ _) (ev_pos (decide_eq_true (c4 h0)) hy))))
  case h2 =>
    intro i hi _ hc
    have hc' := of_decide_eq_false hc
    refine Ev.step (fun k => rfl) (ev_pos (by omega) (ev_pos (by omega) (ev_ite (fun _ => ev_now rfl) (fun c1 => Ev.bind (hf _) (ev_ite (fun _ => ev_now rfl) (fun c2 => Ev.bind (hf _) (ev_ite (fun _ => ev_now rfl) (fun c3 => ?_))))))))
    rcases Nat.eq_zero_or_pos i with h0 | h0
    · exact absurd ⟨c1, by omega, by omega, fun h => by omega⟩ hc'
    · rw [wrap_pred h0 (by omega)]
      exact ev_pos (by omega) (ev_pos (by omega) (ev_pos (by omega) (ev_bind0 (before_eq _ _) (ev_neg (fun e => hc' ⟨c1, by omega, by omega, fun _ => of_decide_eq_true e⟩) (ev_now rfl)))))
  refine ev_cast h ?_
  unfold relsB
  cases (List.range rs.length).all (fun i => decide (RelP cs rs i)) <;> rfl
theorem implRecord_ev (cs : List S58) (rs : List S61) : Ev (fun k => impl_IsValidRecord.f k cs rs) (recOk cs rs) := by
  unfold impl_IsValidRecord.f recOk
  refine ev_ite (fun c => ?_) (fun c => Ev.step (fun k => rfl) (ev_ite (fun d => ev_now ?_) (fun d => ?_)))
  · rw [decide_eq_false (by omega), Bool.false_and]
    exact Ev.step (fun k => rfl) (ev_now rfl)
  · rw [decide_eq_true_eq] at d
    rw [decide_eq_false (by omega), Bool.false_and]
  rw [decide_eq_true_eq] at d
  rw [decide_eq_true (by omega), Bool.true_and]
  have h := ev_all0 (L := fun k i => impl_IsValidRecord.l0 k cs (cs.length : Int) i cs rs) cs.length (fun i => decide (CtxP cs i)) false (relsB cs rs) (fun _ => Ev.step (fun k => rfl) (ev_neg (by omega) (implRels_ev cs rs (by omega)))) ?h1 ?h2
  case h1 =>
    intro i hi _ hc y hy
    obtain ⟨c1, c2, c3⟩ := of_decide_eq_true hc
    refine Ev.step (fun k => rfl) (ev_pos (by omega) (ev_pos (by omega) (ev_pos (by omega) (ev_bind0 (isNumber_eq _) (ev_pos (decide_eq_true c1) (ev_bind0 (isKind_eq _) (ev_pos (decide_eq_true c2) ?_)))))))
    rw [wrap_succ hi (by omega)]
    rcases Nat.eq_zero_or_pos i with h0 | h0
    · exact ev_neg (by omega) hy
    · rw [wrap_pred h0 (by omega)]
      exact ev_pos (by omega) (ev_pos (by omega) (ev_pos (by omega) (ev_neg (by have := c3 h0; omega) hy)))
  case h2 =>
    intro i hi _ hc
    have hc' := of_decide_eq_false hc
    refine Ev.step (fun k => rfl) (ev_pos (by omega) (ev_pos (by omega) (ev_pos (by omega) (ev_bind0 (isNumber_eq _) (ev_ite (fun c1 => ev_bind0 (isKind_eq _) (ev_ite (fun c2 => ?_) (fun _ => ev_now rfl))) (fun _ => ev_now rfl))))))
    rcases Nat.eq_zero_or_pos i with h0 | h0
    · exact absurd ⟨of_decide_eq_true c1, of_decide_eq_true c2, fun h => by omega⟩ hc'
    · rw [wrap_pred h0 (by omega)]
      exact ev_pos (by omega) (ev_pos (by omega) (ev_pos (by omega) (ev_pos (Classical.byContradiction fun e => hc' ⟨of_decide_eq_true c1, of_decide_eq_true c2, fun _ => by omega⟩) (ev_now rfl))))
  refine ev_cast h ?_
  cases (List.range cs.length).all (fun i => decide (CtxP cs i)) <;> simp
theorem specRecord_ev (cs : List S58) (rs : List S61) : Ev (fun k => spec_l2Good.f k cs rs) (recOk cs rs) := by
  unfold spec_l2Good.f recOk
  refine ev_ite (fun c => ?_) (fun c => Ev.step (fun k => rfl) (ev_ite (fun d => ev_now ?_) (fun d => ?_)))
  · rw [decide_eq_false (by omega), Bool.false_and]
    exact Ev.step (fun k => rfl) (ev_now rfl)
  · rw [decide_eq_true_eq] at d
    rw [decide_eq_false (by omega), Bool.false_and]
  rw [decide_eq_true_eq] at d
  rw [decide_eq_true (by omega), Bool.true_and]
  have h := ev_all0 (L := fun k i => spec_l2Good.l0 k i cs rs) cs.length (fun i => decide (CtxP cs i)) false (relsB cs rs) (fun _ => Ev.step (fun k => rfl) (ev_neg (by omega) (specRels_ev cs rs (by omega) (by omega)))) ?h1 ?h2
  case h1 =>
    intro i hi _ hc y hy
    obtain ⟨c1, c2, c3⟩ := of_decide_eq_true hc
    refine Ev.step (fun k => rfl) (ev_pos (by omega) (ev_pos (by omega) (ev_bind0 (specIn_eq _ _ _) (ev_pos (decide_eq_true c1) (ev_bind0 (specIn_eq _ _ _) (ev_pos (decide_eq_true c2) ?_))))))
    rw [wrap_succ hi (by omega)]
    rcases Nat.eq_zero_or_pos i with h0 | h0
    · exact ev_neg (by omega) hy
    · rw [wrap_pred h0 (by omega)]
      exact ev_pos (by omega) (ev_pos (by omega) (ev_pos (by omega) (ev_neg (by have := c3 h0; omega) hy)))
  case h2 =>
    intro i hi _ hc
    have hc' := of_decide_eq_false hc
    refine Ev.step (fun k => rfl) (ev_pos (by omega) (ev_pos (by omega) (ev_bind0 (specIn_eq _ _ _) (ev_ite (fun c1 => ev_bind0 (specIn_eq _ _ _) (ev_ite (fun c2 => ?_) (fun _ => ev_now rfl))) (fun _ => ev_now rfl)))))
    rcases Nat.eq_zero_or_pos i with h0 | h0
    · exact absurd ⟨of_decide_eq_true c1, of_decide_eq_true c2, fun h => by omega⟩ hc'
    · rw [wrap_pred h0 (by omega)]
      exact ev_pos (by omega) (ev_pos (by omega) (ev_pos (by omega) (ev_pos (Classical.byContradiction fun e => hc' ⟨of_decide_eq_true c1, of_decide_eq_true c2, fun _ => by omega⟩) (ev_now rfl))))
  refine ev_cast h ?_
  cases (List.range cs.length).all (fun i => decide (CtxP cs i)) <;> simp
end Go.Proofs.Ytogjjcjnnclghaa.X
set_option linter.unusedVariables false
namespace Go.Proofs.Ytogjjcjnnclghaa.X
open Go.RowKit Go.Proofs.YtogjjcjnnclghaaW.PrintWords Go.Proofs.Ytogjjcjnnclghaa.E
def wt25 (x : S25) : Nat := x.f0.length + x.f1.length
end Go.Proofs.Ytogjjcjnnclghaa.X
set_option linter.unusedVariables false
namespace Go.Proofs.Ytogjjcjnnclghaa.X
open Go.RowKit Go.Proofs.YtogjjcjnnclghaaW.PrintWords Go.Proofs.Ytogjjcjnnclghaa.E
theorem laws_szContextS_ev (x : List (S64)) (g0 : x.length ≤ 9223372036854775807) (left : Int) (h0 : 0 ≤ left) (h1 : left ≤ 4611686018427387904) :
    Ev (fun k => laws_szContextS.f x left) (if ((x.length : Nat) : Int) ≤ left then left - ((x.length : Nat) : Int) else -1) := by
  unfold laws_szContextS.f
  have e0 : wrap64 (left - ((x.length : Nat) : Int)) = left - ((x.length : Nat) : Int) := wrap_id (by omega) (by omega)
  simp only [e0]
  by_cases c : ((x.length : Nat) : Int) ≤ left
  case neg => exact ev_pos (by omega) (ev_now (by first | rfl | rw [if_neg (by omega)]))
  refine ev_neg (by omega) ?_
  exact ev_now (by first | rfl | rw [if_pos (by omega)])
end Go.Proofs.Ytogjjcjnnclghaa.X
set_option linter.unusedVariables false
namespace Go.Proofs.Ytogjjcjnnclghaa.X
open Go.RowKit Go.Proofs.YtogjjcjnnclghaaW.PrintWords Go.Proofs.Ytogjjcjnnclghaa.E
theorem laws_szRelationS_ev (x : List (S66)) (g0 : x.length ≤ 9223372036854775807) (left : Int) (h0 : 0 ≤ left) (h1 : left ≤ 4611686018427387904) :
    Ev (fun k => laws_szRelationS.f x left) (if ((x.length : Nat) : Int) ≤ left then left - ((x.length : Nat) : Int) else -1) := by
  unfold laws_szRelationS.f
  have e0 : wrap64 (left - ((x.length : Nat) : Int)) = left - ((x.length : Nat) : Int) := wrap_id (by omega) (by omega)
  simp only [e0]
  by_cases c : ((x.length : Nat) : Int) ≤ left
  case neg => exact ev_pos (by omega) (ev_now (by first | rfl | rw [if_neg (by omega)]))
  refine ev_neg (by omega) ?_
  exact ev_now (by first | rfl | rw [if_pos (by omega)])
end Go.Proofs.Ytogjjcjnnclghaa.X
set_option linter.unusedVariables false
namespace Go.Proofs.Ytogjjcjnnclghaa.X
open Go.RowKit Go.Proofs.YtogjjcjnnclghaaW.PrintWords Go.Proofs.Ytogjjcjnnclghaa.E
theorem laws_szRecord_ev (x : S25) (g0 : x.f0.length ≤ 9223372036854775807) (g1 : x.f1.length ≤ 9223372036854775807) (left : Int) (h0 : 0 ≤ left) (h1 : left ≤ 4611686018427387904) :
    Ev (fun k => laws_szRecord.f (x.f0) (x.f1) left) (if (((wt25 x) : Nat) : Int) ≤ left then left - (((wt25 x) : Nat) : Int) else -1) := by
  unfold laws_szRecord.f
  unfold wt25
  refine Ev.bind (laws_szContextS_ev _ (by assumption) _ (by omega) (by omega)) ?_
  by_cases c0 : ((x.f0.length : Nat) : Int) ≤ left
  case neg =>
    rw [if_neg c0]
    exact ev_pos (by omega) (ev_now (by first | rfl | rw [if_neg (by omega)]))
  rw [if_pos c0]
  refine ev_neg (by omega) ?_
  refine Ev.bind (laws_szRelationS_ev _ (by assumption) _ (by omega) (by omega)) ?_
  by_cases c1 : ((x.f1.length : Nat) : Int) ≤ (left - ((x.f0.length : Nat) : Int))
  case neg =>
    rw [if_neg c1]
    exact ev_pos (by omega) (ev_now (by first | rfl | rw [if_neg (by omega)]))
  rw [if_pos c1]
  refine ev_neg (by omega) ?_
  exact ev_now (by first | rfl | omega | (rw [if_pos (by omega)]; omega))
end Go.Proofs.Ytogjjcjnnclghaa.X
set_option linter.unusedVariables false
namespace Go.Proofs.Ytogjjcjnnclghaa.X
open Go.RowKit Go.Proofs.YtogjjcjnnclghaaW.PrintWords Go.Proofs.Ytogjjcjnnclghaa.E
def conv64 (x : S64) : S58 := ⟨x.f0, x.f1⟩
theorem laws_toContext_ev (x : S64) : Ev (fun k => laws_toContext.f (x.f0) (x.f1)) ((conv64 x).f0, (conv64 x).f1) := by
  unfold laws_toContext.f
  exact ev_now rfl
end Go.Proofs.Ytogjjcjnnclghaa.X
set_option linter.unusedVariables false
namespace Go.Proofs.Ytogjjcjnnclghaa.X
open Go.RowKit Go.Proofs.YtogjjcjnnclghaaW.PrintWords Go.Proofs.Ytogjjcjnnclghaa.E
theorem laws_toContextS_ev (x : List (S64)) (hb : x.length ≤ 1048576) : Ev (fun k => laws_toContextS.f k x) (x.map conv64) := by
  unfold laws_toContextS.f
  refine ev_pos (by omega) (ev_pos (by simp only [Int.toNat_natCast]; omega) ?_)
  simp only [Int.toNat_natCast]
  refine ev_fill (L := fun k o i => laws_toContextS.l0 k x o i) x conv64 _ (fun o => Ev.step (fun k => rfl) (ev_neg (by omega) (ev_now rfl))) ?_
  intro o i y r hi hx hd hl hk
  refine Ev.step (fun k => rfl) (ev_pos (by omega) (ev_pos (by omega) ?_))
  simp only [rd_T64, Int.toNat_natCast, hd]
  refine Ev.bind (laws_toContext_ev y) ?_
  refine ev_pos (by omega) ?_
  rw [wrap_succ hi (by omega)]
  exact hk
end Go.Proofs.Ytogjjcjnnclghaa.X
set_option linter.unusedVariables false
namespace Go.Proofs.Ytogjjcjnnclghaa.X
open Go.RowKit Go.Proofs.YtogjjcjnnclghaaW.PrintWords Go.Proofs.Ytogjjcjnnclghaa.E
def conv66 (x : S66) : S61 := ⟨x.f0, x.f1⟩
theorem laws_toRelation_ev (x : S66) : Ev (fun k => laws_toRelation.f (x.f0) (x.f1)) ((conv66 x).f0, (conv66 x).f1) := by
  unfold laws_toRelation.f
  exact ev_now rfl
end Go.Proofs.Ytogjjcjnnclghaa.X
set_option linter.unusedVariables false
namespace Go.Proofs.Ytogjjcjnnclghaa.X
open Go.RowKit Go.Proofs.YtogjjcjnnclghaaW.PrintWords Go.Proofs.Ytogjjcjnnclghaa.E
theorem laws_toRelationS_ev (x : List (S66)) (hb : x.length ≤ 1048576) : Ev (fun k => laws_toRelationS.f k x) (x.map conv66) := by
  unfold laws_toRelationS.f
  refine ev_pos (by omega) (ev_pos (by simp only [Int.toNat_natCast]; omega) ?_)
  simp only [Int.toNat_natCast]
  refine ev_fill (L := fun k o i => laws_toRelationS.l0 k x o i) x conv66 _ (fun o => Ev.step (fun k => rfl) (ev_neg (by omega) (ev_now rfl))) ?_
  intro o i y r hi hx hd hl hk
  refine Ev.step (fun k => rfl) (ev_pos (by omega) (ev_pos (by omega) ?_))
  simp only [rd_T66, Int.toNat_natCast, hd]
  refine Ev.bind (laws_toRelation_ev y) ?_
  refine ev_pos (by omega) ?_
  rw [wrap_succ hi (by omega)]
  exact hk
end Go.Proofs.Ytogjjcjnnclghaa.X
set_option linter.unusedVariables false
namespace Go.Proofs.Ytogjjcjnnclghaa.X
open Go.RowKit Go.Proofs.YtogjjcjnnclghaaW.PrintWords Go.Proofs.Ytogjjcjnnclghaa.E
def conv25 (x : S25) : S30 := ⟨(x.f0.map conv64), (x.f1.map conv66)⟩
theorem laws_toRecord_ev (x : S25) (hb : (wt25 x) ≤ 1048576) : Ev (fun k => laws_toRecord.f k (x.f0) (x.f1)) ((conv25 x).f0, (conv25 x).f1) := by
  unfold laws_toRecord.f
  unfold wt25 at hb
  refine Ev.bind (laws_toContextS_ev x.f0 (by omega)) ?_
  refine Ev.bind (laws_toRelationS_ev x.f1 (by omega)) ?_
  exact ev_now rfl
end Go.Proofs.Ytogjjcjnnclghaa.X
set_option linter.unusedVariables false
namespace Go.Proofs.Ytogjjcjnnclghaa.X
open Go.RowKit Go.Proofs.YtogjjcjnnclghaaW.PrintWords Go.Proofs.Ytogjjcjnnclghaa.E
theorem laws_eqContext_ev (x : S58) : Ev (fun k => laws_eqContext.f (x.f0) (x.f1) (x.f0) (x.f1)) true := by
  unfold laws_eqContext.f
  repeat' (first | exact ev_now rfl | refine ev_pos rfl ?_ | refine ev_neg (by simp) ?_)
end Go.Proofs.Ytogjjcjnnclghaa.X
set_option linter.unusedVariables false
namespace Go.Proofs.Ytogjjcjnnclghaa.X
open Go.RowKit Go.Proofs.YtogjjcjnnclghaaW.PrintWords Go.Proofs.Ytogjjcjnnclghaa.E
theorem laws_eqContextS_ev (x : List (S58)) (hl0 : x.length ≤ 9223372036854775807) : Ev (fun k => laws_eqContextS.f k x x) true := by
  unfold laws_eqContextS.f
  refine ev_pos rfl ?_
  refine ev_same (L := fun k i => laws_eqContextS.l0 k x x i) x.length (Ev.step (fun k => rfl) (ev_neg (by omega) (ev_now rfl))) ?_
  intro i hi hk
  refine Ev.step (fun k => rfl) (ev_pos (by omega) (ev_pos (by omega) (ev_pos (by omega) ?_)))
  refine Ev.bind (laws_eqContext_ev _) ?_
  refine ev_pos rfl ?_
  rw [wrap_succ hi (by omega)]
  exact hk
end Go.Proofs.Ytogjjcjnnclghaa.X
set_option linter.unusedVariables false
namespace Go.Proofs.Ytogjjcjnnclghaa.X
open Go.RowKit Go.Proofs.YtogjjcjnnclghaaW.PrintWords Go.Proofs.Ytogjjcjnnclghaa.E
theorem laws_eqRelation_ev (x : S61) : Ev (fun k => laws_eqRelation.f (x.f0) (x.f1) (x.f0) (x.f1)) true := by
  unfold laws_eqRelation.f
  repeat' (first | exact ev_now rfl | refine ev_pos rfl ?_ | refine ev_neg (by simp) ?_)
end Go.Proofs.Ytogjjcjnnclghaa.X
set_option linter.unusedVariables false
namespace Go.Proofs.Ytogjjcjnnclghaa.X
open Go.RowKit Go.Proofs.YtogjjcjnnclghaaW.PrintWords Go.Proofs.Ytogjjcjnnclghaa.E
theorem laws_eqRelationS_ev (x : List (S61)) (hl0 : x.length ≤ 9223372036854775807) : Ev (fun k => laws_eqRelationS.f k x x) true := by
  unfold laws_eqRelationS.f
  refine ev_pos rfl ?_
  refine ev_same (L := fun k i => laws_eqRelationS.l0 k x x i) x.length (Ev.step (fun k => rfl) (ev_neg (by omega) (ev_now rfl))) ?_
  intro i hi hk
  refine Ev.step (fun k => rfl) (ev_pos (by omega) (ev_pos (by omega) (ev_pos (by omega) ?_)))
  refine Ev.bind (laws_eqRelation_ev _) ?_
  refine ev_pos rfl ?_
  rw [wrap_succ hi (by omega)]
  exact hk
end Go.Proofs.Ytogjjcjnnclghaa.X
set_option linter.unusedVariables false
namespace Go.Proofs.Ytogjjcjnnclghaa.X
open Go.RowKit Go.Proofs.YtogjjcjnnclghaaW.PrintWords Go.Proofs.Ytogjjcjnnclghaa.E
theorem laws_eqRecord_ev (x : S30) (hl0 : x.f0.length ≤ 9223372036854775807) (hl1 : x.f1.length ≤ 9223372036854775807) : Ev (fun k => laws_eqRecord.f k (x.f0) (x.f1) (x.f0) (x.f1)) true := by
  unfold laws_eqRecord.f
  repeat' (first | exact ev_now rfl | refine ev_pos rfl ?_ | refine ev_neg (by simp) ?_ | refine Ev.bind (laws_eqContextS_ev _ (by assumption)) ?_ | refine Ev.bind (laws_eqRelationS_ev _ (by assumption)) ?_)
end Go.Proofs.Ytogjjcjnnclghaa.X
set_option linter.unusedVariables false
set_option linter.unusedSimpArgs false
namespace Go.Proofs.Ytogjjcjnnclghaa.Pure
open Go.RowKit Go.Proofs.Ytogjjcjnnclghaa.X Go.Proofs.YtogjjcjnnclghaaW.PrintWords Go.Proofs.Ytogjjcjnnclghaa.E
def mkC (q : Int) (_ : S58) : S58 := ⟨q, q + 1⟩
def mkR (q : Int) (_ : S61) : S61 := ⟨q, q + 1⟩
theorem sum2 {α : Type} (L : List α) : (L.map (fun _ => 2)).sum = 2 * L.length := by
  induction L with
  | nil => rfl
  | cons e L ih => rw [List.map_cons, List.sum_cons, ih, List.length_cons]; omega
theorem markC (L : List S58) (q : Int) (h0 : 0 ≤ q) (hq : q ≤ 4294967296) (hL : L.length ≤ 1048576) : Ev (fun k => laws_markContextS.f k L q) (q + (2 * L.length : Nat), markAll mkC (fun _ => 2) q L) := by
  have h := ev_mark (L := fun k l q i => laws_markContextS.l0 k l q i) L mkC (fun _ => 2) (fun out q ho => Ev.step (fun k => rfl) (ev_neg (by omega) (ev_now rfl))) ?hs q h0 (by rw [sum2]; omega)
  case hs =>
    intro out q i x y hi ho hx hxm hg h0 hb h
    have hw1 : wrap64 (q + 1) = q + 1 := wrap_id (by omega) (by omega)
    have hw2 : wrap64 (q + 1 + 1) = q + (2 : Nat) := by rw [wrap_id (by omega) (by omega)]; omega
    refine Ev.step (fun k => rfl) (ev_pos (by omega) (ev_pos (by omega) (ev_some ?_)))
    rw [hw1, hw2, wrap_succ hi (by omega), Int.toNat_natCast, List.set_set, show (rd_T58 (out.set i (⟨q, (rd_T58 out i).f1⟩ : S58)) (i : Int)).f0 = q by unfold rd_T58; rw [Int.toNat_natCast, List.getD_eq_getElem?_getD, List.getElem?_set_self (by omega)]; rfl]
    exact h
  rw [sum2] at h
  exact h
theorem markR (L : List S61) (q : Int) (h0 : 0 ≤ q) (hq : q ≤ 4294967296) (hL : L.length ≤ 1048576) : Ev (fun k => laws_markRelationS.f k L q) (q + (2 * L.length : Nat), markAll mkR (fun _ => 2) q L) := by
  have h := ev_mark (L := fun k l q i => laws_markRelationS.l0 k l q i) L mkR (fun _ => 2) (fun out q ho => Ev.step (fun k => rfl) (ev_neg (by omega) (ev_now rfl))) ?hs q h0 (by rw [sum2]; omega)
  case hs =>
    intro out q i x y hi ho hx hxm hg h0 hb h
    have hw1 : wrap64 (q + 1) = q + 1 := wrap_id (by omega) (by omega)
    have hw2 : wrap64 (q + 1 + 1) = q + (2 : Nat) := by rw [wrap_id (by omega) (by omega)]; omega
    refine Ev.step (fun k => rfl) (ev_pos (by omega) (ev_pos (by omega) (ev_some ?_)))
    rw [hw1, hw2, wrap_succ hi (by omega), Int.toNat_natCast, List.set_set, show (rd_T61 (out.set i (⟨q, (rd_T61 out i).f1⟩ : S61)) (i : Int)).f0 = q by unfold rd_T61; rw [Int.toNat_natCast, List.getD_eq_getElem?_getD, List.getElem?_set_self (by omega)]; rfl]
    exact h
  rw [sum2] at h
  exact h
theorem heldC (L : List S58) (q0 : Int) (h0 : 0 ≤ q0) (hq : q0 ≤ 4294967296) (hL : L.length ≤ 1048576) : Ev (fun k => laws_heldContextS.f k (markAll mkC (fun _ => 2) q0 L) q0) (q0 + (2 * L.length : Nat)) := by
  have hlen := markAll_length mkC (fun _ => 2) L q0
  have h := ev_held (H := fun k q i => laws_heldContextS.l0 k (markAll mkC (fun _ => 2) q0 L) q i) L (markAll mkC (fun _ => 2) q0 L) mkC (fun _ => 2) q0 rfl (fun q => Ev.step (fun k => rfl) (ev_neg (by omega) (ev_now rfl))) ?hs h0 (by rw [sum2]; omega)
  case hs =>
    intro q i x y hi hxm hx hg h0 hb h
    have hw1 : wrap64 (q + 1) = q + 1 := wrap_id (by omega) (by omega)
    have hw2 : wrap64 (q + 1 + 1) = q + (2 : Nat) := by rw [wrap_id (by omega) (by omega)]; omega
    have hr : rd_T58 (markAll mkC (fun _ => 2) q0 L) (i : Int) = mkC q x := by unfold rd_T58; rw [Int.toNat_natCast]; exact hg _
    refine Ev.step (fun k => rfl) (ev_pos (by omega) (ev_pos (by omega) ?_))
    rw [hr, hw1, hw2, wrap_succ hi (by omega)]
    exact ev_pos rfl (ev_pos rfl h)
  rw [sum2] at h
  exact h
theorem heldR (L : List S61) (q0 : Int) (h0 : 0 ≤ q0) (hq : q0 ≤ 4294967296) (hL : L.length ≤ 1048576) : Ev (fun k => laws_heldRelationS.f k (markAll mkR (fun _ => 2) q0 L) q0) (q0 + (2 * L.length : Nat)) := by
  have hlen := markAll_length mkR (fun _ => 2) L q0
  have h := ev_held (H := fun k q i => laws_heldRelationS.l0 k (markAll mkR (fun _ => 2) q0 L) q i) L (markAll mkR (fun _ => 2) q0 L) mkR (fun _ => 2) q0 rfl (fun q => Ev.step (fun k => rfl) (ev_neg (by omega) (ev_now rfl))) ?hs h0 (by rw [sum2]; omega)
  case hs =>
    intro q i x y hi hxm hx hg h0 hb h
    have hw1 : wrap64 (q + 1) = q + 1 := wrap_id (by omega) (by omega)
    have hw2 : wrap64 (q + 1 + 1) = q + (2 : Nat) := by rw [wrap_id (by omega) (by omega)]; omega
    have hr : rd_T61 (markAll mkR (fun _ => 2) q0 L) (i : Int) = mkR q x := by unfold rd_T61; rw [Int.toNat_natCast]; exact hg _
    refine Ev.step (fun k => rfl) (ev_pos (by omega) (ev_pos (by omega) ?_))
    rw [hr, hw1, hw2, wrap_succ hi (by omega)]
    exact ev_pos rfl (ev_pos rfl h)
  rw [sum2] at h
  exact h
theorem markRec (M1 : List S58) (M2 : List S61) (h1 : M1.length ≤ 1048576) (h2 : M2.length ≤ 1048576) : Ev (fun k => laws_markRecord.f k M1 M2 1) (1 + (2 * M1.length : Nat) + (2 * M2.length : Nat), markAll mkC (fun _ => 2) 1 M1, markAll mkR (fun _ => 2) (1 + (2 * M1.length : Nat)) M2) := by
  unfold laws_markRecord.f
  exact Ev.bind (markC M1 1 (by omega) (by omega) h1) (Ev.bind (markR M2 _ (by omega) (by omega) h2) (ev_now rfl))
theorem newConsole (cs : List S58) (rs : List S61) : ∃ (M1 : List S58) (M2 : List S61) (b : Bool), M1.length ≤ 24 ∧ M2.length ≤ 24 ∧ Ev (fun k => spec_NewConsole.f k cs rs) (M1, M2, [], (⟨#[]⟩ : ByteArray), (⟨#[]⟩ : ByteArray), 0, b) ∧ Ev (fun k => impl_NewConsole.f k cs rs) (M1, M2, [], (⟨#[]⟩ : ByteArray), (⟨#[]⟩ : ByteArray), 0, b) := by
  have h1 := specRecord_ev cs rs
  have h2 := implRecord_ev cs rs
  cases hr : recOk cs rs
  · rw [hr] at h1 h2
    exact ⟨[], [], false, by simp, by simp, Ev.bind h1 (ev_neg (by simp) (ev_now rfl)), Ev.bind h2 (ev_neg (by simp) (ev_now rfl))⟩
  · rw [hr] at h1 h2
    have hl : cs.length ≤ 10 ∧ rs.length ≤ 24 := by
      unfold recOk at hr
      rw [Bool.and_eq_true] at hr
      exact of_decide_eq_true hr.1
    refine ⟨cs, rs, true, by omega, by omega, Ev.bind h1 (ev_pos rfl (ev_bind0 (show spec_l2Own.f cs rs = some (cs, rs) from ?_) (ev_now rfl))), Ev.bind h2 (ev_pos rfl (ev_bind0 (show impl_copyRecord.f cs rs = some (cs, rs) from ?_) (ev_now rfl)))⟩
    · unfold spec_l2Own.f
      rw [Option.bind_some, if_pos (by simp; omega), Option.bind_some, if_pos (by simp; omega)]
      rfl
    · unfold impl_copyRecord.f impl_Context.f impl_Relation.f
      rw [if_pos (by omega), Option.bind_some, if_pos (by omega)]
      rfl
theorem FnExactNewConsole : PureFnExactNewConsole := by
  intro x hx
  unfold laws_FnExactNewConsole.f
  refine ev_get (Ev.bind (laws_szRecord_ev x hx.1.1 hx.2.1 1048576 (by omega) (by omega)) ?_)
  by_cases c : (((wt25 x) : Nat) : Int) ≤ 1048576
  case neg => rw [if_neg c]; exact ev_pos (by omega) (ev_now rfl)
  rw [if_pos c]
  refine ev_neg (by omega) ?_
  have hwt : wt25 x = x.f0.length + x.f1.length := rfl
  have htr := laws_toRecord_ev x (by omega)
  have hl0 : (conv25 x).f0.length = x.f0.length := List.length_map ..
  have hl1 : (conv25 x).f1.length = x.f1.length := List.length_map ..
  have heq := laws_eqRecord_ev (conv25 x) (by omega) (by omega)
  obtain ⟨M1, M2, b, hm1, hm2, hsp, him⟩ := newConsole (conv25 x).f0 (conv25 x).f1
  have heqC : Ev (fun k => laws_eqConsole.f k M1 M2 [] (⟨#[]⟩ : ByteArray) (⟨#[]⟩ : ByteArray) 0 M1 M2 [] (⟨#[]⟩ : ByteArray) (⟨#[]⟩ : ByteArray) 0) true := by
    unfold laws_eqConsole.f
    refine Ev.bind (laws_eqRecord_ev (⟨M1, M2⟩ : S30) (by show M1.length ≤ _; omega) (by show M2.length ≤ _; omega)) (ev_pos rfl (Ev.bind (show Ev (fun k => laws_eqDatedS.f k [] []) true from ?_) (ev_pos rfl (ev_bind0 (show laws_eqLog.f (⟨#[]⟩ : ByteArray) (⟨#[]⟩ : ByteArray) 0 (⟨#[]⟩ : ByteArray) (⟨#[]⟩ : ByteArray) 0 = some true from ?_) (ev_pos rfl (ev_now rfl))))))
    · unfold laws_eqDatedS.f
      exact ev_pos rfl (Ev.step (fun k => rfl) (ev_neg (by simp) (ev_now rfl)))
    · unfold laws_eqLog.f
      rw [if_pos rfl, if_pos rfl, if_pos rfl]
  have hmR := markRec (conv25 x).f0 (conv25 x).f1 (by omega) (by omega)
  have hmM := markRec M1 M2 (by omega) (by omega)
  have hmC : Ev (fun k => laws_markConsole.f k M1 M2 [] (⟨#[]⟩ : ByteArray) (⟨#[]⟩ : ByteArray) 0 1) (1 + (2 * M1.length : Nat) + (2 * M2.length : Nat), markAll mkC (fun _ => 2) 1 M1, markAll mkR (fun _ => 2) (1 + (2 * M1.length : Nat)) M2, []) := by
    unfold laws_markConsole.f
    exact Ev.bind hmM (ev_bind0 (o := laws_markDatedS.f 0 [] (1 + (2 * M1.length : Nat) + (2 * M2.length : Nat))) rfl (ev_now rfl))
  have hhC : Ev (fun k => laws_heldConsole.f k (markAll mkC (fun _ => 2) 1 M1) (markAll mkR (fun _ => 2) (1 + (2 * M1.length : Nat)) M2) [] (⟨#[]⟩ : ByteArray) (⟨#[]⟩ : ByteArray) 0 1) (1 + (2 * M1.length : Nat) + (2 * M2.length : Nat)) := by
    unfold laws_heldConsole.f
    have hh : Ev (fun k => laws_heldRecord.f k (markAll mkC (fun _ => 2) 1 M1) (markAll mkR (fun _ => 2) (1 + (2 * M1.length : Nat)) M2) 1) (1 + (2 * M1.length : Nat) + (2 * M2.length : Nat)) := by
      unfold laws_heldRecord.f
      exact Ev.bind (heldC M1 1 (by omega) (by omega) (by omega)) (ev_neg (by omega) (Ev.bind (heldR M2 _ (by omega) (by omega) (by omega)) (ev_neg (by omega) (ev_now rfl))))
    refine Ev.bind hh (ev_neg (by omega) (Ev.bind (show Ev (fun k => laws_heldDatedS.f k [] (1 + (2 * M1.length : Nat) + (2 * M2.length : Nat))) (1 + (2 * M1.length : Nat) + (2 * M2.length : Nat)) from ?_) (ev_neg (by omega) (ev_now rfl))))
    unfold laws_heldDatedS.f
    exact Ev.step (fun k => rfl) (ev_neg (by simp) (ev_now rfl))
  refine Ev.bind htr (Ev.bind hsp (Ev.bind htr (Ev.bind him (Ev.bind heqC (ev_pos rfl ?_)))))
  refine Ev.step (fun k => rfl) (ev_neg (by simp) (Ev.bind htr (Ev.bind heq (ev_pos rfl (Ev.bind hmR (ev_neg (by omega) (Ev.bind heqC (ev_pos rfl ?_))))))))
  refine Ev.step (fun k => rfl) (ev_neg (by simp) (Ev.bind hmC (Ev.bind hhC (ev_neg (by omega) (ev_pos rfl (Ev.bind htr (Ev.bind him (Ev.bind heqC (ev_pos rfl ?_)))))))))
  exact Ev.step (fun k => rfl) (ev_neg (by simp) (Ev.bind hhC (ev_neg (by omega) (ev_pos rfl (ev_now rfl)))))
end Go.Proofs.Ytogjjcjnnclghaa.Pure
namespace Go.Proofs.Ytogjjcjnnclghaa.fnExactNewConsole
open Go.ChangeShapes Go.WideShapes Go.ChangeAt Go.RowKit Go.Joins Go.Proofs.YtogjjcjnnclghaaW.PrintWords Go.Proofs.Ytogjjcjnnclghaa.Open Go.Proofs.Ytogjjcjnnclghaa.X
open Go.ChangeMaps (open_string shut_string)
set_option linter.unusedVariables false
theorem own : ownKnob Try.prog.godebug = none := by kernel_rfl
theorem laidOut : laidOutB Try.prog = true := by kernel_rfl
set_option maxRecDepth 100000 in
theorem lifted (os : Os) (started : os.Started) (H : Type) (enc : TypeId × Value → H) :
    ReturnsInHanded {} Try.checked os 3 .any (Rows.fnExactNewConsoleSpec.pre6 enc Try.prog Try.f3 Rows.fnExactNewConsoleRow.domain false) (Rows.fnExactNewConsoleSpec.post enc Try.prog Try.f3 false true false false) := by
  refine returnsInHanded_of_change_sized (C := Try.checked) own started (by kernel_rfl) Try.func3
    (ChangeSpec.witness6 (enc := enc) (C := Try.checked) false ⟨#[], #[.agg #[.slice none 0 0, .slice none 0 0]], []⟩ 8 (by kernel_rfl) (by kernel_rfl) (by kernel_rfl) (by kernel_rfl)) ?_
  intro W base args ds gs before hval0 hW hcnd hsz0 _
  have hval : ∀ (j : Nat) t v, Try.f3.params[j]? = some t → args[j]? = some v → Value.okWide Try.prog W .any base t v := hval0
  have hW' := hW
  obtain ⟨p, q, hA0, hV, rfl, hfz, hnd⟩ := hW
  have hA : DataW.TrodAll enc Try.prog W 0 (fun _ => true) true Try.f3.params.toList args.toList ds p := hA0
  rw [Try.params3] at hA hval
  obtain ⟨v0, vs0, d0, ds0, p0, q0, hargs, rfl, rfl, h0, r0⟩ := trodAll_cons hA
  obtain ⟨rfl, rfl, rfl⟩ := trodAll_nil r0
  obtain rfl : args = #[v0] := by cases args; simp_all
  obtain ⟨rfl, rfl⟩ := trodVars_none hV
  have kk0 := h0
  have lt0 : ∀ x ∈ p0, x.block < W.heap.size := by obtain ⟨m, hm⟩ := kk0; exact DataW.trod_lt m _ _ _ hm
  obtain ⟨a0, cs0, rfl, hK0, g0⟩ := arg_agg op25 (by obtain ⟨cs, e, _⟩ := okWide_struct Try.underlying25 (hval 0 25 v0 rfl rfl); exact ⟨cs, e⟩) h0
  obtain ⟨A0_0, c0_0, A0_1, c0_1, he0, hc0_0, hr0_0, hc0_1, hr0_1⟩ := k25_open hK0
  obtain rfl : cs0 = #[.slice A0_0 a0.f0.length c0_0, .slice A0_1 a0.f1.length c0_1] := by cases cs0; simp_all
  clear hA0 hval0 hsz0
  obtain ⟨k, hk⟩ := Pure.FnExactNewConsole a0 g0
  refine (X.laws_FnExactNewConsole.calls k _ _ a0.f0 _ _ a0.f1 true W hr0_0 hc0_0 hr0_1 hc0_1 hk (Aside0.mk rfl)).mono ?_
  rintro e W' ⟨he, bel0⟩
  have bel : Below W.heap.size W W' := by first | exact bel0 | exact bel0.below
  subst he
  exact ⟨_, rfl, _, _, _, [], _, [], hW', trodAll_mk1 (shut_bool Try.underlying4 _), (trodAll_cons_mk (Below.trod laidOut (by kernel_rfl) (of_decide_eq_true (by kernel_rfl)) kk0 bel lt0) trodAll_mk0), rfl, bel.frame _, fun h => by cases h⟩
theorem over : Rows.fnExactNewConsoleRow.holds Try.pinned (OpenSpec.ofChange Rows.fnExactNewConsoleSpec) :=
  OpenClaim.holds_of_wide 3 Try.f3 rfl rfl rfl rfl rfl rfl rfl ⟨rfl, rfl, rfl, rfl, rfl⟩ rfl rfl rfl rfl rfl (by kernel_rfl) Try.func3 (by kernel_rfl)
    (of_decide_eq_true (by kernel_rfl)) (by unfold Func.isWrapper; first | (rw [if_pos (by decide +kernel)]; kernel_rfl) | (rw [if_neg (by decide +kernel)]; exact ⟨rfl, rfl⟩))
    (fun os started H enc _ => lifted os started H enc)
theorem proved : Rows.FnExactNewConsoleSaid := over
#print axioms proved
end Go.Proofs.Ytogjjcjnnclghaa.fnExactNewConsole
namespace Go.Proofs.Ytogjjcjnnclghaa
/-- The row, under a short name, for the claim. -/
theorem fnExactNewConsole_holds : Rows.FnExactNewConsoleSaid := fnExactNewConsole.proved
end Go.Proofs.Ytogjjcjnnclghaa
