/- For every record and report the law FnExactHeadingNumbers answers true. No condition beyond what a reading tells.
This file (part 6 of 6) holds what the proof needs: plain functions with rounds and contracts written by programs of this work over the translation, and the lemmas. -/
import Derived.Test.YtdjaaphhdmchjaaDoorZFnExactHeadingNumbers1
import Derived.ChangeArms
import Derived.DataReads
import Derived.Deep.Slices
import Derived.ChangeOld
import Derived.OpenShut
import Derived.Test.YtdjaaphhdmchjaaDoorZFnExactHeadingNumbers2
import Derived.Test.YtdjaaphhdmchjaaDoorZFnExactHeadingNumbers5
import Derived.Test.YtdjaaphhdmchjaaDoorZFnExactHeadingNumbers3
import Derived.Test.YtdjaaphhdmchjaaDoorZFnExactHeadingNumbers4
import Derived.Lib.ItoaNum
import Derived.Lib.ItoaLen
import Derived.Test.YtdjaaphhdmchjaaDoorTie
import Derived.Test.YtdjaaphhdmchjaaDoorCards
import Derived.Test.YtdjaaphhdmchjaaDoorRows
import Derived.WalkKit
import Derived.ProofKit
import Derived.ShutString
import Derived.Below
import Derived.SizedLaws
import Derived.Lib.SmallJoins
import Derived.LaidMore
import Derived.Stop.Joined
import Derived.Stop.LaidErr
import Derived.Lib.LaidTab
import Derived.LaidSub
import Derived.Handed
import Derived.SevenTiedAt
set_option linter.unusedVariables false
set_option linter.unusedSimpArgs false
namespace Go.Proofs.YtdjaaphhdmchjaaDoor.Open
open Go.RowKit Go.Proofs.YtdjaaphhdmchjaaDoorW.PrintWords

/-- What reads at type t is of kind d, and good. -/
def Opens (P : Program) (t : TypeId) {α : Type} (d : Kd α) (good : α → Prop) : Prop :=
  ∀ (H : Type) (enc : TypeId × Value → H) (w : World) (fuel : Nat) (cs : List Value) (x : DataW H × List MemPlace),
    DataW.trod enc P w 0 (fun _ => true) true fuel t cs = some x → ∃ a, d.K w a cs ∧ good a

theorem opens_int {P : Program} {t : TypeId} {k : IntKind} (ht : P.underlying t = some (.int k)) : Opens P t (Kd.int k) (fun n => (Lit.int k n).wf = true) := by
  intro H enc w fuel cs x hx
  obtain ⟨n, rfl, _, hw⟩ := DataW.trod_int ht hx
  exact ⟨n, rfl, hw⟩
theorem opens_string {P : Program} {t : TypeId} (ht : P.underlying t = some .string) : Opens P t Kd.string (fun s => s.size ≤ 9223372036854775807) := by
  intro H enc w fuel cs x hx
  obtain ⟨n, rfl, _, hw⟩ := DataW.trod_string ht hx
  exact ⟨n, rfl, by simpa [maxLen] using hw⟩

theorem cells_each {w : World} {a : Addr} {n : Nat} {cs : List Value} (h : w.cells? 0 a n = some cs) : cs.length = n ∧ ∀ i u, cs[i]? = some u → w.cell? (a.add i) = some u := by
  have h1 := World.cells?_some h
  refine ⟨h1.2.1, fun i u hu => ?_⟩
  have hi : i < n := by
    have := (List.getElem?_eq_some_iff.1 hu).1
    omega
  rw [h1.2.2 i hi, hu]

theorem opens_slice {P : Program} {t e : TypeId} {α : Type} {d : Kd α} {g : α → Prop} (ht : P.underlying t = some (.slice e)) (hsz : P.cellsOf e = d.sz) (h : Opens P e d g) :
    Opens P t (Kd.slice e d) (fun xs => xs.length ≤ 9223372036854775807 ∧ ∀ x ∈ xs, g x) := by
  intro H enc w fuel cs x hx
  rcases DataW.trod_slice ht hx with ⟨rfl, _⟩ | ⟨a, len, cap, elems, rest, n, rfl, rfl, _, _, hlc, hcap, hel, hget, _, _⟩
  · exact ⟨[], ⟨none, 0, rfl, Nat.le_refl _, Kd.C_nil d w⟩, by simp, by simp⟩
  · simp only [maxLen] at hcap
    have each : ∀ i, i < len → ∃ b : α, ∃ c : List Value, c.length = d.sz ∧ d.K w b c ∧ g b ∧ ∀ j u, c[j]? = some u → w.cell? (a.add (i * d.sz + j)) = some u := by
      intro i hi
      have h1 := hget i hi
      obtain ⟨y, hy⟩ : ∃ y, elems[i]? = some y := ⟨_, List.getElem?_eq_getElem (by omega)⟩
      rw [hy] at h1
      obtain ⟨c, hc, ht'⟩ := Option.bind_eq_some_iff.1 h1
      obtain ⟨b, hK, hg⟩ := h H enc w n c y ht'
      obtain ⟨hl, hcell⟩ := cells_each hc
      refine ⟨b, c, hl.trans hsz, hK, hg, fun j u hu => ?_⟩
      have := hcell j u hu
      rw [Deep.add_add, hsz] at this
      exact this
    have mk : ∀ m, m ≤ len → ∃ xs : List α, xs.length = m ∧ (∀ x ∈ xs, g x) ∧ ∀ j p, xs[j]? = some p → ∃ c, c.length = d.sz ∧ d.K w p c ∧ ∀ i u, c[i]? = some u → w.cell? (a.add (j * d.sz + i)) = some u := by
      intro m
      induction m with
      | zero => exact fun _ => ⟨[], rfl, by simp, by simp⟩
      | succ m ih =>
        intro hm
        obtain ⟨xs, hl, hg, hx⟩ := ih (by omega)
        obtain ⟨b, c, hc1, hc2, hc3, hc4⟩ := each m (by omega)
        refine ⟨xs ++ [b], by simp [hl], ?_, ?_⟩
        · intro x hx'
          rcases List.mem_append.1 hx' with hx' | hx'
          · exact hg x hx'
          · rw [List.mem_singleton.1 hx']; exact hc3
        · intro j p hj
          by_cases hjm : j < m
          · rw [List.getElem?_append_left (by omega)] at hj
            exact hx j p hj
          · have hlt := (List.getElem?_eq_some_iff.1 hj).1
            simp only [List.length_append, List.length_cons, List.length_nil] at hlt
            obtain rfl : j = m := by omega
            rw [List.getElem?_append_right (by omega), hl, Nat.sub_self] at hj
            simp only [List.getElem?_cons_zero, Option.some.injEq] at hj
            subst hj
            exact ⟨c, hc1, hc2, hc4⟩
    obtain ⟨ys, hl, hg, hy⟩ := mk len (Nat.le_refl _)
    subst hl
    exact ⟨ys, ⟨some a, cap, rfl, hlc, rfl, by omega, fun _ => ⟨a, rfl, hy⟩⟩, by omega, hg⟩

def offs (L : List (TypeId × Nat)) (i : Nat) : Nat := ((L.take i).map (·.2)).sum
def Sect (P : Program) (L : List (TypeId × Nat)) {α : Type} (d : Kd α) (good : α → Prop) : Prop :=
  ∀ (H : Type) (enc : TypeId × Value → H) (w : World) (n : Nat) (cs : List Value), cs.length = (L.map (·.2)).sum →
    (∀ i p, L[i]? = some p → ∃ y, DataW.trod enc P w 0 (fun _ => true) true n p.1 ((cs.drop (offs L i)).take p.2) = some y) → ∃ a, d.K w a cs ∧ good a
theorem sect_one {P : Program} {t : TypeId} {s : Nat} {α : Type} {d : Kd α} {g : α → Prop} (h : Opens P t d g) : Sect P [(t, s)] d g := by
  intro H enc w n cs hl hf
  obtain ⟨y, hy⟩ := hf 0 _ rfl
  simp only [offs, List.take_zero, List.map_nil, List.sum_nil, List.drop_zero] at hy
  rw [List.take_of_length_le (by simp at hl; omega)] at hy
  exact h H enc w n cs y hy
theorem sect_cons {P : Program} {t : TypeId} {s : Nat} {L : List (TypeId × Nat)} {α β : Type} {d : Kd α} {d' : Kd β} {g : α → Prop} {g' : β → Prop} (h : Opens P t d g) (h' : Sect P L d' g') :
    Sect P ((t, s) :: L) (Kd.pair d d') (fun x => g x.1 ∧ g' x.2) := by
  intro H enc w n cs hl hf
  obtain ⟨y, hy⟩ := hf 0 _ rfl
  simp only [offs, List.take_zero, List.map_nil, List.sum_nil, List.drop_zero] at hy
  obtain ⟨a, ha, hga⟩ := h H enc w n _ y hy
  obtain ⟨b, hb, hgb⟩ := h' H enc w n (cs.drop s) (by simp only [List.map_cons, List.sum_cons] at hl; rw [List.length_drop, hl]; omega) (by
    intro i p hp
    obtain ⟨z, hz⟩ := hf (i + 1) p (by simpa using hp)
    refine ⟨z, ?_⟩
    simp only [offs, List.take_succ_cons, List.map_cons, List.sum_cons] at hz
    rw [List.drop_drop]
    exact hz)
  exact ⟨(a, b), ⟨cs.take s, cs.drop s, (List.take_append_drop s cs).symm, ha, hb⟩, hga, hgb⟩
theorem opens_struct {P : Program} {t : TypeId} {fs : Array Field} {α β : Type} {d : Kd α} {g : α → Prop} (f : β → α) (k : α → β) (hk : ∀ x, f (k x) = x) (L : List (TypeId × Nat))
    (ht : P.underlying t = some (.struct fs)) (hL : L = fs.toList.map (fun f => (f.type, P.cellsOf f.type))) (ho : fs.toList.map (·.offset) = (List.range L.length).map (offs L)) (hc : P.cellsOf t = (L.map (·.2)).sum)
    (h : Sect P L d g) : Opens P t (Kd.iso d f) (fun x => g (f x)) := by
  intro H enc w fuel cs x hx
  obtain ⟨xs, n, rfl, rfl, hl, hxl, hf⟩ := DataW.trod_struct ht hx
  obtain ⟨a, ha, hg⟩ := h H enc w n cs (hl.trans hc) (by
    intro i p hp
    have hi : i < fs.size := by
      have := (List.getElem?_eq_some_iff.1 hp).1
      rw [hL] at this
      simpa using this
    have hfi : fs[i]? = some fs[i] := Array.getElem?_eq_getElem hi
    have h1 := hf i fs[i] hfi
    obtain ⟨y, hy⟩ : ∃ y, xs[i]? = some y := ⟨_, List.getElem?_eq_getElem (by omega)⟩
    rw [hy] at h1
    refine ⟨y, ?_⟩
    have hp' : p = (fs[i].type, P.cellsOf fs[i].type) := by
      rw [hL] at hp
      simp only [List.getElem?_map, Array.getElem?_toList, hfi, Option.map_some, Option.some.injEq] at hp
      exact hp.symm
    have hoi : fs[i].offset = offs L i := by
      have h2 : (fs.toList.map (·.offset))[i]? = ((List.range L.length).map (offs L))[i]? := by rw [ho]
      have hLl : L.length = fs.size := by rw [hL]; simp
      simp only [List.getElem?_map, Array.getElem?_toList, hfi, Option.map_some, List.getElem?_range (show i < L.length by omega)] at h2
      exact Option.some.inj h2
    rw [hp', ← hoi]
    exact h1)
  refine ⟨k a, ?_, ?_⟩
  · show d.K w (f (k a)) cs
    rw [hk]; exact ha
  · show g (f (k a))
    rw [hk]; exact hg

theorem arg_slice {P : Program} {W : World} {H : Type} {enc : TypeId × Value → H} {t e : TypeId} {α : Type} {d : Kd α} {g : List α → Prop} {v : Value} {x : DataW H} {p : List MemPlace} (h : Opens P t (Kd.slice e d) g)
    (hs : ∃ a len cap, v = .slice a len cap) (hv : DataW.Trod enc P W 0 (fun _ => true) true t v x p) : ∃ A c xs, v = .slice A xs.length c ∧ xs.length ≤ c ∧ Kd.C d W A xs.length xs ∧ g xs := by
  obtain ⟨a, len, cap, rfl⟩ := hs
  obtain ⟨fuel, hf⟩ := hv
  obtain ⟨xs, ⟨A, c, he, hl, hc⟩, hg⟩ := h H enc W fuel _ _ hf
  simp [Value.cells] at he
  obtain ⟨rfl, rfl, rfl⟩ := he
  exact ⟨_, _, xs, rfl, hl, hc, hg⟩
theorem arg_agg {P : Program} {W : World} {H : Type} {enc : TypeId × Value → H} {t : TypeId} {α : Type} {d : Kd α} {g : α → Prop} {v : Value} {x : DataW H} {p : List MemPlace} (h : Opens P t d g)
    (hs : ∃ cs, v = .agg cs) (hv : DataW.Trod enc P W 0 (fun _ => true) true t v x p) : ∃ a cs, v = .agg cs ∧ d.K W a cs.toList ∧ g a := by
  obtain ⟨cs, rfl⟩ := hs
  obtain ⟨fuel, hf⟩ := hv
  obtain ⟨a, hK, hg⟩ := h H enc W fuel _ _ hf
  exact ⟨a, cs, rfl, hK, hg⟩
end Go.Proofs.YtdjaaphhdmchjaaDoor.Open
set_option linter.unusedVariables false
namespace Go.Proofs.YtdjaaphhdmchjaaDoor.X
open Go.RowKit Go.Proofs.YtdjaaphhdmchjaaDoorW.PrintWords Go.Proofs.YtdjaaphhdmchjaaDoor.Open
theorem op3 : Opens Tryd.prog 3 (Kd.int .i64) (fun n => (Lit.int .i64 n).wf = true) := opens_int Tryd.underlying3
def good70 (x : S70) : Prop := (Lit.int .i64 x.f0).wf = true ∧ (Lit.int .i64 x.f1).wf = true
theorem op70 : Opens Tryd.prog 70 k70 good70 :=
  opens_struct (fun x : S70 => (x.f0, x.f1)) (fun p => ⟨p.1, p.2⟩) (fun _ => rfl) [(3, 1), (3, 1)] Tryd.underlying70 (by kernel_rfl) (by decide) (by kernel_rfl) (sect_cons op3 (sect_one op3))
theorem op22 : Opens Tryd.prog 22 (Kd.slice 70 k70) (fun xs => (xs.length ≤ 9223372036854775807 ∧ ∀ y ∈ xs, good70 y)) := opens_slice Tryd.underlying22 (by kernel_rfl) op70
def good74 (x : S74) : Prop := (Lit.int .i64 x.f0).wf = true ∧ (Lit.int .i64 x.f1).wf = true
theorem op74 : Opens Tryd.prog 74 k74 good74 :=
  opens_struct (fun x : S74 => (x.f0, x.f1)) (fun p => ⟨p.1, p.2⟩) (fun _ => rfl) [(3, 1), (3, 1)] Tryd.underlying74 (by kernel_rfl) (by decide) (by kernel_rfl) (sect_cons op3 (sect_one op3))
theorem op23 : Opens Tryd.prog 23 (Kd.slice 74 k74) (fun xs => (xs.length ≤ 9223372036854775807 ∧ ∀ y ∈ xs, good74 y)) := opens_slice Tryd.underlying23 (by kernel_rfl) op74
def good25 (x : S25) : Prop := (x.f0.length ≤ 9223372036854775807 ∧ ∀ y ∈ x.f0, good70 y) ∧ (x.f1.length ≤ 9223372036854775807 ∧ ∀ y ∈ x.f1, good74 y)
theorem op25 : Opens Tryd.prog 25 k25 good25 :=
  opens_struct (fun x : S25 => (x.f0, x.f1)) (fun p => ⟨p.1, p.2⟩) (fun _ => rfl) [(22, 1), (23, 1)] Tryd.underlying25 (by kernel_rfl) (by decide) (by kernel_rfl) (sect_cons op22 (sect_one op23))
theorem op9 : Opens Tryd.prog 9 Kd.string (fun s => s.size ≤ 9223372036854775807) := opens_string Tryd.underlying9
theorem op49 : Opens Tryd.prog 49 (Kd.slice 3 (Kd.int .i64)) (fun xs => (xs.length ≤ 9223372036854775807 ∧ ∀ y ∈ xs, (Lit.int .i64 y).wf = true)) := opens_slice Tryd.underlying49 (by kernel_rfl) op3
def good51 (x : S51) : Prop := (Lit.int .i64 x.f0).wf = true ∧ x.f1.size ≤ 9223372036854775807 ∧ (x.f2.length ≤ 9223372036854775807 ∧ ∀ y ∈ x.f2, (Lit.int .i64 y).wf = true)
theorem op51 : Opens Tryd.prog 51 k51 good51 :=
  opens_struct (fun x : S51 => (x.f0, x.f1, x.f2)) (fun p => ⟨p.1, p.2.1, p.2.2⟩) (fun _ => rfl) [(3, 1), (9, 1), (49, 1)] Tryd.underlying51 (by kernel_rfl) (by decide) (by kernel_rfl) (sect_cons op3 (sect_cons op9 (sect_one op49)))
theorem op26 : Opens Tryd.prog 26 (Kd.slice 51 k51) (fun xs => (xs.length ≤ 9223372036854775807 ∧ ∀ y ∈ xs, good51 y)) := opens_slice Tryd.underlying26 (by kernel_rfl) op51
end Go.Proofs.YtdjaaphhdmchjaaDoor.X
namespace Go.Proofs.YtdjaaphhdmchjaaDoor.X
open Go.RowKit Go.Proofs.YtdjaaphhdmchjaaDoorW.PrintWords
def PureFnExactHeadingNumbers : Prop := ∀ (a0 : S25) (a1 : List (S51)), good25 a0 → (a1.length ≤ 9223372036854775807 ∧ ∀ y ∈ a1, good51 y) → ∃ k, laws_FnExactHeadingNumbers.f k (a0.f0) (a0.f1) a1 = some true
end Go.Proofs.YtdjaaphhdmchjaaDoor.X
set_option linter.unusedVariables false
set_option linter.unusedSimpArgs false
namespace Go.Proofs.YtdjaaphhdmchjaaDoor.X
open Go.RowKit Go.Proofs.YtdjaaphhdmchjaaDoorW.PrintWords Go.Proofs.YtdjaaphhdmchjaaDoor.E
theorem specIn_eq (a l h : Int) : spec_l1In.f a l h = some (decide (l ≤ a ∧ a ≤ h)) := by
  unfold spec_l1In.f
  by_cases h1 : a ≥ l
  · rw [if_pos h1]; congr 1; simp [h1]
  · rw [if_neg h1]; congr 1; symm; simp; intro h2; omega
theorem implIn_eq (a l h : Int) : impl_within.f a l h = some (decide (l ≤ a ∧ a ≤ h)) := by
  unfold impl_within.f
  by_cases h1 : a ≥ l
  · rw [if_pos h1]; congr 1; simp [h1]
  · rw [if_neg h1]; congr 1; symm; simp; intro h2; omega
theorem isNumber_eq (a : Int) : impl_isNumber.f a = some (decide (1 ≤ a ∧ a ≤ 999)) := by unfold impl_isNumber.f; rw [implIn_eq]; rfl
theorem isKind_eq (a : Int) : impl_isKind.f a = some (decide (1 ≤ a ∧ a ≤ 4)) := by unfold impl_isKind.f; rw [implIn_eq]; rfl
def findC (cs : List S68) (n : Int) : Int := idxG (fun x : S68 => x.f0 == n) 0 cs
theorem indexOf_eq (cs : List S68) (rs : List S72) (n : Int) : impl_indexOf.f cs rs n = some (findC cs n) := rfl
theorem l2Find_ev (cs : List S68) (rs : List S72) (n : Int) (hl : cs.length ≤ 9223372036854775807) : Ev (fun k => spec_l2Find.f k cs rs n) (findC cs n) := by
  have h := ev_walk (L := fun k i => spec_l2Find.l0 k n i cs rs) (G := fun i r => idxG (fun x : S68 => x.f0 == n) i r) cs (Ev.step (fun k => rfl) (ev_neg (by omega) (ev_now rfl))) ?step
  case step =>
    intro i x r hi hd hx hk
    refine Ev.step (fun k => rfl) (ev_pos (by omega) (ev_pos (by omega) ?_))
    simp only [rd_T68, Int.toNat_natCast, hx]
    by_cases c : x.f0 = n
    · exact ev_pos c (ev_now (by simp [idxG, c]))
    · refine ev_neg c ?_
      rw [wrap_succ hi hl]
      exact ev_cast hk (by simp [idxG, c])
  exact h
def CtxP (cs : List S68) (i : Nat) : Prop := (1 ≤ (rd_T68 cs i).f0 ∧ (rd_T68 cs i).f0 ≤ 999) ∧ (1 ≤ (rd_T68 cs i).f1 ∧ (rd_T68 cs i).f1 ≤ 4) ∧ (0 < i → (rd_T68 cs ((i - 1 : Nat) : Int)).f0 < (rd_T68 cs i).f0)
def befP (x y : S72) : Prop := x.f0 < y.f0 ∨ (x.f0 = y.f0 ∧ x.f1 < y.f1)
def RelP (cs : List S68) (rs : List S72) (i : Nat) : Prop := (rd_T72 rs i).f0 ≠ (rd_T72 rs i).f1 ∧ 0 ≤ findC cs (rd_T72 rs i).f0 ∧ 0 ≤ findC cs (rd_T72 rs i).f1 ∧ (0 < i → befP (rd_T72 rs ((i - 1 : Nat) : Int)) (rd_T72 rs i))
instance (x y : S72) : Decidable (befP x y) := by unfold befP; exact inferInstance
instance (cs : List S68) (i : Nat) : Decidable (CtxP cs i) := by unfold CtxP; exact inferInstance
instance (cs : List S68) (rs : List S72) (i : Nat) : Decidable (RelP cs rs i) := by unfold RelP; exact inferInstance
def relsB (cs : List S68) (rs : List S72) : Bool := (List.range rs.length).all (fun i => decide (RelP cs rs i))
def recOk (cs : List S68) (rs : List S72) : Bool := decide (cs.length ≤ 10 ∧ rs.length ≤ 24) && ((List.range cs.length).all (fun i => decide (CtxP cs i)) && relsB cs rs)
def sg (a b : Int) : Int := if a < b then -1 else if a > b then 1 else 0
theorem compare_eq (a b : Int) : cmp_Compare_int.f a b = some (sg a b) := by
  have hn : ∀ z : Int, cmp_isNaN_int.f z = some false := fun z => by unfold cmp_isNaN_int.f; simp
  unfold cmp_Compare_int.f sg
  rw [hn, hn]
  simp only [Option.bind_some, Bool.false_eq_true, if_false]
  by_cases h : a < b
  · rw [if_pos h, if_pos h]
  · rw [if_neg h, if_neg h]
    by_cases h2 : a > b
    · rw [if_pos h2, if_pos h2]
    · rw [if_neg h2, if_neg h2]
theorem or_ev (a b : Int) : Ev (fun k => cmp_Or_int.f k [a, b]) (if a = 0 then b else a) := by
  have r0 : rd [a, b] 0 = a := rfl
  have r1 : rd [a, b] 1 = b := rfl
  have w1 : wrap64 (0 + 1) = 1 := by rw [wrap_id (by omega) (by omega)]; rfl
  have w2 : wrap64 (1 + 1) = 2 := by rw [wrap_id (by omega) (by omega)]; rfl
  unfold cmp_Or_int.f
  refine Ev.step (fun k => rfl) (ev_pos (by simp) (ev_pos (by omega) (ev_pos (by simp) ?_)))
  rw [r0, w1]
  by_cases h : a = 0
  · rw [if_pos h]
    refine ev_pos h (Ev.step (fun k => rfl) (ev_pos (by simp) (ev_pos (by omega) (ev_pos (by simp) ?_))))
    rw [r1, w2]
    by_cases h2 : b = 0
    · exact ev_pos h2 (Ev.step (fun k => rfl) (ev_neg (by simp) (ev_now h2.symm)))
    · exact ev_neg h2 (ev_now rfl)
  · rw [if_neg h]
    exact ev_neg h (ev_now rfl)
theorem compareRel_ev (x y : S72) : ∃ c, Ev (fun k => impl_compareRelations.f k x.f0 x.f1 y.f0 y.f1) c ∧ (c ≥ 0 ↔ ¬ befP x y) := by
  refine ⟨if sg x.f0 y.f0 = 0 then sg x.f1 y.f1 else sg x.f0 y.f0, ?_, ?_⟩
  · unfold impl_compareRelations.f
    exact ev_bind0 (compare_eq _ _) (ev_bind0 (compare_eq _ _) (Ev.bind (or_ev _ _) (ev_now rfl)))
  · unfold sg befP
    repeat' split
    all_goals omega
theorem before_eq (x y : S72) : spec_l2Before.f x.f0 x.f1 y.f0 y.f1 = some (decide (befP x y)) := by
  have hb : befP x y ↔ (x.f0 < y.f0 ∨ (x.f0 = y.f0 ∧ x.f1 < y.f1)) := Iff.rfl
  unfold spec_l2Before.f
  by_cases h1 : x.f0 < y.f0
  · rw [if_pos h1, decide_eq_true (hb.2 (Or.inl h1))]
  · rw [if_neg h1]
    by_cases h2 : x.f0 = y.f0
    · rw [if_pos h2]; congr 1; rw [decide_eq_decide, hb]; omega
    · rw [if_neg h2, decide_eq_false (fun h => by have := hb.1 h; omega)]
theorem implRels_ev (cs : List S68) (rs : List S72) (hr : rs.length ≤ 24) : Ev (fun k => impl_IsValidRecord.l1 k rs (rs.length : Int) 0 cs rs) (relsB cs rs) := by
  have h := ev_all0 (L := fun k i => impl_IsValidRecord.l1 k rs (rs.length : Int) i cs rs) rs.length (fun i => decide (RelP cs rs i)) false true (fun _ => Ev.step (fun k => rfl) (ev_neg (by omega) (ev_now rfl))) ?h1 ?h2
  case h1 =>
    intro i hi _ hc y hy
    obtain ⟨c1, c2, c3, c4⟩ := of_decide_eq_true hc
    refine Ev.step (fun k => rfl) (ev_pos (by omega) (ev_pos (by omega) (ev_pos (by omega) (ev_neg c1 (ev_bind0 (indexOf_eq _ _ _) (ev_neg (by omega) (ev_bind0 (indexOf_eq _ _ _) (Ev.step (fun k => rfl) (ev_neg (by rw [decide_eq_true_eq]; omega) ?_)))))))))
    rw [wrap_succ hi (by omega)]
    rcases Nat.eq_zero_or_pos i with h0 | h0
    · exact ev_neg (by omega) hy
    · rw [wrap_pred h0 (by omega)]
      obtain ⟨c, hv, hcc⟩ := compareRel_ev (rd_T72 rs ((i - 1 : Nat) : Int)) (rd_T72 rs i)
      exact ev_pos (by omega) (ev_pos (by omega) (ev_pos (by omega) (Ev.bind hv (ev_neg (fun e => hcc.1 e (c4 h0)) hy))))
  case h2 =>
    intro i hi _ hc
    have hc' := of_decide_eq_false hc
    refine Ev.step (fun k => rfl) (ev_pos (by omega) (ev_pos (by omega) (ev_pos (by omega) (ev_ite (fun _ => Ev.step (fun k => rfl) (ev_now rfl)) (fun c1 => ev_bind0 (indexOf_eq _ _ _) (ev_ite (fun _ => Ev.step (fun k => rfl) (ev_now rfl)) (fun c2 => ev_bind0 (indexOf_eq _ _ _) (Ev.step (fun k => rfl) (ev_ite (fun _ => ev_now rfl) (fun c3 => ?_))))))))))
    rw [decide_eq_true_eq] at c3
    rcases Nat.eq_zero_or_pos i with h0 | h0
    · exact absurd ⟨c1, by omega, by omega, fun h => by omega⟩ hc'
    · rw [wrap_pred h0 (by omega)]
      obtain ⟨c, hv, hcc⟩ := compareRel_ev (rd_T72 rs ((i - 1 : Nat) : Int)) (rd_T72 rs i)
      exact ev_pos (by omega) (ev_pos (by omega) (ev_pos (by omega) (Ev.bind hv (ev_pos (hcc.2 (fun e => hc' ⟨c1, by omega, by omega, fun _ => e⟩)) (ev_now rfl)))))
  refine ev_cast h ?_
  unfold relsB
  cases (List.range rs.length).all (fun i => decide (RelP cs rs i)) <;> rfl
theorem specRels_ev (cs : List S68) (rs : List S72) (hcl : cs.length ≤ 10) (hr : rs.length ≤ 24) : Ev (fun k => spec_l2Good.l1 k 0 cs rs) (relsB cs rs) := by
  have hf : ∀ n, Ev (fun k => spec_l2Find.f k cs rs n) (findC cs n) := fun n => l2Find_ev cs rs n (by omega)
  have h := ev_all0 (L := fun k i => spec_l2Good.l1 k i cs rs) rs.length (fun i => decide (RelP cs rs i)) false true (fun _ => Ev.step (fun k => rfl) (ev_neg (by omega) (ev_now rfl))) ?h1 ?h2
  case h1 =>
    intro i hi _ hc y hy
    obtain ⟨c1, c2, c3, c4⟩ := of_decide_eq_true hc
    refine Ev.step (fun k => rfl) (ev_pos (by omega) (ev_pos (by omega) (ev_neg c1 (Ev.bind (hf _) (ev_neg (by omega) (Ev.bind (hf _) (ev_neg (by omega) ?_)))))))
    rw [wrap_succ hi (by omega)]
    rcases Nat.eq_zero_or_pos i with h0 | h0
    · exact ev_neg (by omega) hy
    · rw [wrap_pred h0 (by omega)]
      exact ev_pos (by omega) (ev_pos (by omega) (ev_pos (by omega) (ev_bind0 (before_eq _ _) (ev_pos (decide_eq_true (c4 h0)) hy))))
  case h2 =>
    intro i hi _ hc
    have hc' := of_decide_eq_false hc
    refine Ev.step (fun k => rfl) (ev_pos (by omega) (ev_pos (by omega) (ev_ite (fun _ => ev_now rfl) (fun c1 => Ev.bind (hf _) (ev_ite (fun _ => ev_now rfl) (fun c2 => Ev.bind (hf _) (ev_ite (fun _ => ev_now rfl) (fun c3 => ?_))))))))
    rcases Nat.eq_zero_or_pos i with h0 | h0
    · exact absurd ⟨c1, by omega, by omega, fun h => by omega⟩ hc'
    · rw [wrap_pred h0 (by omega)]
      exact ev_pos (by omega) (ev_pos (by omega) (ev_pos (by omega) (ev_bind0 (before_eq _ _) (ev_neg (fun e => hc' ⟨c1, by omega, by omega, fun _ => of_decide_eq_true e⟩) (ev_now rfl)))))
  refine ev_cast h ?_
  unfold relsB
  cases (List.range rs.length).all (fun i => decide (RelP cs rs i)) <;> rfl
theorem implRecord_ev (cs : List S68) (rs : List S72) : Ev (fun k => impl_IsValidRecord.f k cs rs) (recOk cs rs) := by
  unfold impl_IsValidRecord.f recOk
  refine ev_ite (fun c => ?_) (fun c => Ev.step (fun k => rfl) (ev_ite (fun d => ev_now ?_) (fun d => ?_)))
  · rw [decide_eq_false (by omega), Bool.false_and]
    exact Ev.step (fun k => rfl) (ev_now rfl)
  · rw [decide_eq_true_eq] at d
    rw [decide_eq_false (by omega), Bool.false_and]
  rw [decide_eq_true_eq] at d
  rw [decide_eq_true (by omega), Bool.true_and]
  have h := ev_all0 (L := fun k i => impl_IsValidRecord.l0 k cs (cs.length : Int) i cs rs) cs.length (fun i => decide (CtxP cs i)) false (relsB cs rs) (fun _ => Ev.step (fun k => rfl) (ev_neg (by omega) (implRels_ev cs rs (by omega)))) ?h1 ?h2
  case h1 =>
    intro i hi _ hc y hy
    obtain ⟨c1, c2, c3⟩ := of_decide_eq_true hc
    refine Ev.step (fun k => rfl) (ev_pos (by omega) (ev_pos (by omega) (ev_pos (by omega) (ev_bind0 (isNumber_eq _) (ev_pos (decide_eq_true c1) (ev_bind0 (isKind_eq _) (ev_pos (decide_eq_true c2) ?_)))))))
    rw [wrap_succ hi (by omega)]
    rcases Nat.eq_zero_or_pos i with h0 | h0
    · exact ev_neg (by omega) hy
    · rw [wrap_pred h0 (by omega)]
      exact ev_pos (by omega) (ev_pos (by omega) (ev_pos (by omega) (ev_neg (by have := c3 h0; omega) hy)))
  case h2 =>
    intro i hi _ hc
    have hc' := of_decide_eq_false hc
    refine Ev.step (fun k => rfl) (ev_pos (by omega) (ev_pos (by omega) (ev_pos (by omega) (ev_bind0 (isNumber_eq _) (ev_ite (fun c1 => ev_bind0 (isKind_eq _) (ev_ite (fun c2 => ?_) (fun _ => ev_now rfl))) (fun _ => ev_now rfl))))))
    rcases Nat.eq_zero_or_pos i with h0 | h0
    · exact absurd ⟨of_decide_eq_true c1, of_decide_eq_true c2, fun h => by omega⟩ hc'
    · rw [wrap_pred h0 (by omega)]
      exact ev_pos (by omega) (ev_pos (by omega) (ev_pos (by omega) (ev_pos (Classical.byContradiction fun e => hc' ⟨of_decide_eq_true c1, of_decide_eq_true c2, fun _ => by omega⟩) (ev_now rfl))))
  refine ev_cast h ?_
  cases (List.range cs.length).all (fun i => decide (CtxP cs i)) <;> simp
theorem specRecord_ev (cs : List S68) (rs : List S72) : Ev (fun k => spec_l2Good.f k cs rs) (recOk cs rs) := by
  unfold spec_l2Good.f recOk
  refine ev_ite (fun c => ?_) (fun c => Ev.step (fun k => rfl) (ev_ite (fun d => ev_now ?_) (fun d => ?_)))
  · rw [decide_eq_false (by omega), Bool.false_and]
    exact Ev.step (fun k => rfl) (ev_now rfl)
  · rw [decide_eq_true_eq] at d
    rw [decide_eq_false (by omega), Bool.false_and]
  rw [decide_eq_true_eq] at d
  rw [decide_eq_true (by omega), Bool.true_and]
  have h := ev_all0 (L := fun k i => spec_l2Good.l0 k i cs rs) cs.length (fun i => decide (CtxP cs i)) false (relsB cs rs) (fun _ => Ev.step (fun k => rfl) (ev_neg (by omega) (specRels_ev cs rs (by omega) (by omega)))) ?h1 ?h2
  case h1 =>
    intro i hi _ hc y hy
    obtain ⟨c1, c2, c3⟩ := of_decide_eq_true hc
    refine Ev.step (fun k => rfl) (ev_pos (by omega) (ev_pos (by omega) (ev_bind0 (specIn_eq _ _ _) (ev_pos (decide_eq_true c1) (ev_bind0 (specIn_eq _ _ _) (ev_pos (decide_eq_true c2) ?_))))))
    rw [wrap_succ hi (by omega)]
    rcases Nat.eq_zero_or_pos i with h0 | h0
    · exact ev_neg (by omega) hy
    · rw [wrap_pred h0 (by omega)]
      exact ev_pos (by omega) (ev_pos (by omega) (ev_pos (by omega) (ev_neg (by have := c3 h0; omega) hy)))
  case h2 =>
    intro i hi _ hc
    have hc' := of_decide_eq_false hc
    refine Ev.step (fun k => rfl) (ev_pos (by omega) (ev_pos (by omega) (ev_bind0 (specIn_eq _ _ _) (ev_ite (fun c1 => ev_bind0 (specIn_eq _ _ _) (ev_ite (fun c2 => ?_) (fun _ => ev_now rfl))) (fun _ => ev_now rfl)))))
    rcases Nat.eq_zero_or_pos i with h0 | h0
    · exact absurd ⟨of_decide_eq_true c1, of_decide_eq_true c2, fun h => by omega⟩ hc'
    · rw [wrap_pred h0 (by omega)]
      exact ev_pos (by omega) (ev_pos (by omega) (ev_pos (by omega) (ev_pos (Classical.byContradiction fun e => hc' ⟨of_decide_eq_true c1, of_decide_eq_true c2, fun _ => by omega⟩) (ev_now rfl))))
  refine ev_cast h ?_
  cases (List.range cs.length).all (fun i => decide (CtxP cs i)) <;> simp
end Go.Proofs.YtdjaaphhdmchjaaDoor.X
set_option linter.unusedVariables false
set_option linter.unusedSimpArgs false
namespace Go.Proofs.YtdjaaphhdmchjaaDoor.X
open Go.RowKit Go.Proofs.YtdjaaphhdmchjaaDoorW.PrintWords Go.Proofs.YtdjaaphhdmchjaaDoor.E
def textAt (s : ByteArray) (i : Nat) : Bool := decide (32 ≤ bt s i ∧ bt s i ≤ 126)
def textB (s : ByteArray) : Bool := (List.range s.size).all (textAt s) && decide ((s.size : Int) ≤ 40)
theorem isText_ev (s : ByteArray) (hs : s.size ≤ 9223372036854775807) : Ev (fun k => impl_isText.f k s) (textB s) := by
  have h := ev_all0 (L := fun k i => impl_isText.l0 k s (s.size : Int) i) s.size (textAt s) false (decide ((s.size : Int) ≤ 40)) (fun _ => Ev.step (fun k => rfl) (ev_neg (by omega) (ev_now rfl))) ?h1 ?h2
  case h1 =>
    intro i hi _ hc y hy
    simp only [textAt, decide_eq_true_eq] at hc
    refine Ev.step (fun k => rfl) (ev_pos (by omega) (ev_pos (by omega) (ev_pos (by omega) ?_)))
    rw [wrap_succ hi hs]
    exact ev_neg (by omega) (ev_neg (by omega) hy)
  case h2 =>
    intro i hi _ hc
    simp only [textAt, decide_eq_false_iff_not] at hc
    refine Ev.step (fun k => rfl) (ev_pos (by omega) (ev_pos (by omega) (ev_pos (by omega) ?_)))
    refine ev_ite (fun _ => ev_now rfl) (fun _ => ev_ite (fun _ => ev_now rfl) (fun _ => ?_))
    exfalso; omega
  refine ev_cast h ?_
  unfold textB
  cases (List.range s.size).all (textAt s) <;> simp
theorem l21Text_ev (s : ByteArray) (hs : s.size ≤ 9223372036854775807) : Ev (fun k => spec_l21Text.f k s) (textB s) := by
  -- within the first forty bytes as the program; a longer one is refused at the forty-second step or before
  have h := ev_all0 (L := fun k i => spec_l21Text.l0 k s i) (min s.size 41) (textAt s) false (decide ((s.size : Int) ≤ 40)) ?h0 ?h1 ?h2
  case h0 =>
    intro _
    by_cases c : s.size ≤ 40
    · rw [Nat.min_eq_left (by omega)]
      exact Ev.step (fun k => rfl) (ev_neg (by omega) (Ev.step (fun k => rfl) (ev_now rfl)))
    · rw [Nat.min_eq_right (by omega)]
      refine Ev.step (fun k => rfl) ?_
      show Ev (fun k => if ((41 : Nat) : Int) < (s.size : Int) then spec_l21Text.j1 k s ((41 : Nat) : Int) (decide (((41 : Nat) : Int) ≤ 40)) else spec_l21Text.j1 k s ((41 : Nat) : Int) false) _
      rw [decide_eq_false (show ¬ (((41 : Nat) : Int) ≤ 40) by omega)]
      exact ev_ite (fun _ => Ev.step (fun k => rfl) (ev_now rfl)) (fun _ => Ev.step (fun k => rfl) (ev_now rfl))
  case h1 =>
    intro i hi _ hc y hy
    simp only [textAt, decide_eq_true_eq] at hc
    have hi' : i < s.size := by omega
    refine Ev.step (fun k => rfl) (ev_pos (by omega) ?_)
    rw [decide_eq_true (show (i : Int) ≤ 40 by omega)]
    refine Ev.step (fun k => rfl) ?_
    show Ev (fun k => if 0 ≤ (i : Int) then (if (i : Int) < (s.size : Int) then (if (bt s i) < 32 then (some false) else (if (bt s i) > 126 then (some false) else (spec_l21Text.l0 k s (wrap64 ((i : Int) + 1))))) else none) else none) y
    rw [wrap_succ hi' hs]
    exact ev_pos (by omega) (ev_pos (by omega) (ev_neg (by omega) (ev_neg (by omega) hy)))
  case h2 =>
    intro i hi _ hc
    simp only [textAt, decide_eq_false_iff_not] at hc
    have hi' : i < s.size := by omega
    refine Ev.step (fun k => rfl) (ev_pos (by omega) ?_)
    rw [decide_eq_true (show (i : Int) ≤ 40 by omega)]
    refine Ev.step (fun k => rfl) ?_
    show Ev (fun k => if 0 ≤ (i : Int) then (if (i : Int) < (s.size : Int) then (if (bt s i) < 32 then (some false) else (if (bt s i) > 126 then (some false) else (spec_l21Text.l0 k s (wrap64 ((i : Int) + 1))))) else none) else none) _
    refine ev_pos (by omega) (ev_pos (by omega) (ev_ite (fun _ => ev_now rfl) (fun _ => ev_ite (fun _ => ev_now rfl) (fun _ => ?_))))
    exfalso; omega
  refine ev_cast h ?_
  unfold textB
  by_cases c : s.size ≤ 40
  · rw [Nat.min_eq_left (by omega)]
    cases (List.range s.size).all (textAt s) <;> simp
  · rw [decide_eq_false (show ¬ ((s.size : Int) ≤ 40) by omega)]
    simp
end Go.Proofs.YtdjaaphhdmchjaaDoor.X
set_option linter.unusedVariables false
set_option linter.unusedSimpArgs false
namespace Go.Proofs.YtdjaaphhdmchjaaDoor.X
open Go.RowKit Go.Proofs.YtdjaaphhdmchjaaDoorW.PrintWords Go.Proofs.YtdjaaphhdmchjaaDoorW.PrintMore Go.Proofs.YtdjaaphhdmchjaaDoor.E
def AreP (cs : List S68) (l : List Int) (i : Nat) : Prop := 0 ≤ findC cs (rd l i) ∧ (0 < i → rd l ((i - 1 : Nat) : Int) < rd l i)
instance (cs : List S68) (l : List Int) (i : Nat) : Decidable (AreP cs l i) := by unfold AreP; exact inferInstance
def areB (cs : List S68) (l : List Int) : Bool := (List.range l.length).all (fun i => decide (AreP cs l i))
theorem areContexts_ev (cs : List S68) (rs : List S72) (l : List Int) (hl : l.length ≤ 9223372036854775807) : Ev (fun k => impl_areContexts.f k cs rs l) (areB cs l) := by
  have h := ev_all0 (L := fun k i => impl_areContexts.l0 k l l (l.length : Int) i cs rs) l.length (fun i => decide (AreP cs l i)) false true (fun _ => Ev.step (fun k => rfl) (ev_neg (by omega) (ev_now rfl))) ?h1 ?h2
  case h1 =>
    intro i hi _ hc y hy
    obtain ⟨c1, c2⟩ := of_decide_eq_true hc
    refine Ev.step (fun k => rfl) (ev_pos (by omega) (ev_pos (by omega) (ev_pos (by omega) (ev_bind0 (indexOf_eq _ _ _) (ev_neg (by omega) ?_)))))
    rw [wrap_succ hi hl]
    rcases Nat.eq_zero_or_pos i with h0 | h0
    · exact ev_neg (by omega) hy
    · rw [wrap_pred h0 (by omega)]
      exact ev_pos (by omega) (ev_pos (by omega) (ev_pos (by omega) (ev_neg (by have := c2 h0; omega) hy)))
  case h2 =>
    intro i hi _ hc
    have hc' := of_decide_eq_false hc
    refine Ev.step (fun k => rfl) (ev_pos (by omega) (ev_pos (by omega) (ev_pos (by omega) (ev_bind0 (indexOf_eq _ _ _) (ev_ite (fun _ => ev_now rfl) (fun c1 => ?_))))))
    rcases Nat.eq_zero_or_pos i with h0 | h0
    · exact absurd ⟨by omega, fun h => by omega⟩ hc'
    · rw [wrap_pred h0 (by omega)]
      exact ev_pos (by omega) (ev_pos (by omega) (ev_pos (by omega) (ev_pos (Classical.byContradiction fun e => hc' ⟨by omega, fun _ => by omega⟩) (ev_now rfl))))
  refine ev_cast h ?_
  unfold areB
  cases (List.range l.length).all (fun i => decide (AreP cs l i)) <;> rfl
theorem l24Contexts_ev (cs : List S68) (rs : List S72) (hcl : cs.length ≤ 9223372036854775807) (l : List Int) (hl : l.length ≤ 9223372036854775807) : Ev (fun k => spec_l24Contexts.f k cs rs l) (areB cs l) := by
  have hf : ∀ n, Ev (fun k => spec_l2Find.f k cs rs n) (findC cs n) := fun n => l2Find_ev cs rs n hcl
  have h := ev_all0 (L := fun k i => spec_l24Contexts.l0 k l i cs rs) l.length (fun i => decide (AreP cs l i)) false true (fun _ => Ev.step (fun k => rfl) (ev_neg (by omega) (ev_now rfl))) ?h1 ?h2
  case h1 =>
    intro i hi _ hc y hy
    obtain ⟨c1, c2⟩ := of_decide_eq_true hc
    refine Ev.step (fun k => rfl) (ev_pos (by omega) (ev_pos (by omega) (Ev.bind (hf _) (ev_neg (by omega) ?_))))
    rw [wrap_succ hi hl]
    rcases Nat.eq_zero_or_pos i with h0 | h0
    · exact ev_neg (by omega) hy
    · rw [wrap_pred h0 (by omega)]
      exact ev_pos (by omega) (ev_pos (by omega) (ev_pos (by omega) (ev_neg (by have := c2 h0; omega) hy)))
  case h2 =>
    intro i hi _ hc
    have hc' := of_decide_eq_false hc
    refine Ev.step (fun k => rfl) (ev_pos (by omega) (ev_pos (by omega) (Ev.bind (hf _) (ev_ite (fun _ => ev_now rfl) (fun c1 => ?_)))))
    rcases Nat.eq_zero_or_pos i with h0 | h0
    · exact absurd ⟨by omega, fun h => by omega⟩ hc'
    · rw [wrap_pred h0 (by omega)]
      exact ev_pos (by omega) (ev_pos (by omega) (ev_pos (by omega) (ev_pos (Classical.byContradiction fun e => hc' ⟨by omega, fun _ => by omega⟩) (ev_now rfl))))
  refine ev_cast h ?_
  unfold areB
  cases (List.range l.length).all (fun i => decide (AreP cs l i)) <;> rfl
/-- A part behind a heading of a level. -/
def partB (cs : List S68) (p : S54) (lv : Int) : Bool :=
  if p.f0 = 1 then (if p.f1.toList = ([] : List UInt8) then false else textB p.f1 && decide ((p.f2.length : Int) = 1) && decide (1 ≤ rd p.f2 0 ∧ rd p.f2 0 ≤ mn 3 (wrap64 (lv + 1))))
  else if p.f0 = 2 then textB p.f1 && ((p.f2.length : Int) == 0)
  else if p.f0 = 3 then (if p.f1.toList = ([] : List UInt8) then decide ((p.f2.length : Int) > 0) && areB cs p.f2 else false)
  else if p.f0 = 4 then (if p.f1.toList = ([] : List UInt8) then decide ((p.f2.length : Int) = 2) && (decide (rd p.f2 0 ≠ rd p.f2 1) && (decide (findC cs (rd p.f2 0) ≥ 0) && decide (findC cs (rd p.f2 1) ≥ 0))) else false)
  else false
theorem isPart_ev (cs : List S68) (rs : List S72) (p : S54) (lv : Int) (h1 : p.f1.size ≤ 9223372036854775807) (h2 : p.f2.length ≤ 9223372036854775807) : Ev (fun k => impl_isPart.f k cs rs p.f0 p.f1 p.f2 lv) (partB cs p lv) := by
  unfold impl_isPart.f partB
  refine ev_ite (fun k1 => ?_) (fun k1 => ev_ite (fun k2 => ?_) (fun k2 => ev_ite (fun k3 => ?_) (fun k3 => ev_ite (fun k4 => ?_) (fun k4 => ?_))))
  · rw [if_pos k1]
    refine ev_ite (fun c => ev_now (if_pos c).symm) (fun c => ?_)
    rw [if_neg c]
    refine Ev.bind (isText_ev _ h1) (ev_ite (fun d => ?_) (fun d => ev_now ?_))
    · rw [d, Bool.true_and]
      refine ev_ite (fun e => ev_pos (by omega) (ev_bind0 (implIn_eq _ _ _) (ev_now ?_))) (fun e => ev_now ?_)
      · rw [decide_eq_true e, Bool.true_and]
      · rw [decide_eq_false e, Bool.false_and]
    · rw [Bool.not_eq_true] at d; rw [d]; simp
  · rw [if_neg k1, if_pos k2]
    refine Ev.bind (isText_ev _ h1) (ev_ite (fun d => ev_now ?_) (fun d => ev_now ?_))
    · rw [d, Bool.true_and]
    · rw [Bool.not_eq_true] at d; rw [d]; simp
  · rw [if_neg k1, if_neg k2, if_pos k3]
    refine ev_ite (fun c => ?_) (fun c => ev_now (if_neg c).symm)
    rw [if_pos c]
    refine ev_ite (fun d => ?_) (fun d => ev_now ?_)
    · rw [decide_eq_true d, Bool.true_and]
      exact Ev.bind (areContexts_ev cs rs p.f2 h2) (ev_now rfl)
    · rw [decide_eq_false d, Bool.false_and]
  · rw [if_neg k1, if_neg k2, if_neg k3, if_pos k4]
    refine ev_ite (fun c => ?_) (fun c => ev_now (if_neg c).symm)
    rw [if_pos c]
    refine ev_ite (fun d => ?_) (fun d => ev_now ?_)
    · rw [decide_eq_true d, Bool.true_and]
      refine ev_pos (by omega) (ev_pos (by omega) (ev_ite (fun e => ev_now ?_) (fun e => ?_)))
      · rw [decide_eq_false (by simpa using e), Bool.false_and]
      · rw [decide_eq_true e, Bool.true_and]
        refine ev_bind0 (indexOf_eq _ _ _) (ev_ite (fun g => ?_) (fun g => ev_now ?_))
        · rw [decide_eq_true g, Bool.true_and]
          exact ev_bind0 (indexOf_eq _ _ _) (ev_now rfl)
        · rw [decide_eq_false g, Bool.false_and]
    · rw [decide_eq_false d, Bool.false_and]
  · rw [if_neg k1, if_neg k2, if_neg k3, if_neg k4]
    exact ev_now rfl
theorem least_eq (a : Int) : spec_l1Least.f a 3 = some (mn 3 a) := by
  unfold spec_l1Least.f mn
  by_cases h : a < 3
  · rw [if_pos h, if_pos h]
  · rw [if_neg h, if_neg h]
theorem l24Part_ev (cs : List S68) (rs : List S72) (hcl : cs.length ≤ 9223372036854775807) (p : S54) (lv : Int) (h1 : p.f1.size ≤ 9223372036854775807) (h2 : p.f2.length ≤ 9223372036854775807) : Ev (fun k => spec_l24Part.f k cs rs p.f0 p.f1 p.f2 lv) (partB cs p lv) := by
  have hf : ∀ n, Ev (fun k => spec_l2Find.f k cs rs n) (findC cs n) := fun n => l2Find_ev cs rs n hcl
  unfold spec_l24Part.f partB
  refine ev_ite (fun k1 => ?_) (fun k1 => ev_ite (fun k2 => ?_) (fun k2 => ev_ite (fun k3 => ?_) (fun k3 => ev_ite (fun k4 => ?_) (fun k4 => ?_))))
  · rw [if_pos k1]
    refine ev_ite (fun c => ev_now (if_pos c).symm) (fun c => ?_)
    rw [if_neg c]
    refine Ev.bind (l21Text_ev _ h1) (ev_ite (fun d => ?_) (fun d => ev_now ?_))
    · rw [d, Bool.true_and]
      refine ev_ite (fun e => ev_pos (by omega) (ev_bind0 (least_eq _) (ev_bind0 (specIn_eq _ _ _) (ev_now ?_)))) (fun e => ev_now ?_)
      · rw [decide_eq_true e, Bool.true_and]
      · rw [decide_eq_false e, Bool.false_and]
    · rw [Bool.not_eq_true] at d; rw [d]; simp
  · rw [if_neg k1, if_pos k2]
    refine Ev.bind (l21Text_ev _ h1) (ev_ite (fun d => ev_now ?_) (fun d => ev_now ?_))
    · rw [d, Bool.true_and]
    · rw [Bool.not_eq_true] at d; rw [d]; simp
  · rw [if_neg k1, if_neg k2, if_pos k3]
    refine ev_ite (fun c => ?_) (fun c => ev_now (if_neg c).symm)
    rw [if_pos c]
    refine ev_ite (fun d => ?_) (fun d => ev_now ?_)
    · rw [decide_eq_true d, Bool.true_and]
      exact Ev.bind (l24Contexts_ev cs rs hcl p.f2 h2) (ev_now rfl)
    · rw [decide_eq_false d, Bool.false_and]
  · rw [if_neg k1, if_neg k2, if_neg k3, if_pos k4]
    refine ev_ite (fun c => ?_) (fun c => ev_now (if_neg c).symm)
    rw [if_pos c]
    refine ev_ite (fun d => ?_) (fun d => ev_now ?_)
    · rw [decide_eq_true d, Bool.true_and]
      refine ev_pos (by omega) (ev_pos (by omega) (ev_ite (fun e => ev_now ?_) (fun e => ?_)))
      · rw [decide_eq_false (by simpa using e), Bool.false_and]
      · rw [decide_eq_true e, Bool.true_and]
        refine Ev.bind (hf _) (ev_ite (fun g => ?_) (fun g => ev_now ?_))
        · rw [decide_eq_true g, Bool.true_and]
          exact Ev.bind (hf _) (ev_now rfl)
        · rw [decide_eq_false g, Bool.false_and]
    · rw [decide_eq_false d, Bool.false_and]
  · rw [if_neg k1, if_neg k2, if_neg k3, if_neg k4]
    exact ev_now rfl
/-- The level ahead of the part of a number. -/
def lvAt (ps : List S54) : Nat → Int
  | 0 => 0
  | i + 1 => if (rd_T54 ps i).f0 = 1 then rd (rd_T54 ps i).f2 0 else lvAt ps i
def partsB (cs : List S68) (ps : List S54) : Bool := (List.range ps.length).all (fun i => partB cs (rd_T54 ps i) (lvAt ps i))
def repOk (cs : List S68) (rs : List S72) (ps : List S54) : Bool := partsB cs ps && (recOk cs rs && decide ((ps.length : Int) ≤ 16))
theorem part_one {cs : List S68} {p : S54} {lv : Int} (h : partB cs p lv = true) (h1 : p.f0 = 1) : (p.f2.length : Int) = 1 := by
  unfold partB at h
  rw [if_pos h1] at h
  by_cases c : p.f1.toList = ([] : List UInt8)
  · rw [if_pos c] at h; exact absurd h (by simp)
  · rw [if_neg c, Bool.and_eq_true, Bool.and_eq_true] at h
    exact of_decide_eq_true h.1.2
theorem rd_mem (ps : List S54) (i : Nat) (hi : i < ps.length) : rd_T54 ps i ∈ ps := by
  unfold rd_T54
  rw [Int.toNat_natCast, getD_in hi]
  exact List.getElem_mem hi
theorem implReport_ev (cs : List S68) (rs : List S72) (ps : List S54) (hl : ps.length ≤ 9223372036854775807) (hp : ∀ p ∈ ps, p.f1.size ≤ 9223372036854775807 ∧ p.f2.length ≤ 9223372036854775807) : Ev (fun k => impl_IsValidReport.f k cs rs ps) (repOk cs rs ps) := by
  have hpart : ∀ i, i < ps.length → ∀ lv, Ev (fun k => impl_isPart.f k cs rs (rd_T54 ps i).f0 (rd_T54 ps i).f1 (rd_T54 ps i).f2 lv) (partB cs (rd_T54 ps i) lv) := fun i hi lv => isPart_ev cs rs _ lv (hp _ (rd_mem ps i hi)).1 (hp _ (rd_mem ps i hi)).2
  have hend : Ev (fun k => (impl_IsValidRecord.f k cs rs).bind fun t102 => (if t102 = true then (some (decide ((ps.length : Int) ≤ 16))) else (some false))) (recOk cs rs && decide ((ps.length : Int) ≤ 16)) := by
    refine Ev.bind (implRecord_ev cs rs) (ev_ite (fun c => ev_now ?_) (fun c => ev_now ?_))
    · rw [c, Bool.true_and]
    · rw [Bool.not_eq_true] at c; rw [c, Bool.false_and]
  have h := ev_all (L := fun k (lv : Int) i => impl_IsValidReport.l0 k ps lv ps (ps.length : Int) i cs rs) ps.length (lvAt ps) (fun i => partB cs (rd_T54 ps i) (lvAt ps i)) false (recOk cs rs && decide ((ps.length : Int) ≤ 16)) (fun _ => Ev.step (fun k => rfl) (ev_neg (by omega) hend)) ?h1 ?h2
  case h1 =>
    intro i hi _ hc y hy
    refine Ev.step (fun k => rfl) (ev_pos (by omega) (ev_pos (by omega) (ev_pos (by omega) (Ev.bind (hpart i hi _) (ev_pos hc ?_)))))
    rw [wrap_succ hi hl]
    rw [lvAt] at hy
    by_cases c : (rd_T54 ps i).f0 = 1
    · rw [if_pos c] at hy
      have := part_one hc c
      exact ev_pos c (ev_pos (by omega) hy)
    · rw [if_neg c] at hy
      exact ev_neg c hy
  case h2 =>
    intro i hi _ hc
    exact Ev.step (fun k => rfl) (ev_pos (by omega) (ev_pos (by omega) (ev_pos (by omega) (Ev.bind (hpart i hi _) (ev_neg (by rw [hc]; simp) (ev_now rfl))))))
  refine ev_cast h ?_
  unfold repOk partsB
  cases (List.range ps.length).all (fun i => partB cs (rd_T54 ps i) (lvAt ps i)) <;> simp
theorem recOk_len {cs : List S68} {rs : List S72} (h : recOk cs rs = true) : cs.length ≤ 10 ∧ rs.length ≤ 24 := by
  unfold recOk at h
  rw [Bool.and_eq_true] at h
  exact of_decide_eq_true h.1
theorem specReport_ev (cs : List S68) (rs : List S72) (ps : List S54) (hp : ∀ p ∈ ps, p.f1.size ≤ 9223372036854775807 ∧ p.f2.length ≤ 9223372036854775807) : Ev (fun k => spec_l24Good.f k cs rs ps) (repOk cs rs ps) := by
  unfold spec_l24Good.f repOk
  refine Ev.bind (specRecord_ev cs rs) (ev_ite (fun c => ?_) (fun c => ?_))
  case refine_2 =>
    rw [Bool.not_eq_true] at c
    rw [c, Bool.false_and, Bool.and_false]
    exact Ev.step (fun k => rfl) (ev_now rfl)
  rw [c, Bool.true_and]
  have hcl := (recOk_len c).1
  refine Ev.step (fun k => rfl) (ev_ite (fun d => ev_now ?_) (fun d => ?_))
  · rw [decide_eq_true_eq] at d
    rw [decide_eq_false (by omega), Bool.and_false]
  rw [decide_eq_true_eq] at d
  rw [decide_eq_true (show (ps.length : Int) ≤ 16 by omega), Bool.and_true]
  have hpart : ∀ i, i < ps.length → ∀ lv, Ev (fun k => spec_l24Part.f k cs rs (rd_T54 ps i).f0 (rd_T54 ps i).f1 (rd_T54 ps i).f2 lv) (partB cs (rd_T54 ps i) lv) := fun i hi lv => l24Part_ev cs rs (by omega) _ lv (hp _ (rd_mem ps i hi)).1 (hp _ (rd_mem ps i hi)).2
  have h := ev_all (L := fun k (lv : Int) i => spec_l24Good.l0 k ps lv i cs rs) ps.length (lvAt ps) (fun i => partB cs (rd_T54 ps i) (lvAt ps i)) false true (fun _ => Ev.step (fun k => rfl) (ev_neg (by omega) (ev_now rfl))) ?h1 ?h2
  case h1 =>
    intro i hi _ hc y hy
    refine Ev.step (fun k => rfl) (ev_pos (by omega) (ev_pos (by omega) (Ev.bind (hpart i hi _) (ev_pos hc ?_))))
    rw [wrap_succ hi (by omega)]
    rw [lvAt] at hy
    by_cases c : (rd_T54 ps i).f0 = 1
    · rw [if_pos c] at hy
      have := part_one hc c
      exact ev_pos c (ev_pos (by omega) hy)
    · rw [if_neg c] at hy
      exact ev_neg c hy
  case h2 =>
    intro i hi _ hc
    exact Ev.step (fun k => rfl) (ev_pos (by omega) (ev_pos (by omega) (Ev.bind (hpart i hi _) (ev_neg (by rw [hc]; simp) (ev_now rfl)))))
  refine ev_cast h ?_
  unfold partsB
  cases (List.range ps.length).all (fun i => partB cs (rd_T54 ps i) (lvAt ps i)) <;> simp
end Go.Proofs.YtdjaaphhdmchjaaDoor.X
set_option linter.unusedVariables false
set_option linter.unusedSimpArgs false
namespace Go.Proofs.YtdjaaphhdmchjaaDoor.X
open Go.RowKit Go.Proofs.YtdjaaphhdmchjaaDoorW.PrintWords Go.Proofs.YtdjaaphhdmchjaaDoor.E
def numB (n : Int) : ByteArray := ⟨(Lib.itoa n).toArray⟩
def decB (u : Nat) : ByteArray := ⟨(Lib.decDigits u).toArray⟩
theorem digit_fin : ∀ i : Fin 10, (⟨#[48, 49, 50, 51, 52, 53, 54, 55, 56, 57]⟩ : ByteArray).extract i.val (i.val + 1) = ⟨#[UInt8.ofNat (48 + i.val)]⟩ := by decide +kernel
theorem digit_at (i : Int) (j : Int) (h0 : 0 ≤ i) (h1 : i < 10) (hj : j = i + 1) : (⟨#[48, 49, 50, 51, 52, 53, 54, 55, 56, 57]⟩ : ByteArray).extract i.toNat j.toNat = ⟨#[UInt8.ofNat (48 + i.toNat)]⟩ := by
  rw [show j.toNat = i.toNat + 1 by omega]
  exact digit_fin ⟨i.toNat, by omega⟩
theorem ba_append (l m : List UInt8) : (⟨l.toArray⟩ : ByteArray) ++ (⟨m.toArray⟩ : ByteArray) = ⟨(l ++ m).toArray⟩ := by
  apply ByteArray.ext
  rw [ByteArray.data_append]
  simp
theorem ba_size (l : List UInt8) : (⟨l.toArray⟩ : ByteArray).size = l.length := rfl
theorem decB_size (u : Nat) (h : u < 18446744073709551616) : (decB u).size ≤ 20 := by
  unfold decB
  rw [ba_size, Lib.decDigits_length]
  exact Lib.nDigits_le20 u h
theorem numB_size (n : Int) (h0 : -9223372036854775808 ≤ n) (h1 : n ≤ 9223372036854775807) : (numB n).size ≤ 21 := by
  unfold numB
  rw [ba_size]
  exact Lib.itoa_length_le n h0 h1
theorem l1Num_nat : ∀ (u : Nat), u ≤ 9223372036854775807 → Ev (fun k => spec_l1Num.f k (u : Int)) (decB u) := by
  intro u
  induction u using Nat.strongRecOn with
  | _ u ih =>
    intro hu
    refine Ev.step (fun k => rfl) (ev_neg (by omega) ?_)
    by_cases h : u < 10
    · have hw : wrap64 ((u : Int) + 1) = (u : Int) + 1 := wrap_id (by omega) (by omega)
      rw [hw]
      refine ev_pos (by omega) (ev_pos (by omega) (ev_pos (by omega) (ev_pos (by omega) (ev_now ?_))))
      rw [digit_at (u : Int) _ (by omega) (by omega) rfl]
      unfold decB
      rw [Lib.decDigits, dif_pos h, Int.toNat_natCast]
    · refine ev_neg (by omega) ?_
      have hd : Int.tdiv (u : Int) 10 = ((u / 10 : Nat) : Int) := by rw [Int.tdiv_eq_ediv_of_nonneg (by omega)]; omega
      have hm : Int.tmod (u : Int) 10 = ((u % 10 : Nat) : Int) := by rw [Int.tmod_eq_emod_of_nonneg (by omega)]; omega
      have hw : wrap64 ((u / 10 : Nat) : Int) = ((u / 10 : Nat) : Int) := wrap_id (by omega) (by omega)
      have hw2 : wrap64 (((u % 10 : Nat) : Int) + 1) = ((u % 10 : Nat) : Int) + 1 := wrap_id (by omega) (by omega)
      rw [hd, hw, hm, hw2]
      refine Ev.bind (ih (u / 10) (by omega) (by omega)) ?_
      rw [digit_at ((u % 10 : Nat) : Int) _ (by omega) (by omega) rfl]
      have hs := decB_size (u / 10) (by omega)
      have h1 : (⟨#[UInt8.ofNat (48 + ((u % 10 : Nat) : Int).toNat)]⟩ : ByteArray).size = 1 := rfl
      refine ev_pos (by omega) (ev_pos (by omega) (ev_pos (by omega) (ev_pos (by omega) (ev_now ?_))))
      unfold decB
      rw [show (⟨#[UInt8.ofNat (48 + ((u % 10 : Nat) : Int).toNat)]⟩ : ByteArray) = ⟨[UInt8.ofNat (48 + u % 10)].toArray⟩ by rw [Int.toNat_natCast], ba_append]
      conv => rhs; rw [Lib.decDigits, dif_neg h]
theorem l1Num_ev (n : Int) (h0 : -9223372036854775807 ≤ n) (h1 : n ≤ 9223372036854775807) : Ev (fun k => spec_l1Num.f k n) (numB n) := by
  by_cases hn : n < 0
  · have hw : wrap64 (-n) = ((n.natAbs : Nat) : Int) := by rw [wrap_id (by omega) (by omega)]; omega
    refine Ev.step (fun k => rfl) (ev_pos hn ?_)
    rw [hw]
    have hs := decB_size n.natAbs (by omega)
    refine Ev.bind (l1Num_nat _ (by omega)) (ev_pos (by omega) (ev_now ?_))
    unfold numB decB
    rw [show (⟨#[45]⟩ : ByteArray) = ⟨[45].toArray⟩ from rfl, ba_append, Lib.itoa, if_pos hn]
    rfl
  · obtain ⟨u, rfl⟩ : ∃ u : Nat, n = u := ⟨n.toNat, by omega⟩
    refine ev_cast (l1Num_nat u (by omega)) ?_
    unfold numB decB
    rw [Lib.itoa, if_neg hn, Int.toNat_natCast]
end Go.Proofs.YtdjaaphhdmchjaaDoor.X
set_option linter.unusedVariables false
set_option linter.unusedSimpArgs false
namespace Go.Proofs.YtdjaaphhdmchjaaDoor.X
open Go.RowKit Go.Proofs.YtdjaaphhdmchjaaDoorW.PrintWords Go.Proofs.YtdjaaphhdmchjaaDoor.E
abbrev Part := S54
theorem Itoa_num (n : Int) (h0 : -9223372036854775808 ≤ n) (h1 : n ≤ 9223372036854775807) : strconv_Itoa.f n = some (numB n) := by unfold strconv_Itoa.f; rw [if_pos ⟨h0, h1⟩]; rfl
def numAt (lv : Int) (s : Int × Int × Int) : ByteArray := if lv = 1 then numB s.1 else if lv = 2 then (numB s.1 ++ (⟨#[46]⟩ : ByteArray)) ++ numB s.2.1 else (((numB s.1 ++ (⟨#[46]⟩ : ByteArray)) ++ numB s.2.1) ++ (⟨#[46]⟩ : ByteArray)) ++ numB s.2.2
def nx (lv : Int) (s : Int × Int × Int) : Int × Int × Int := if lv = 1 then (s.1 + 1, 0, 0) else if lv = 2 then (s.1, s.2.1 + 1, 0) else (s.1, s.2.1, s.2.2 + 1)
def lvl (ps : List Part) (i : Nat) : Int := rd (rd_T54 ps i).f2 0
def cnt (ps : List Part) : Nat → Int × Int × Int
  | 0 => (0, 0, 0)
  | i + 1 => if (rd_T54 ps i).f0 = 1 then nx (lvl ps i) (cnt ps i) else cnt ps i
def heads (ps : List Part) : Nat → List ByteArray
  | 0 => []
  | i + 1 => if (rd_T54 ps i).f0 = 1 then heads ps i ++ [numAt (lvl ps i) (nx (lvl ps i) (cnt ps i))] else heads ps i
def alls (ps : List Part) : Nat → List ByteArray
  | 0 => []
  | i + 1 => alls ps i ++ [if (rd_T54 ps i).f0 = 1 then numAt (lvl ps i) (nx (lvl ps i) (cnt ps i)) else ⟨#[]⟩]
theorem heads_length (ps : List Part) : ∀ i, (heads ps i).length ≤ i
  | 0 => Nat.le_refl _
  | i + 1 => by
    have := heads_length ps i
    rw [heads]
    split
    · rw [List.length_append, List.length_singleton]; omega
    · omega
theorem alls_length (ps : List Part) : ∀ i, (alls ps i).length = i
  | 0 => rfl
  | i + 1 => by rw [alls, List.length_append, alls_length ps i, List.length_singleton]
def Few (i : Nat) (s : Int × Int × Int) : Prop := (0 ≤ s.1 ∧ s.1 ≤ (i : Int)) ∧ (0 ≤ s.2.1 ∧ s.2.1 ≤ (i : Int)) ∧ (0 ≤ s.2.2 ∧ s.2.2 ≤ (i : Int))
theorem nx_few {i : Nat} {s : Int × Int × Int} (lv : Int) (h : Few i s) : Few (i + 1) (nx lv s) := by
  obtain ⟨h1, h2, h3⟩ := h
  unfold nx Few
  split
  · exact ⟨by dsimp only; omega, by dsimp only; omega, by dsimp only; omega⟩
  · split
    · exact ⟨by dsimp only; omega, by dsimp only; omega, by dsimp only; omega⟩
    · exact ⟨by dsimp only; omega, by dsimp only; omega, by dsimp only; omega⟩
theorem cnt_few (ps : List Part) : ∀ i, Few i (cnt ps i)
  | 0 => by unfold cnt Few; exact ⟨by decide, by decide, by decide⟩
  | i + 1 => by
    have h := cnt_few ps i
    rw [cnt]
    split
    · exact nx_few _ h
    · obtain ⟨h1, h2, h3⟩ := h
      exact ⟨by omega, by omega, by omega⟩
theorem join1 (a : Int) : Lib.join ([numB a].map (·.data.toList)) ([46] : List UInt8) = (numAt 1 (a, 0, 0)).data.toList := by
  show Lib.join [(numB a).data.toList] _ = _
  rw [Lib.join_one]
  rfl
theorem ba_data (x y : ByteArray) : (x ++ y).data.toList = x.data.toList ++ y.data.toList := by rw [ByteArray.data_append, Array.toList_append]
theorem join2 (a b c : Int) : Lib.join ([numB a, numB b].map (·.data.toList)) ([46] : List UInt8) = (numAt 2 (a, b, c)).data.toList := by
  show Lib.join [(numB a).data.toList, (numB b).data.toList] _ = ((numB a ++ (⟨#[46]⟩ : ByteArray)) ++ numB b).data.toList
  rw [ba_data, ba_data]
  simp [Lib.join, List.intercalate, List.intersperse]
theorem join3 (a b c : Int) : Lib.join ([numB a, numB b, numB c].map (·.data.toList)) ([46] : List UInt8) = (numAt 3 (a, b, c)).data.toList := by
  show Lib.join [(numB a).data.toList, (numB b).data.toList, (numB c).data.toList] _ = ((((numB a ++ (⟨#[46]⟩ : ByteArray)) ++ numB b) ++ (⟨#[46]⟩ : ByteArray)) ++ numB c).data.toList
  rw [ba_data, ba_data, ba_data, ba_data]
  simp [Lib.join, List.intercalate, List.intersperse]
theorem numAt_size {lv : Int} {s : Int × Int × Int} {i : Nat} (h : Few i s) (hi : i ≤ 1000) : (numAt lv s).size ≤ 65 := by
  obtain ⟨h1, h2, h3⟩ := h
  have g1 := numB_size s.1 (by omega) (by omega)
  have g2 := numB_size s.2.1 (by omega) (by omega)
  have g3 := numB_size s.2.2 (by omega) (by omega)
  have hd : (⟨#[46]⟩ : ByteArray).size = 1 := rfl
  unfold numAt
  split
  · omega
  · split
    · rw [ByteArray.size_append, ByteArray.size_append]; omega
    · rw [ByteArray.size_append, ByteArray.size_append, ByteArray.size_append, ByteArray.size_append]; omega
theorem joinInts_ev (l : List Int) (x : ByteArray) (hl : ∀ n ∈ l, -9223372036854775808 ≤ n ∧ n ≤ 9223372036854775807) (hn : l.length ≤ 3) (hx : x.size ≤ 65) (hj : Lib.join ((l.map numB).map (·.data.toList)) ([46] : List UInt8) = x.data.toList) : Ev (fun k => impl_joinInts.f k l (⟨#[46]⟩ : ByteArray)) x := by
  have hJ : strings_Join.f (l.map numB) (⟨#[46]⟩ : ByteArray) = some x := by
    have hj' : Lib.join ((l.map numB).map (·.data.toList)) (⟨#[46]⟩ : ByteArray).data.toList = x.data.toList := hj
    unfold strings_Join.f
    rw [hj', if_pos ⟨by have : x.data.toList.length = x.size := by rw [Array.length_toList]; rfl
                        omega, by rw [List.length_map]; omega⟩]
  have h := ev_all (L := fun k (s : List ByteArray) i => impl_joinInts.l0 k (⟨#[46]⟩ : ByteArray) s l (l.length : Int) i) l.length (fun i => (l.take i).map numB) (fun _ => true) x x (fun _ => Ev.step (fun k => rfl) (ev_neg (by omega) ?h0)) ?h1 (fun i hi _ hc => nomatch hc)
  case h0 =>
    rw [List.take_length]
    exact ev_bind0 hJ (ev_now rfl)
  case h1 =>
    intro i hi _ _ y hy
    have hm := hl l[i] (List.getElem_mem hi)
    have hr : rd l (i : Int) = l[i] := by rw [rd_nat, getD_in hi]
    refine Ev.step (fun k => rfl) (ev_pos (by omega) (ev_pos (by omega) (ev_pos (by omega) (ev_bind0 (by rw [hr]; exact Itoa_num _ hm.1 hm.2) (ev_pos (by rw [List.length_map, List.length_take]; omega) ?_)))))
    rw [wrap_succ hi (by omega)]
    have hs : (l.take (i + 1)).map numB = (l.take i).map numB ++ [numB l[i]] := by rw [List.take_succ_eq_append_getElem hi, List.map_append]; rfl
    rw [hs] at hy
    exact hy
  unfold impl_joinInts.f
  rw [if_pos (by rw [all_range]; intro i hi; rfl)] at h
  exact h
theorem implHead (x3 : List ByteArray) (a b c lv : Int) (hlv : lv = 1 ∨ lv = 2 ∨ lv = 3) (hf : Few 100 (a, b, c)) (x11 : List Part) (x12 x13 : Int) (R : List ByteArray) (hx3 : x3.length ≤ 100)
    (hk : Ev (fun k => impl_headingNumbers.l0 k (x3 ++ [numAt lv (nx lv (a, b, c))]) [(nx lv (a, b, c)).1, (nx lv (a, b, c)).2.1, (nx lv (a, b, c)).2.2] x11 x12 (wrap64 (x13 + 1))) R) :
    0 ≤ wrap64 (lv - 1) ∧ wrap64 (lv - 1) < (([a, b, c] : List Int).length : Int) ∧ Ev (fun k => impl_headingNumbers.l1 k x3 (([a, b, c] : List Int).set (wrap64 (lv - 1) : Int).toNat (wrap64 (rd [a, b, c] (wrap64 (lv - 1)) + 1))) lv lv x11 x12 x13) R := by
  obtain ⟨h1, h2, h3⟩ := hf
  dsimp only at h1 h2 h3
  have h2' : wrap64 ((1 : Int) + 1) = 2 := by rw [wrap_id (by omega) (by omega)]; rfl
  have h3' : wrap64 ((2 : Int) + 1) = 3 := by rw [wrap_id (by omega) (by omega)]; rfl
  have hF : Few 101 (nx lv (a, b, c)) := nx_few lv ⟨h1, h2, h3⟩
  have hsz := numAt_size (lv := lv) hF (by omega)
  rcases hlv with rfl | rfl | rfl
  · have w0 : wrap64 ((1 : Int) - 1) = 0 := by rw [wrap_id (by omega) (by omega)]; rfl
    refine ⟨by rw [w0]; decide, by rw [w0]; simp, ?_⟩
    rw [w0]
    show Ev (fun k => impl_headingNumbers.l1 k x3 [wrap64 (a + 1), b, c] 1 1 x11 x12 x13) R
    rw [wrap_id (show -9223372036854775808 ≤ a + 1 by omega) (by omega)]
    refine Ev.step (fun k => rfl) (ev_pos (by decide) (ev_pos (by decide) (ev_pos (by simp) ?_)))
    rw [h2']
    show Ev (fun k => impl_headingNumbers.l1 k x3 [a + 1, 0, c] 1 2 x11 x12 x13) R
    refine Ev.step (fun k => rfl) (ev_pos (by decide) (ev_pos (by decide) (ev_pos (by simp) ?_)))
    rw [h3']
    show Ev (fun k => impl_headingNumbers.l1 k x3 [a + 1, 0, 0] 1 3 x11 x12 x13) R
    refine Ev.step (fun k => rfl) (ev_neg (by decide) (ev_pos (by decide) (ev_pos (by simp) ?_)))
    refine Ev.bind (joinInts_ev [a + 1] (numAt 1 (a + 1, 0, 0)) (fun n hn => ?_) (by simp) hsz (join1 (a + 1))) (ev_pos (by omega) hk)
    simp only [List.mem_singleton] at hn
    omega
  · have w0 : wrap64 ((2 : Int) - 1) = 1 := by rw [wrap_id (by omega) (by omega)]; rfl
    refine ⟨by rw [w0]; decide, by rw [w0]; simp, ?_⟩
    rw [w0]
    show Ev (fun k => impl_headingNumbers.l1 k x3 [a, wrap64 (b + 1), c] 2 2 x11 x12 x13) R
    rw [wrap_id (show -9223372036854775808 ≤ b + 1 by omega) (by omega)]
    refine Ev.step (fun k => rfl) (ev_pos (by decide) (ev_pos (by decide) (ev_pos (by simp) ?_)))
    rw [h3']
    show Ev (fun k => impl_headingNumbers.l1 k x3 [a, b + 1, 0] 2 3 x11 x12 x13) R
    refine Ev.step (fun k => rfl) (ev_neg (by decide) (ev_pos (by decide) (ev_pos (by simp) ?_)))
    refine Ev.bind (joinInts_ev [a, b + 1] (numAt 2 (a, b + 1, 0)) (fun n hn => ?_) (by simp) hsz (join2 a (b + 1) 0)) (ev_pos (by omega) hk)
    simp only [List.mem_cons, List.not_mem_nil, or_false] at hn
    omega
  · have w0 : wrap64 ((3 : Int) - 1) = 2 := by rw [wrap_id (by omega) (by omega)]; rfl
    refine ⟨by rw [w0]; decide, by rw [w0]; simp, ?_⟩
    rw [w0]
    show Ev (fun k => impl_headingNumbers.l1 k x3 [a, b, wrap64 (c + 1)] 3 3 x11 x12 x13) R
    rw [wrap_id (show -9223372036854775808 ≤ c + 1 by omega) (by omega)]
    refine Ev.step (fun k => rfl) (ev_neg (by decide) (ev_pos (by decide) (ev_pos (by simp) ?_)))
    refine Ev.bind (joinInts_ev [a, b, c + 1] (numAt 3 (a, b, c + 1)) (fun n hn => ?_) (by simp) hsz (join3 a b (c + 1))) (ev_pos (by omega) hk)
    simp only [List.mem_cons, List.not_mem_nil, or_false] at hn
    omega
theorem specHead (x0 : List Part) (x4 : List ByteArray) (z a b c lv : Int) (hlv : lv = 1 ∨ lv = 2 ∨ lv = 3) (hf : Few 100 (a, b, c)) (x5 : Int) (R : List ByteArray) (hx4 : x4.length ≤ 100)
    (hk : Ev (fun k => spec_l24Numbers.l0 k x0 [z, (nx lv (a, b, c)).1, (nx lv (a, b, c)).2.1, (nx lv (a, b, c)).2.2] (x4 ++ [numAt lv (nx lv (a, b, c))]) (wrap64 (x5 + 1))) R) :
    0 ≤ lv ∧ lv < (([z, a, b, c] : List Int).length : Int) ∧ Ev (fun k => spec_l24Numbers.l1 k x0 (([z, a, b, c] : List Int).set (lv : Int).toNat (wrap64 (rd [z, a, b, c] lv + 1))) x4 x5 lv (wrap64 (lv + 1))) R := by
  obtain ⟨h1, h2, h3⟩ := hf
  dsimp only at h1 h2 h3
  have h2' : wrap64 ((1 : Int) + 1) = 2 := by rw [wrap_id (by omega) (by omega)]; rfl
  have h3' : wrap64 ((2 : Int) + 1) = 3 := by rw [wrap_id (by omega) (by omega)]; rfl
  have h4' : wrap64 ((3 : Int) + 1) = 4 := by rw [wrap_id (by omega) (by omega)]; rfl
  have hd : (⟨#[46]⟩ : ByteArray).size = 1 := rfl
  have n1 : ∀ n : Int, 0 ≤ n → n ≤ 101 → Ev (fun k => spec_l1Num.f k n) (numB n) := fun n g1 g2 => l1Num_ev n (by omega) (by omega)
  have n2 : ∀ n : Int, 0 ≤ n → n ≤ 101 → (numB n).size ≤ 21 := fun n g1 g2 => numB_size n (by omega) (by omega)
  rcases hlv with rfl | rfl | rfl
  · refine ⟨by omega, by simp, ?_⟩
    rw [h2']
    show Ev (fun k => spec_l24Numbers.l1 k x0 [z, wrap64 (a + 1), b, c] x4 x5 1 2) R
    rw [wrap_id (show -9223372036854775808 ≤ a + 1 by omega) (by omega)]
    have s1 := n2 (a + 1) (by omega) (by omega)
    refine Ev.step (fun k => rfl) (ev_pos (by simp) (ev_pos (by decide) ?_))
    rw [h3']
    show Ev (fun k => spec_l24Numbers.l1 k x0 [z, a + 1, 0, c] x4 x5 1 3) R
    refine Ev.step (fun k => rfl) (ev_pos (by simp) (ev_pos (by decide) ?_))
    rw [h4']
    show Ev (fun k => spec_l24Numbers.l1 k x0 [z, a + 1, 0, 0] x4 x5 1 4) R
    refine Ev.step (fun k => rfl) (ev_neg (by simp) (ev_pos (by simp) (Ev.bind (n1 (a + 1) (by omega) (by omega)) ?_)))
    exact Ev.step (fun k => rfl) (ev_neg (by decide) (ev_pos (by omega) hk))
  · refine ⟨by omega, by simp, ?_⟩
    rw [h3']
    show Ev (fun k => spec_l24Numbers.l1 k x0 [z, a, wrap64 (b + 1), c] x4 x5 2 3) R
    rw [wrap_id (show -9223372036854775808 ≤ b + 1 by omega) (by omega)]
    have s1 := n2 a (by omega) (by omega)
    have s2 := n2 (b + 1) (by omega) (by omega)
    refine Ev.step (fun k => rfl) (ev_pos (by simp) (ev_pos (by decide) ?_))
    rw [h4']
    show Ev (fun k => spec_l24Numbers.l1 k x0 [z, a, b + 1, 0] x4 x5 2 4) R
    refine Ev.step (fun k => rfl) (ev_neg (by simp) (ev_pos (by simp) (Ev.bind (n1 a (by omega) (by omega)) ?_)))
    refine Ev.step (fun k => rfl) (ev_pos (by decide) (ev_pos (by omega) (ev_pos (by decide) (ev_pos (by simp) (Ev.bind (n1 (b + 1) (by omega) (by omega)) (ev_pos (by rw [ByteArray.size_append]; omega) ?_))))))
    rw [h3']
    exact Ev.step (fun k => rfl) (ev_neg (by decide) (ev_pos (by omega) hk))
  · refine ⟨by omega, by simp, ?_⟩
    rw [h4']
    show Ev (fun k => spec_l24Numbers.l1 k x0 [z, a, b, wrap64 (c + 1)] x4 x5 3 4) R
    rw [wrap_id (show -9223372036854775808 ≤ c + 1 by omega) (by omega)]
    have s1 := n2 a (by omega) (by omega)
    have s2 := n2 b (by omega) (by omega)
    have s3 := n2 (c + 1) (by omega) (by omega)
    refine Ev.step (fun k => rfl) (ev_neg (by simp) (ev_pos (by simp) (Ev.bind (n1 a (by omega) (by omega)) ?_)))
    refine Ev.step (fun k => rfl) (ev_pos (by decide) (ev_pos (by omega) (ev_pos (by decide) (ev_pos (by simp) (Ev.bind (n1 b (by omega) (by omega)) (ev_pos (by rw [ByteArray.size_append]; omega) ?_))))))
    rw [h3']
    have s4 : ((numB a ++ (⟨#[46]⟩ : ByteArray)) ++ numB b).size ≤ 43 := by rw [ByteArray.size_append, ByteArray.size_append]; omega
    refine Ev.step (fun k => rfl) (ev_pos (by decide) (ev_pos (Nat.le_trans (Nat.add_le_add_right s4 1) (by decide)) (ev_pos (by decide) (ev_pos (by simp) (Ev.bind (n1 (c + 1) (by omega) (by omega)) (ev_pos ?_ ?_))))))
    · have : (((numB a ++ (⟨#[46]⟩ : ByteArray)) ++ numB b) ++ (⟨#[46]⟩ : ByteArray)).size ≤ 44 := by rw [ByteArray.size_append]; omega
      exact Nat.le_trans (Nat.add_le_add this s3) (by decide)
    rw [h4']
    exact Ev.step (fun k => rfl) (ev_neg (by decide) (ev_pos (by omega) hk))
def HdOk (ps : List Part) : Prop := ps.length ≤ 16 ∧ ∀ i, i < ps.length → (rd_T54 ps i).f0 = 1 → (rd_T54 ps i).f2.length = 1 ∧ (lvl ps i = 1 ∨ lvl ps i = 2 ∨ lvl ps i = 3)
theorem hdOk_of {cs : List S68} {rs : List S72} {ps : List Part} (h : repOk cs rs ps = true) : HdOk ps := by
  unfold repOk partsB at h
  rw [Bool.and_eq_true, Bool.and_eq_true, decide_eq_true_eq, all_range] at h
  refine ⟨by omega, fun i hi c => ?_⟩
  have h1 := h.1 i hi
  have h2 := part_one h1 c
  unfold partB at h1
  rw [if_pos c] at h1
  by_cases d : (rd_T54 ps i).f1.toList = ([] : List UInt8)
  · rw [if_pos d] at h1; exact absurd h1 (by simp)
  rw [if_neg d, Bool.and_eq_true, Bool.and_eq_true, decide_eq_true_eq] at h1
  have h3 := of_decide_eq_true h1.2
  have h4 : mn 3 (wrap64 (lvAt ps i + 1)) ≤ 3 := by unfold mn; split <;> omega
  refine ⟨by omega, ?_⟩
  unfold lvl
  omega
theorem implHeads_ev (ps : List Part) (H : HdOk ps) : Ev (fun k => impl_headingNumbers.f k ps) (heads ps ps.length) := by
  obtain ⟨hn, hp⟩ := H
  have h := ev_all (L := fun k (s : List ByteArray × Int × Int × Int) i => impl_headingNumbers.l0 k s.1 [s.2.1, s.2.2.1, s.2.2.2] ps (ps.length : Int) i) ps.length (fun i => (heads ps i, cnt ps i)) (fun _ => true) [] (heads ps ps.length) (fun _ => Ev.step (fun k => rfl) (ev_neg (by omega) (ev_now rfl))) ?h1 (fun i hi _ hc => nomatch hc)
  case h1 =>
    intro i hi _ _ y hy
    have hc := cnt_few ps i
    have hl := heads_length ps i
    rw [heads, cnt] at hy
    refine Ev.step (fun k => rfl) (ev_pos (by omega) (ev_pos (by omega) (ev_pos (by omega) ?_)))
    by_cases c : (rd_T54 ps i).f0 = 1
    · rw [if_pos c, if_pos c] at hy
      obtain ⟨g1, g2⟩ := hp i hi c
      obtain ⟨q1, q2, q3⟩ := implHead (heads ps i) (cnt ps i).1 (cnt ps i).2.1 (cnt ps i).2.2 (lvl ps i) g2 (by obtain ⟨x, y, z⟩ := hc; exact ⟨by dsimp only; omega, by dsimp only; omega, by dsimp only; omega⟩) ps (ps.length : Int) (i : Int) y (by omega) (by rw [wrap_succ hi (by omega)]; exact hy)
      exact ev_pos c (ev_pos (by omega) (ev_pos q1 (ev_pos q2 q3)))
    · rw [if_neg c, if_neg c] at hy
      refine ev_neg c ?_
      rw [wrap_succ hi (by omega)]
      exact hy
  unfold impl_headingNumbers.f
  rw [if_pos (by rw [all_range]; intro i hi; rfl)] at h
  exact h
theorem specNums_ev (ps : List Part) (H : HdOk ps) : Ev (fun k => spec_l24Numbers.f k ps) (alls ps ps.length) := by
  obtain ⟨hn, hp⟩ := H
  have h := ev_all (L := fun k (s : List ByteArray × Int × Int × Int) i => spec_l24Numbers.l0 k ps [0, s.2.1, s.2.2.1, s.2.2.2] s.1 i) ps.length (fun i => (alls ps i, cnt ps i)) (fun _ => true) [] (alls ps ps.length) (fun _ => Ev.step (fun k => rfl) (ev_neg (by omega) (ev_now rfl))) ?h1 (fun i hi _ hc => nomatch hc)
  case h1 =>
    intro i hi _ _ y hy
    have hc := cnt_few ps i
    have hl := alls_length ps i
    rw [alls, cnt] at hy
    refine Ev.step (fun k => rfl) (ev_pos (by omega) (ev_pos (by omega) ?_))
    by_cases c : (rd_T54 ps i).f0 = 1
    · rw [if_pos c, if_pos c] at hy
      obtain ⟨g1, g2⟩ := hp i hi c
      obtain ⟨q1, q2, q3⟩ := specHead ps (alls ps i) 0 (cnt ps i).1 (cnt ps i).2.1 (cnt ps i).2.2 (lvl ps i) g2 (by obtain ⟨x, y, z⟩ := hc; exact ⟨by dsimp only; omega, by dsimp only; omega, by dsimp only; omega⟩) (i : Int) y (by omega) (by rw [wrap_succ hi (by omega)]; exact hy)
      exact ev_pos c (ev_pos (by omega) (ev_pos q1 (ev_pos q2 q3)))
    · rw [if_neg c, if_neg c] at hy
      refine ev_neg c (ev_pos (by show (alls ps i).length < _; omega) ?_)
      rw [wrap_succ hi (by omega)]
      exact hy
  unfold spec_l24Numbers.f
  rw [if_pos (by rw [all_range]; intro i hi; rfl)] at h
  exact h
end Go.Proofs.YtdjaaphhdmchjaaDoor.X
set_option linter.unusedVariables false
set_option linter.unusedSimpArgs false
namespace Go.Proofs.YtdjaaphhdmchjaaDoor.X
open Go.RowKit Go.Proofs.YtdjaaphhdmchjaaDoorW.PrintWords Go.Proofs.YtdjaaphhdmchjaaDoor.E
def mkC (q : Int) (_ : S68) : S68 := ⟨q, q + 1⟩
def mkR (q : Int) (_ : S72) : S72 := ⟨q, q + 1⟩
theorem sum2 {α : Type} (L : List α) : (L.map (fun _ => 2)).sum = 2 * L.length := by
  induction L with
  | nil => rfl
  | cons e L ih => rw [List.map_cons, List.sum_cons, ih, List.length_cons]; omega
theorem markC (L : List S68) (q : Int) (h0 : 0 ≤ q) (hq : q ≤ 4294967296) (hL : L.length ≤ 1048576) : Ev (fun k => laws_markContextS.f k L q) (q + (2 * L.length : Nat), markAll mkC (fun _ => 2) q L) := by
  have h := ev_mark (L := fun k l q i => laws_markContextS.l0 k l q i) L mkC (fun _ => 2) (fun out q ho => Ev.step (fun k => rfl) (ev_neg (by omega) (ev_now rfl))) ?hs q h0 (by rw [sum2]; omega)
  case hs =>
    intro out q i x y hi ho hx hxm hg h0 hb h
    have hw1 : wrap64 (q + 1) = q + 1 := wrap_id (by omega) (by omega)
    have hw2 : wrap64 (q + 1 + 1) = q + (2 : Nat) := by rw [wrap_id (by omega) (by omega)]; omega
    refine Ev.step (fun k => rfl) (ev_pos (by omega) (ev_pos (by omega) (ev_some ?_)))
    rw [hw1, hw2, wrap_succ hi (by omega), Int.toNat_natCast, List.set_set, show (rd_T68 (out.set i (⟨q, (rd_T68 out i).f1⟩ : S68)) (i : Int)).f0 = q by unfold rd_T68; rw [Int.toNat_natCast, List.getD_eq_getElem?_getD, List.getElem?_set_self (by omega)]; rfl]
    exact h
  rw [sum2] at h
  exact h
theorem markR (L : List S72) (q : Int) (h0 : 0 ≤ q) (hq : q ≤ 4294967296) (hL : L.length ≤ 1048576) : Ev (fun k => laws_markRelationS.f k L q) (q + (2 * L.length : Nat), markAll mkR (fun _ => 2) q L) := by
  have h := ev_mark (L := fun k l q i => laws_markRelationS.l0 k l q i) L mkR (fun _ => 2) (fun out q ho => Ev.step (fun k => rfl) (ev_neg (by omega) (ev_now rfl))) ?hs q h0 (by rw [sum2]; omega)
  case hs =>
    intro out q i x y hi ho hx hxm hg h0 hb h
    have hw1 : wrap64 (q + 1) = q + 1 := wrap_id (by omega) (by omega)
    have hw2 : wrap64 (q + 1 + 1) = q + (2 : Nat) := by rw [wrap_id (by omega) (by omega)]; omega
    refine Ev.step (fun k => rfl) (ev_pos (by omega) (ev_pos (by omega) (ev_some ?_)))
    rw [hw1, hw2, wrap_succ hi (by omega), Int.toNat_natCast, List.set_set, show (rd_T72 (out.set i (⟨q, (rd_T72 out i).f1⟩ : S72)) (i : Int)).f0 = q by unfold rd_T72; rw [Int.toNat_natCast, List.getD_eq_getElem?_getD, List.getElem?_set_self (by omega)]; rfl]
    exact h
  rw [sum2] at h
  exact h
theorem markRec (M1 : List S68) (M2 : List S72) (h1 : M1.length ≤ 1048576) (h2 : M2.length ≤ 1048576) : Ev (fun k => laws_markRecord.f k M1 M2 1) (1 + (2 * M1.length : Nat) + (2 * M2.length : Nat), markAll mkC (fun _ => 2) 1 M1, markAll mkR (fun _ => 2) (1 + (2 * M1.length : Nat)) M2) := by
  unfold laws_markRecord.f
  exact Ev.bind (markC M1 1 (by omega) (by omega) h1) (Ev.bind (markR M2 _ (by omega) (by omega) h2) (ev_now rfl))
end Go.Proofs.YtdjaaphhdmchjaaDoor.X
set_option linter.unusedVariables false
set_option linter.unusedSimpArgs false
namespace Go.Proofs.YtdjaaphhdmchjaaDoor.X
open Go.RowKit Go.Proofs.YtdjaaphhdmchjaaDoorW.PrintWords Go.Proofs.YtdjaaphhdmchjaaDoor.E
theorem markLoop : ∀ (n : Nat) (x : Int) (s : ByteArray), x.toNat = n → 0 ≤ x → s.size + n ≤ 4611686018427387905 → ∃ r, Ev (fun k => laws_markText.l0 k x s) r := by
  intro n
  induction n using Nat.strongRecOn with
  | _ n ih =>
    intro x s hn h0 hb
    by_cases c : x > 0
    · have hs : (strOfNums [(wrap64 (48 + (Int.tmod x 10))) % 256]).size = 1 := by rw [strOfNums_size]; rfl
      have hd : wrap64 (Int.tdiv x 10) = x / 10 := by rw [Int.tdiv_eq_ediv_of_nonneg h0, wrap_id (by omega) (by omega)]
      obtain ⟨r, h⟩ := ih (x / 10).toNat (by omega) (x / 10) (strOfNums [(wrap64 (48 + (Int.tmod x 10))) % 256] ++ s) rfl (by omega) (by rw [ByteArray.size_append, hs]; omega)
      refine ⟨r, Ev.step (fun k => rfl) (ev_pos c (ev_some (ev_pos (by rw [hs]; omega) ?_)))⟩
      rw [hd]
      exact h
    · exact ⟨_, Ev.step (fun k => rfl) (ev_neg c (ev_pos (by omega) (ev_now rfl)))⟩
theorem mark_ex (q : Int) (h : q ≤ 4611686018427387905) : ∃ r, Ev (fun k => laws_markText.f k q) r := by
  unfold laws_markText.f
  by_cases c : q ≤ 0
  · exact ⟨_, ev_pos c (ev_now rfl)⟩
  · obtain ⟨r, h⟩ := markLoop q.toNat q (⟨#[]⟩ : ByteArray) rfl (by omega) (by rw [show (⟨#[]⟩ : ByteArray).size = 0 from rfl]; omega)
    exact ⟨r, ev_neg c h⟩
open Classical in
noncomputable def mt (q : Int) : ByteArray := if h : ∃ r, Ev (fun k => laws_markText.f k q) r then Classical.choose h else (⟨#[]⟩ : ByteArray)
theorem mt_ev (q : Int) (h : q ≤ 4611686018427387905) : Ev (fun k => laws_markText.f k q) (mt q) := by
  unfold mt
  rw [dif_pos (mark_ex q h)]
  exact Classical.choose_spec (mark_ex q h)
end Go.Proofs.YtdjaaphhdmchjaaDoor.X
set_option linter.unusedVariables false
set_option linter.unusedSimpArgs false
namespace Go.Proofs.YtdjaaphhdmchjaaDoor.X
open Go.RowKit Go.Proofs.YtdjaaphhdmchjaaDoorW.PrintWords Go.Proofs.YtdjaaphhdmchjaaDoor.E
def mkI (q : Int) (_ : Int) : Int := q
theorem sum1i {α : Type} (L : List α) : (L.map (fun _ => 1)).sum = L.length := by
  induction L with
  | nil => rfl
  | cons e L ih => rw [List.map_cons, List.sum_cons, ih, List.length_cons]; omega
theorem markInt (L : List Int) (q : Int) (h0 : 0 ≤ q) (hq : q + L.length ≤ 4611686018427387904) : Ev (fun k => laws_markIntS.f k L q) (q + (L.length : Nat), markAll mkI (fun _ => 1) q L) := by
  have h := ev_mark (L := fun k l q i => laws_markIntS.l0 k l q i) L mkI (fun _ => 1) (fun out q ho => Ev.step (fun k => rfl) (ev_neg (by omega) (ev_now rfl))) ?hs q h0 (by rw [sum1i]; omega)
  case hs =>
    intro out q i x y hi ho hx hxm hg h0 hb h
    have hw1 : wrap64 (q + 1) = q + (1 : Nat) := by rw [wrap_id (by omega) (by omega)]; omega
    refine Ev.step (fun k => rfl) (ev_pos (by omega) (ev_pos (by omega) ?_))
    rw [hw1, wrap_succ hi (by omega), Int.toNat_natCast]
    exact h
  rw [sum1i] at h
  exact h
end Go.Proofs.YtdjaaphhdmchjaaDoor.X
set_option linter.unusedVariables false
set_option linter.unusedSimpArgs false
namespace Go.Proofs.YtdjaaphhdmchjaaDoor.X
open Go.RowKit Go.Proofs.YtdjaaphhdmchjaaDoorW.PrintWords Go.Proofs.YtdjaaphhdmchjaaDoor.E
noncomputable def mkP (q : Int) (x : S54) : S54 := ⟨q, mt (q + 1), markAll mkI (fun _ => 1) (q + 2) x.f2⟩
def wP (x : S54) : Nat := 2 + x.f2.length
theorem wP_len (L : List S54) : L.length ≤ (L.map wP).sum := by
  induction L with
  | nil => exact Nat.le_refl _
  | cons e L ih => rw [List.map_cons, List.sum_cons, List.length_cons]; unfold wP at *; omega
theorem markPart (L : List S54) (q : Int) (h0 : 0 ≤ q) (hq : q + (((L.map wP).sum : Nat) : Int) ≤ 4611686018427387904) : Ev (fun k => laws_markPartS.f k L q) (q + (((L.map wP).sum : Nat) : Int), markAll mkP wP q L) := by
  refine ev_mark (L := fun k l q i => laws_markPartS.l0 k l q i) L mkP wP (fun out q ho => Ev.step (fun k => rfl) (ev_neg (by omega) (ev_now rfl))) ?hs q h0 (by omega)
  case hs =>
    intro out q i x y hi ho hx hxm hg h0 hb h
    have hc : (wP x : Int) = 2 + (x.f2.length : Int) := by unfold wP; omega
    have hle : wP x ≤ (L.map wP).sum := le_sum hxm
    have hll := wP_len L
    have e1 : wrap64 (q + 1) = q + 1 := wrap_id (by omega) (by omega)
    have e2 : wrap64 (q + 1 + 1) = q + 2 := by rw [wrap_id (by omega) (by omega)]; omega
    have hrd : rd_T54 out (i : Int) = x := by unfold rd_T54; rw [Int.toNat_natCast]; exact hg _
    refine Ev.step (fun k => rfl) (ev_pos (by omega) (ev_pos (by omega) ?_))
    simp only [e1, e2, hrd]
    refine Ev.bind (mt_ev (q + 1) (by omega)) (Ev.bind (markInt x.f2 (q + 2) (by omega) (by omega)) ?_)
    have e3 : q + 2 + ((x.f2.length : Nat) : Int) = q + (wP x : Int) := by omega
    simp only [e3]
    rw [wrap_succ hi (by omega), Int.toNat_natCast]
    exact h
end Go.Proofs.YtdjaaphhdmchjaaDoor.X
set_option linter.unusedVariables false
set_option linter.unusedSimpArgs false
namespace Go.Proofs.YtdjaaphhdmchjaaDoor.X
open Go.RowKit Go.Proofs.YtdjaaphhdmchjaaDoorW.PrintWords Go.Proofs.YtdjaaphhdmchjaaDoor.E
noncomputable def mkS (q : Int) (_ : ByteArray) : ByteArray := mt q
theorem sum1 {α : Type} (L : List α) : (L.map (fun _ => 1)).sum = L.length := by
  induction L with
  | nil => rfl
  | cons e L ih => rw [List.map_cons, List.sum_cons, ih, List.length_cons]; omega
theorem markStr (L : List ByteArray) (q : Int) (h0 : 0 ≤ q) (hq : q + L.length ≤ 4611686018427387904) : Ev (fun k => laws_markStringS.f k L q) (q + (L.length : Nat), markAll mkS (fun _ => 1) q L) := by
  have h := ev_mark (L := fun k l q i => laws_markStringS.l0 k l q i) L mkS (fun _ => 1) (fun out q ho => Ev.step (fun k => rfl) (ev_neg (by omega) (ev_now rfl))) ?hs q h0 (by rw [sum1]; omega)
  case hs =>
    intro out q i x y hi ho hx hxm hg h0 hb h
    have hw1 : wrap64 (q + 1) = q + (1 : Nat) := by rw [wrap_id (by omega) (by omega)]; omega
    refine Ev.step (fun k => rfl) (ev_pos (by omega) (Ev.bind (mt_ev q (by omega)) (ev_pos (by omega) ?_)))
    rw [hw1, wrap_succ hi (by omega), Int.toNat_natCast]
    exact h
  rw [sum1] at h
  exact h
end Go.Proofs.YtdjaaphhdmchjaaDoor.X
set_option linter.unusedVariables false
set_option linter.unusedSimpArgs false
namespace Go.Proofs.YtdjaaphhdmchjaaDoor.X
open Go.RowKit Go.Proofs.YtdjaaphhdmchjaaDoorW.PrintWords Go.Proofs.YtdjaaphhdmchjaaDoor.E
theorem heldStr (L : List ByteArray) (q0 : Int) (h0 : 0 ≤ q0) (hq : q0 + L.length ≤ 4611686018427387904) : Ev (fun k => laws_heldStringS.f k (markAll mkS (fun _ => 1) q0 L) q0) (q0 + (L.length : Nat)) := by
  have hlen := markAll_length mkS (fun _ => 1) L q0
  have h := ev_held (H := fun k q i => laws_heldStringS.l0 k (markAll mkS (fun _ => 1) q0 L) q i) L (markAll mkS (fun _ => 1) q0 L) mkS (fun _ => 1) q0 rfl (fun q => Ev.step (fun k => rfl) (ev_neg (by omega) (ev_now rfl))) ?hs h0 (by rw [sum1]; omega)
  case hs =>
    intro q i x y hi hxm hx hg h0 hb h
    have hw1 : wrap64 (q + 1) = q + (1 : Nat) := by rw [wrap_id (by omega) (by omega)]; omega
    have hr : rdOf ByteArray.empty (markAll mkS (fun _ => 1) q0 L) (i : Int) = mkS q x := by unfold rdOf; rw [Int.toNat_natCast]; exact hg _
    refine Ev.step (fun k => rfl) (ev_pos (by omega) (ev_pos (by omega) (Ev.bind (mt_ev q (by omega)) ?_)))
    rw [hr, hw1, wrap_succ hi (by omega)]
    exact ev_pos rfl h
  rw [sum1] at h
  exact h
end Go.Proofs.YtdjaaphhdmchjaaDoor.X
set_option linter.unusedVariables false
namespace Go.Proofs.YtdjaaphhdmchjaaDoor.X
open Go.RowKit Go.Proofs.YtdjaaphhdmchjaaDoorW.PrintWords Go.Proofs.YtdjaaphhdmchjaaDoor.E
def wt25 (x : S25) : Nat := x.f0.length + x.f1.length
def wt51 (x : S51) : Nat := x.f1.size + x.f2.length
end Go.Proofs.YtdjaaphhdmchjaaDoor.X
set_option linter.unusedVariables false
namespace Go.Proofs.YtdjaaphhdmchjaaDoor.X
open Go.RowKit Go.Proofs.YtdjaaphhdmchjaaDoorW.PrintWords Go.Proofs.YtdjaaphhdmchjaaDoor.E
theorem laws_szContextS_ev (x : List (S70)) (g0 : x.length ≤ 9223372036854775807) (left : Int) (h0 : 0 ≤ left) (h1 : left ≤ 4611686018427387904) :
    Ev (fun k => laws_szContextS.f x left) (if ((x.length : Nat) : Int) ≤ left then left - ((x.length : Nat) : Int) else -1) := by
  unfold laws_szContextS.f
  have e0 : wrap64 (left - ((x.length : Nat) : Int)) = left - ((x.length : Nat) : Int) := wrap_id (by omega) (by omega)
  simp only [e0]
  by_cases c : ((x.length : Nat) : Int) ≤ left
  case neg => exact ev_pos (by omega) (ev_now (by first | rfl | rw [if_neg (by omega)]))
  refine ev_neg (by omega) ?_
  exact ev_now (by first | rfl | rw [if_pos (by omega)])
end Go.Proofs.YtdjaaphhdmchjaaDoor.X
set_option linter.unusedVariables false
namespace Go.Proofs.YtdjaaphhdmchjaaDoor.X
open Go.RowKit Go.Proofs.YtdjaaphhdmchjaaDoorW.PrintWords Go.Proofs.YtdjaaphhdmchjaaDoor.E
theorem laws_szRelationS_ev (x : List (S74)) (g0 : x.length ≤ 9223372036854775807) (left : Int) (h0 : 0 ≤ left) (h1 : left ≤ 4611686018427387904) :
    Ev (fun k => laws_szRelationS.f x left) (if ((x.length : Nat) : Int) ≤ left then left - ((x.length : Nat) : Int) else -1) := by
  unfold laws_szRelationS.f
  have e0 : wrap64 (left - ((x.length : Nat) : Int)) = left - ((x.length : Nat) : Int) := wrap_id (by omega) (by omega)
  simp only [e0]
  by_cases c : ((x.length : Nat) : Int) ≤ left
  case neg => exact ev_pos (by omega) (ev_now (by first | rfl | rw [if_neg (by omega)]))
  refine ev_neg (by omega) ?_
  exact ev_now (by first | rfl | rw [if_pos (by omega)])
end Go.Proofs.YtdjaaphhdmchjaaDoor.X
set_option linter.unusedVariables false
namespace Go.Proofs.YtdjaaphhdmchjaaDoor.X
open Go.RowKit Go.Proofs.YtdjaaphhdmchjaaDoorW.PrintWords Go.Proofs.YtdjaaphhdmchjaaDoor.E
theorem laws_szRecord_ev (x : S25) (g0 : x.f0.length ≤ 9223372036854775807) (g1 : x.f1.length ≤ 9223372036854775807) (left : Int) (h0 : 0 ≤ left) (h1 : left ≤ 4611686018427387904) :
    Ev (fun k => laws_szRecord.f (x.f0) (x.f1) left) (if (((wt25 x) : Nat) : Int) ≤ left then left - (((wt25 x) : Nat) : Int) else -1) := by
  unfold laws_szRecord.f
  unfold wt25
  refine Ev.bind (laws_szContextS_ev _ (by assumption) _ (by omega) (by omega)) ?_
  by_cases c0 : ((x.f0.length : Nat) : Int) ≤ left
  case neg =>
    rw [if_neg c0]
    exact ev_pos (by omega) (ev_now (by first | rfl | rw [if_neg (by omega)]))
  rw [if_pos c0]
  refine ev_neg (by omega) ?_
  refine Ev.bind (laws_szRelationS_ev _ (by assumption) _ (by omega) (by omega)) ?_
  by_cases c1 : ((x.f1.length : Nat) : Int) ≤ (left - ((x.f0.length : Nat) : Int))
  case neg =>
    rw [if_neg c1]
    exact ev_pos (by omega) (ev_now (by first | rfl | rw [if_neg (by omega)]))
  rw [if_pos c1]
  refine ev_neg (by omega) ?_
  exact ev_now (by first | rfl | omega | (rw [if_pos (by omega)]; omega))
end Go.Proofs.YtdjaaphhdmchjaaDoor.X
set_option linter.unusedVariables false
namespace Go.Proofs.YtdjaaphhdmchjaaDoor.X
open Go.RowKit Go.Proofs.YtdjaaphhdmchjaaDoorW.PrintWords Go.Proofs.YtdjaaphhdmchjaaDoor.E
theorem laws_szIntS_ev (x : List (Int)) (g0 : x.length ≤ 9223372036854775807) (left : Int) (h0 : 0 ≤ left) (h1 : left ≤ 4611686018427387904) :
    Ev (fun k => laws_szIntS.f x left) (if ((x.length : Nat) : Int) ≤ left then left - ((x.length : Nat) : Int) else -1) := by
  unfold laws_szIntS.f
  have e0 : wrap64 (left - ((x.length : Nat) : Int)) = left - ((x.length : Nat) : Int) := wrap_id (by omega) (by omega)
  simp only [e0]
  by_cases c : ((x.length : Nat) : Int) ≤ left
  case neg => exact ev_pos (by omega) (ev_now (by first | rfl | rw [if_neg (by omega)]))
  refine ev_neg (by omega) ?_
  exact ev_now (by first | rfl | rw [if_pos (by omega)])
end Go.Proofs.YtdjaaphhdmchjaaDoor.X
set_option linter.unusedVariables false
namespace Go.Proofs.YtdjaaphhdmchjaaDoor.X
open Go.RowKit Go.Proofs.YtdjaaphhdmchjaaDoorW.PrintWords Go.Proofs.YtdjaaphhdmchjaaDoor.E
theorem laws_szPart_ev (x : S51) (g0 : x.f1.size ≤ 9223372036854775807) (g1 : x.f2.length ≤ 9223372036854775807) (left : Int) (h0 : 0 ≤ left) (h1 : left ≤ 4611686018427387904) :
    Ev (fun k => laws_szPart.f (x.f0) (x.f1) (x.f2) left) (if (((wt51 x) : Nat) : Int) ≤ left then left - (((wt51 x) : Nat) : Int) else -1) := by
  unfold laws_szPart.f
  unfold wt51
  have e1 : wrap64 (left - ((x.f1.size : Nat) : Int)) = left - ((x.f1.size : Nat) : Int) := wrap_id (by omega) (by omega)
  simp only [e1]
  by_cases c1 : ((x.f1.size : Nat) : Int) ≤ left
  case neg =>
    exact ev_pos (by omega) (ev_now (by first | rfl | rw [if_neg (by omega)]))
  refine ev_neg (by omega) ?_
  refine Ev.bind (laws_szIntS_ev _ (by assumption) _ (by omega) (by omega)) ?_
  by_cases c2 : ((x.f2.length : Nat) : Int) ≤ (left - ((x.f1.size : Nat) : Int))
  case neg =>
    rw [if_neg c2]
    exact ev_pos (by omega) (ev_now (by first | rfl | rw [if_neg (by omega)]))
  rw [if_pos c2]
  refine ev_neg (by omega) ?_
  exact ev_now (by first | rfl | omega | (rw [if_pos (by omega)]; omega))
end Go.Proofs.YtdjaaphhdmchjaaDoor.X
set_option linter.unusedVariables false
namespace Go.Proofs.YtdjaaphhdmchjaaDoor.X
open Go.RowKit Go.Proofs.YtdjaaphhdmchjaaDoorW.PrintWords Go.Proofs.YtdjaaphhdmchjaaDoor.E
theorem laws_szPartS_ev (x : List (S51)) (g0 : x.length ≤ 9223372036854775807) (g1 : ∀ y ∈ x, (y.f1.size ≤ 9223372036854775807) ∧ (y.f2.length ≤ 9223372036854775807)) (left : Int) (h0 : 0 ≤ left) (h1 : left ≤ 4611686018427387904) :
    Ev (fun k => laws_szPartS.f k x left) (if (((x.length + (x.map (fun y => (wt51 y))).sum) : Nat) : Int) ≤ left then left - (((x.length + (x.map (fun y => (wt51 y))).sum) : Nat) : Int) else -1) := by
  unfold laws_szPartS.f
  have e0 : wrap64 (left - ((x.length : Nat) : Int)) = left - ((x.length : Nat) : Int) := wrap_id (by omega) (by omega)
  simp only [e0]
  by_cases c : ((x.length : Nat) : Int) ≤ left
  case neg => exact ev_pos (by omega) (ev_now (by first | rfl | rw [if_neg (by omega)]))
  refine ev_neg (by omega) ?_
  have h := ev_sz (L := fun k l i => laws_szPartS.l0 k x l i) x (fun y => (wt51 y)) (fun l => Ev.step (fun k => rfl) (ev_neg (by omega) (ev_now rfl))) ?step (left - ((x.length : Nat) : Int)) (by omega) (by omega)
  case step =>
    intro l i y r l0 l1 hi hm hd hy hn
    refine Ev.step (fun k => rfl) (ev_pos (by omega) (ev_pos (by omega) ?_))
    simp only [rd_T51, Int.toNat_natCast, hd]
    have hg := g1 y hm
    obtain ⟨q0, q1⟩ := hg
    refine Ev.bind (laws_szPart_ev y (by assumption) (by assumption) l l0 l1) ?_
    by_cases c1 : (((wt51 y) : Nat) : Int) ≤ l
    case neg => rw [if_neg c1]; exact ev_pos (by omega) (ev_now (hn c1).symm)
    rw [if_pos c1]
    refine ev_neg (by omega) ?_
    rw [wrap_succ hi (by omega)]
    exact hy c1
  refine ev_cast h ?_
  by_cases c2 : (((x.map (fun y => (wt51 y))).sum : Nat) : Int) ≤ left - ((x.length : Nat) : Int)
  · rw [if_pos c2, if_pos (by omega)]; omega
  · rw [if_neg c2, if_neg (by omega)]
end Go.Proofs.YtdjaaphhdmchjaaDoor.X
set_option linter.unusedVariables false
namespace Go.Proofs.YtdjaaphhdmchjaaDoor.X
open Go.RowKit Go.Proofs.YtdjaaphhdmchjaaDoorW.PrintWords Go.Proofs.YtdjaaphhdmchjaaDoor.E
def conv70 (x : S70) : S68 := ⟨x.f0, x.f1⟩
theorem laws_toContext_ev (x : S70) : Ev (fun k => laws_toContext.f (x.f0) (x.f1)) ((conv70 x).f0, (conv70 x).f1) := by
  unfold laws_toContext.f
  exact ev_now rfl
end Go.Proofs.YtdjaaphhdmchjaaDoor.X
set_option linter.unusedVariables false
namespace Go.Proofs.YtdjaaphhdmchjaaDoor.X
open Go.RowKit Go.Proofs.YtdjaaphhdmchjaaDoorW.PrintWords Go.Proofs.YtdjaaphhdmchjaaDoor.E
theorem laws_toContextS_ev (x : List (S70)) (hb : x.length ≤ 1048576) : Ev (fun k => laws_toContextS.f k x) (x.map conv70) := by
  unfold laws_toContextS.f
  refine ev_pos (by omega) (ev_pos (by simp only [Int.toNat_natCast]; omega) ?_)
  simp only [Int.toNat_natCast]
  refine ev_fill (L := fun k o i => laws_toContextS.l0 k x o i) x conv70 _ (fun o => Ev.step (fun k => rfl) (ev_neg (by omega) (ev_now rfl))) ?_
  intro o i y r hi hx hd hl hk
  refine Ev.step (fun k => rfl) (ev_pos (by omega) (ev_pos (by omega) ?_))
  simp only [rd_T70, Int.toNat_natCast, hd]
  refine Ev.bind (laws_toContext_ev y) ?_
  refine ev_pos (by omega) ?_
  rw [wrap_succ hi (by omega)]
  exact hk
end Go.Proofs.YtdjaaphhdmchjaaDoor.X
set_option linter.unusedVariables false
namespace Go.Proofs.YtdjaaphhdmchjaaDoor.X
open Go.RowKit Go.Proofs.YtdjaaphhdmchjaaDoorW.PrintWords Go.Proofs.YtdjaaphhdmchjaaDoor.E
def conv74 (x : S74) : S72 := ⟨x.f0, x.f1⟩
theorem laws_toRelation_ev (x : S74) : Ev (fun k => laws_toRelation.f (x.f0) (x.f1)) ((conv74 x).f0, (conv74 x).f1) := by
  unfold laws_toRelation.f
  exact ev_now rfl
end Go.Proofs.YtdjaaphhdmchjaaDoor.X
set_option linter.unusedVariables false
namespace Go.Proofs.YtdjaaphhdmchjaaDoor.X
open Go.RowKit Go.Proofs.YtdjaaphhdmchjaaDoorW.PrintWords Go.Proofs.YtdjaaphhdmchjaaDoor.E
theorem laws_toRelationS_ev (x : List (S74)) (hb : x.length ≤ 1048576) : Ev (fun k => laws_toRelationS.f k x) (x.map conv74) := by
  unfold laws_toRelationS.f
  refine ev_pos (by omega) (ev_pos (by simp only [Int.toNat_natCast]; omega) ?_)
  simp only [Int.toNat_natCast]
  refine ev_fill (L := fun k o i => laws_toRelationS.l0 k x o i) x conv74 _ (fun o => Ev.step (fun k => rfl) (ev_neg (by omega) (ev_now rfl))) ?_
  intro o i y r hi hx hd hl hk
  refine Ev.step (fun k => rfl) (ev_pos (by omega) (ev_pos (by omega) ?_))
  simp only [rd_T74, Int.toNat_natCast, hd]
  refine Ev.bind (laws_toRelation_ev y) ?_
  refine ev_pos (by omega) ?_
  rw [wrap_succ hi (by omega)]
  exact hk
end Go.Proofs.YtdjaaphhdmchjaaDoor.X
set_option linter.unusedVariables false
namespace Go.Proofs.YtdjaaphhdmchjaaDoor.X
open Go.RowKit Go.Proofs.YtdjaaphhdmchjaaDoorW.PrintWords Go.Proofs.YtdjaaphhdmchjaaDoor.E
def conv25 (x : S25) : S35 := ⟨(x.f0.map conv70), (x.f1.map conv74)⟩
theorem laws_toRecord_ev (x : S25) (hb : (wt25 x) ≤ 1048576) : Ev (fun k => laws_toRecord.f k (x.f0) (x.f1)) ((conv25 x).f0, (conv25 x).f1) := by
  unfold laws_toRecord.f
  unfold wt25 at hb
  refine Ev.bind (laws_toContextS_ev x.f0 (by omega)) ?_
  refine Ev.bind (laws_toRelationS_ev x.f1 (by omega)) ?_
  exact ev_now rfl
end Go.Proofs.YtdjaaphhdmchjaaDoor.X
set_option linter.unusedVariables false
namespace Go.Proofs.YtdjaaphhdmchjaaDoor.X
open Go.RowKit Go.Proofs.YtdjaaphhdmchjaaDoorW.PrintWords Go.Proofs.YtdjaaphhdmchjaaDoor.E
theorem laws_toIntS_ev (x : List (Int)) (hb : x.length ≤ 1048576) : Ev (fun k => laws_toIntS.f k x) (x) := by
  unfold laws_toIntS.f
  refine ev_pos (by omega) (ev_pos (by simp only [Int.toNat_natCast]; omega) ?_)
  simp only [Int.toNat_natCast]
  refine ev_cast (r := x.map id) ?_ (List.map_id x)
  refine ev_fill (L := fun k o i => laws_toIntS.l0 k x o i) x id _ (fun o => Ev.step (fun k => rfl) (ev_neg (by omega) (ev_now rfl))) ?_
  intro o i y r hi hx hd hl hk
  refine Ev.step (fun k => rfl) (ev_pos (by omega) (ev_pos (by omega) ?_))
  simp only [rd, Int.toNat_natCast, hd]
  refine ev_pos (by omega) ?_
  rw [wrap_succ hi (by omega)]
  exact hk
end Go.Proofs.YtdjaaphhdmchjaaDoor.X
set_option linter.unusedVariables false
namespace Go.Proofs.YtdjaaphhdmchjaaDoor.X
open Go.RowKit Go.Proofs.YtdjaaphhdmchjaaDoorW.PrintWords Go.Proofs.YtdjaaphhdmchjaaDoor.E
def conv51 (x : S51) : S54 := ⟨x.f0, x.f1, x.f2⟩
theorem laws_toPart_ev (x : S51) (hb : (wt51 x) ≤ 1048576) : Ev (fun k => laws_toPart.f k (x.f0) (x.f1) (x.f2)) ((conv51 x).f0, (conv51 x).f1, (conv51 x).f2) := by
  unfold laws_toPart.f
  unfold wt51 at hb
  refine Ev.bind (laws_toIntS_ev x.f2 (by omega)) ?_
  exact ev_now rfl
end Go.Proofs.YtdjaaphhdmchjaaDoor.X
set_option linter.unusedVariables false
namespace Go.Proofs.YtdjaaphhdmchjaaDoor.X
open Go.RowKit Go.Proofs.YtdjaaphhdmchjaaDoorW.PrintWords Go.Proofs.YtdjaaphhdmchjaaDoor.E
theorem laws_toPartS_ev (x : List (S51)) (hb : (x.length + (x.map (fun y => (wt51 y))).sum) ≤ 1048576) : Ev (fun k => laws_toPartS.f k x) (x.map conv51) := by
  unfold laws_toPartS.f
  refine ev_pos (by omega) (ev_pos (by simp only [Int.toNat_natCast]; omega) ?_)
  simp only [Int.toNat_natCast]
  refine ev_fill (L := fun k o i => laws_toPartS.l0 k x o i) x conv51 _ (fun o => Ev.step (fun k => rfl) (ev_neg (by omega) (ev_now rfl))) ?_
  intro o i y r hi hx hd hl hk
  refine Ev.step (fun k => rfl) (ev_pos (by omega) (ev_pos (by omega) ?_))
  simp only [rd_T51, Int.toNat_natCast, hd]
  have hq := le_sum (f := fun y => (wt51 y)) (List.mem_of_getElem? hx)
  refine Ev.bind (laws_toPart_ev y (by omega)) ?_
  refine ev_pos (by omega) ?_
  rw [wrap_succ hi (by omega)]
  exact hk
end Go.Proofs.YtdjaaphhdmchjaaDoor.X
set_option linter.unusedVariables false
namespace Go.Proofs.YtdjaaphhdmchjaaDoor.X
open Go.RowKit Go.Proofs.YtdjaaphhdmchjaaDoorW.PrintWords Go.Proofs.YtdjaaphhdmchjaaDoor.E
theorem laws_eqContext_ev (x : S68) : Ev (fun k => laws_eqContext.f (x.f0) (x.f1) (x.f0) (x.f1)) true := by
  unfold laws_eqContext.f
  repeat' (first | exact ev_now rfl | refine ev_pos rfl ?_ | refine ev_neg (by simp) ?_)
end Go.Proofs.YtdjaaphhdmchjaaDoor.X
set_option linter.unusedVariables false
namespace Go.Proofs.YtdjaaphhdmchjaaDoor.X
open Go.RowKit Go.Proofs.YtdjaaphhdmchjaaDoorW.PrintWords Go.Proofs.YtdjaaphhdmchjaaDoor.E
theorem laws_eqContextS_ev (x : List (S68)) (hl0 : x.length ≤ 9223372036854775807) : Ev (fun k => laws_eqContextS.f k x x) true := by
  unfold laws_eqContextS.f
  refine ev_pos rfl ?_
  refine ev_same (L := fun k i => laws_eqContextS.l0 k x x i) x.length (Ev.step (fun k => rfl) (ev_neg (by omega) (ev_now rfl))) ?_
  intro i hi hk
  refine Ev.step (fun k => rfl) (ev_pos (by omega) (ev_pos (by omega) (ev_pos (by omega) ?_)))
  refine Ev.bind (laws_eqContext_ev _) ?_
  refine ev_pos rfl ?_
  rw [wrap_succ hi (by omega)]
  exact hk
end Go.Proofs.YtdjaaphhdmchjaaDoor.X
set_option linter.unusedVariables false
namespace Go.Proofs.YtdjaaphhdmchjaaDoor.X
open Go.RowKit Go.Proofs.YtdjaaphhdmchjaaDoorW.PrintWords Go.Proofs.YtdjaaphhdmchjaaDoor.E
theorem laws_eqRelation_ev (x : S72) : Ev (fun k => laws_eqRelation.f (x.f0) (x.f1) (x.f0) (x.f1)) true := by
  unfold laws_eqRelation.f
  repeat' (first | exact ev_now rfl | refine ev_pos rfl ?_ | refine ev_neg (by simp) ?_)
end Go.Proofs.YtdjaaphhdmchjaaDoor.X
set_option linter.unusedVariables false
namespace Go.Proofs.YtdjaaphhdmchjaaDoor.X
open Go.RowKit Go.Proofs.YtdjaaphhdmchjaaDoorW.PrintWords Go.Proofs.YtdjaaphhdmchjaaDoor.E
theorem laws_eqRelationS_ev (x : List (S72)) (hl0 : x.length ≤ 9223372036854775807) : Ev (fun k => laws_eqRelationS.f k x x) true := by
  unfold laws_eqRelationS.f
  refine ev_pos rfl ?_
  refine ev_same (L := fun k i => laws_eqRelationS.l0 k x x i) x.length (Ev.step (fun k => rfl) (ev_neg (by omega) (ev_now rfl))) ?_
  intro i hi hk
  refine Ev.step (fun k => rfl) (ev_pos (by omega) (ev_pos (by omega) (ev_pos (by omega) ?_)))
  refine Ev.bind (laws_eqRelation_ev _) ?_
  refine ev_pos rfl ?_
  rw [wrap_succ hi (by omega)]
  exact hk
end Go.Proofs.YtdjaaphhdmchjaaDoor.X
set_option linter.unusedVariables false
namespace Go.Proofs.YtdjaaphhdmchjaaDoor.X
open Go.RowKit Go.Proofs.YtdjaaphhdmchjaaDoorW.PrintWords Go.Proofs.YtdjaaphhdmchjaaDoor.E
theorem laws_eqRecord_ev (x : S35) (hl0 : x.f0.length ≤ 9223372036854775807) (hl1 : x.f1.length ≤ 9223372036854775807) : Ev (fun k => laws_eqRecord.f k (x.f0) (x.f1) (x.f0) (x.f1)) true := by
  unfold laws_eqRecord.f
  repeat' (first | exact ev_now rfl | refine ev_pos rfl ?_ | refine ev_neg (by simp) ?_ | refine Ev.bind (laws_eqContextS_ev _ (by assumption)) ?_ | refine Ev.bind (laws_eqRelationS_ev _ (by assumption)) ?_)
end Go.Proofs.YtdjaaphhdmchjaaDoor.X
set_option linter.unusedVariables false
namespace Go.Proofs.YtdjaaphhdmchjaaDoor.X
open Go.RowKit Go.Proofs.YtdjaaphhdmchjaaDoorW.PrintWords Go.Proofs.YtdjaaphhdmchjaaDoor.E
theorem laws_eqIntS_ev (x : List (Int)) (hl0 : x.length ≤ 9223372036854775807) : Ev (fun k => laws_eqIntS.f k x x) true := by
  unfold laws_eqIntS.f
  refine ev_pos rfl ?_
  refine ev_same (L := fun k i => laws_eqIntS.l0 k x x i) x.length (Ev.step (fun k => rfl) (ev_neg (by omega) (ev_now rfl))) ?_
  intro i hi hk
  refine Ev.step (fun k => rfl) (ev_pos (by omega) (ev_pos (by omega) (ev_pos (by omega) ?_)))
  refine ev_pos rfl ?_
  rw [wrap_succ hi (by omega)]
  exact hk
end Go.Proofs.YtdjaaphhdmchjaaDoor.X
set_option linter.unusedVariables false
namespace Go.Proofs.YtdjaaphhdmchjaaDoor.X
open Go.RowKit Go.Proofs.YtdjaaphhdmchjaaDoorW.PrintWords Go.Proofs.YtdjaaphhdmchjaaDoor.E
theorem laws_eqPart_ev (x : S54) (hl0 : x.f2.length ≤ 9223372036854775807) : Ev (fun k => laws_eqPart.f k (x.f0) (x.f1) (x.f2) (x.f0) (x.f1) (x.f2)) true := by
  unfold laws_eqPart.f
  repeat' (first | exact ev_now rfl | refine ev_pos rfl ?_ | refine ev_neg (by simp) ?_ | refine Ev.bind (laws_eqIntS_ev _ (by assumption)) ?_)
end Go.Proofs.YtdjaaphhdmchjaaDoor.X
set_option linter.unusedVariables false
namespace Go.Proofs.YtdjaaphhdmchjaaDoor.X
open Go.RowKit Go.Proofs.YtdjaaphhdmchjaaDoorW.PrintWords Go.Proofs.YtdjaaphhdmchjaaDoor.E
theorem laws_eqPartS_ev (x : List (S54)) (hl0 : x.length ≤ 9223372036854775807) (hl1 : ∀ y ∈ x, (y.f2.length ≤ 9223372036854775807)) : Ev (fun k => laws_eqPartS.f k x x) true := by
  unfold laws_eqPartS.f
  refine ev_pos rfl ?_
  refine ev_same (L := fun k i => laws_eqPartS.l0 k x x i) x.length (Ev.step (fun k => rfl) (ev_neg (by omega) (ev_now rfl))) ?_
  intro i hi hk
  refine Ev.step (fun k => rfl) (ev_pos (by omega) (ev_pos (by omega) (ev_pos (by omega) ?_)))
  have hy := hl1 _ (List.getElem_mem hi)
  have hr : rd_T54 x (i : Int) = x[i] := by simp [rd_T54, List.getD_eq_getElem?_getD, List.getElem?_eq_getElem hi]
  rw [hr]
  refine Ev.bind (laws_eqPart_ev _ (by first | exact hy | exact hy)) ?_
  refine ev_pos rfl ?_
  rw [wrap_succ hi (by omega)]
  exact hk
end Go.Proofs.YtdjaaphhdmchjaaDoor.X
set_option linter.unusedVariables false
namespace Go.Proofs.YtdjaaphhdmchjaaDoor.X
open Go.RowKit Go.Proofs.YtdjaaphhdmchjaaDoorW.PrintWords Go.Proofs.YtdjaaphhdmchjaaDoor.E
theorem laws_eqStringS_ev (x : List (ByteArray)) (hl0 : x.length ≤ 9223372036854775807) : Ev (fun k => laws_eqStringS.f k x x) true := by
  unfold laws_eqStringS.f
  refine ev_pos rfl ?_
  refine ev_same (L := fun k i => laws_eqStringS.l0 k x x i) x.length (Ev.step (fun k => rfl) (ev_neg (by omega) (ev_now rfl))) ?_
  intro i hi hk
  refine Ev.step (fun k => rfl) (ev_pos (by omega) (ev_pos (by omega) (ev_pos (by omega) ?_)))
  refine ev_pos rfl ?_
  rw [wrap_succ hi (by omega)]
  exact hk
end Go.Proofs.YtdjaaphhdmchjaaDoor.X
set_option linter.unusedVariables false
set_option linter.unusedSimpArgs false
namespace Go.Proofs.YtdjaaphhdmchjaaDoor.Pure
open Go.RowKit Go.Proofs.YtdjaaphhdmchjaaDoor.X Go.Proofs.YtdjaaphhdmchjaaDoorW.PrintWords Go.Proofs.YtdjaaphhdmchjaaDoor.E
theorem hd_both (cs : List S68) (rs : List S72) (ps : List X.Part) (hl : ps.length ≤ 9223372036854775807) (hp : ∀ p ∈ ps, p.f1.size ≤ 9223372036854775807 ∧ p.f2.length ≤ 9223372036854775807) :
    ∃ (L : List ByteArray) (b : Bool), L.length ≤ 16 ∧ Ev (fun k => spec_HeadingNumbers.f k cs rs ps) (L, b) ∧ Ev (fun k => impl_HeadingNumbers.f k cs rs ps) (L, b) := by
  have h1 := specReport_ev cs rs ps hp
  have h2 := implReport_ev cs rs ps hl hp
  cases hv : repOk cs rs ps
  · rw [hv] at h1 h2
    exact ⟨[], false, by simp, ev_some (Ev.bind h1 (ev_neg (by simp) (ev_now rfl))), Ev.bind h2 (ev_neg (by simp) (ev_now rfl))⟩
  rw [hv] at h1 h2
  have H := hdOk_of hv
  have hn := H.1
  have hal := alls_length ps
  have hhl := heads_length ps
  have hat : ∀ n i, i < n → rdOf ByteArray.empty (alls ps n) (i : Int) = (if (rd_T54 ps i).f0 = 1 then numAt (lvl ps i) (nx (lvl ps i) (cnt ps i)) else ⟨#[]⟩) := by
    intro n
    induction n with
    | zero => intro i hi; omega
    | succ n ih =>
      intro i hi
      unfold rdOf
      rw [Int.toNat_natCast, alls, List.getD_eq_getElem?_getD]
      by_cases e : i < n
      · rw [List.getElem?_append_left (by rw [hal]; exact e), ← List.getD_eq_getElem?_getD]
        have := ih i e
        unfold rdOf at this
        rw [Int.toNat_natCast] at this
        exact this
      · obtain rfl : i = n := by omega
        rw [List.getElem?_append_right (by rw [hal]; exact Nat.le_refl _), hal, Nat.sub_self]
        rfl
  have g := ev_all (L := fun k (s : List ByteArray) i => spec_HeadingNumbers.l0 k ps s (alls ps ps.length) i) ps.length (heads ps) (fun _ => true) ([], false) (heads ps ps.length, true) (fun _ => Ev.step (fun k => rfl) (ev_neg (by omega) (ev_now rfl))) ?h1 (fun i hi _ hc => nomatch hc)
  case h1 =>
    intro i hi _ _ y hy
    have hk := hhl i
    rw [heads] at hy
    refine Ev.step (fun k => rfl) (ev_pos (by omega) (ev_pos (by omega) ?_))
    by_cases c : (rd_T54 ps i).f0 = 1
    · rw [if_pos c] at hy
      have ha := hat ps.length i hi
      rw [if_pos c] at ha
      refine ev_pos c (ev_pos (by rw [hal]; omega) (ev_pos (by omega) ?_))
      rw [ha, wrap_succ hi (by omega)]
      exact hy
    · rw [if_neg c] at hy
      refine ev_neg c ?_
      rw [wrap_succ hi (by omega)]
      exact hy
  rw [if_pos (by rw [all_range]; intro i hi; rfl)] at g
  exact ⟨heads ps ps.length, true, Nat.le_trans (hhl _) hn, ev_some (Ev.bind h1 (ev_pos rfl (Ev.bind (specNums_ev ps H) g))), Ev.bind h2 (ev_pos rfl (Ev.bind (implHeads_ev ps H) (ev_now rfl)))⟩
theorem wP_sum (l : List S51) : ((l.map conv51).map wP).sum ≤ 2 * l.length + (l.map (fun y => wt51 y)).sum := by
  induction l with
  | nil => exact Nat.le_refl _
  | cons y l ih =>
    rw [List.map_cons, List.map_cons, List.sum_cons, List.map_cons, List.sum_cons, List.length_cons]
    have h1 : wP (conv51 y) = 2 + y.f2.length := rfl
    have h2 : y.f2.length ≤ wt51 y := by unfold wt51; omega
    omega
theorem FnExactHeadingNumbers : PureFnExactHeadingNumbers := by
  intro x ps hx hp
  unfold laws_FnExactHeadingNumbers.f
  refine ev_get (Ev.bind (laws_szRecord_ev x hx.1.1 hx.2.1 1048576 (by omega) (by omega)) ?_)
  by_cases c : (((wt25 x) : Nat) : Int) ≤ 1048576
  case neg => rw [if_neg c]; exact ev_pos (by omega) (ev_now rfl)
  rw [if_pos c]
  refine ev_neg (by omega) (Ev.bind (laws_szPartS_ev ps hp.1 (fun y hy => ⟨(hp.2 y hy).2.1, (hp.2 y hy).2.2.1⟩) _ (by omega) (by omega)) ?_)
  by_cases d : (((ps.length + (ps.map (fun y => (wt51 y))).sum) : Nat) : Int) ≤ 1048576 - (((wt25 x) : Nat) : Int)
  case neg => rw [if_neg d]; exact ev_pos (by omega) (ev_now rfl)
  rw [if_pos d]
  refine ev_neg (by omega) ?_
  have hwt : wt25 x = x.f0.length + x.f1.length := rfl
  have htr := laws_toRecord_ev x (by omega)
  have htp := laws_toPartS_ev ps (by omega)
  have hl0 : (conv25 x).f0.length = x.f0.length := List.length_map ..
  have hl1 : (conv25 x).f1.length = x.f1.length := List.length_map ..
  have hw : ∀ p ∈ ps.map conv51, p.f1.size ≤ 9223372036854775807 ∧ p.f2.length ≤ 9223372036854775807 := by
    intro p hp'
    obtain ⟨y, hy, rfl⟩ := List.mem_map.1 hp'
    exact ⟨(hp.2 y hy).2.1, (hp.2 y hy).2.2.1⟩
  have hl : (ps.map conv51).length ≤ 9223372036854775807 := by rw [List.length_map]; exact hp.1
  obtain ⟨L, b, hL, g1, g2⟩ := hd_both (conv25 x).f0 (conv25 x).f1 (ps.map conv51) hl hw
  have heq := laws_eqRecord_ev (conv25 x) (by omega) (by omega)
  have heqp := laws_eqPartS_ev (ps.map conv51) hl (fun y hy => (hw y hy).2)
  have heL := laws_eqStringS_ev L (by omega)
  have hws := wP_sum ps
  have hm1 := markRec (conv25 x).f0 (conv25 x).f1 (by omega) (by omega)
  have hm2 := markPart (ps.map conv51) (1 + (2 * (conv25 x).f0.length : Nat) + (2 * (conv25 x).f1.length : Nat)) (by omega) (by omega)
  have hm3 := markStr L 1 (by omega) (by omega)
  have hh := heldStr L 1 (by omega) (by omega)
  refine Ev.bind htr (Ev.bind htp (Ev.bind g1 (Ev.bind htr (Ev.bind htp (Ev.bind g2 (Ev.bind heL (ev_pos rfl (ev_pos rfl ?_))))))))
  refine Ev.bind htr (Ev.bind heq (ev_pos rfl (Ev.bind htp (Ev.bind heqp (ev_pos rfl (Ev.bind hm1 (Ev.bind hm2 (ev_pos (by omega) (Ev.bind heL (ev_pos rfl (ev_pos rfl ?_)))))))))))
  refine Ev.bind hm3 (Ev.bind hh (ev_pos (by omega) (ev_pos rfl (Ev.bind htr (Ev.bind htp (Ev.bind g2 (Ev.bind heL (ev_pos rfl (ev_pos rfl ?_)))))))))
  exact Ev.bind hh (ev_pos (by omega) (ev_pos rfl (ev_now rfl)))
end Go.Proofs.YtdjaaphhdmchjaaDoor.Pure
namespace Go.Proofs.YtdjaaphhdmchjaaDoor.fnExactHeadingNumbers
open Go.ChangeShapes Go.WideShapes Go.ChangeAt Go.RowKit Go.Joins Go.Proofs.YtdjaaphhdmchjaaDoorW.PrintWords Go.Proofs.YtdjaaphhdmchjaaDoor.Open Go.Proofs.YtdjaaphhdmchjaaDoor.X
open Go.ChangeMaps (open_string shut_string)
set_option linter.unusedVariables false
theorem own : ownKnob Tryd.prog.godebug = none := by kernel_rfl
def laid : List (String × DataW Unit) := [("math/bits.deBruijn32tab", Rows.laid_math_bits_deBruijn32tab), ("math/bits.deBruijn64tab", Rows.laid_math_bits_deBruijn64tab), ("internal/strconv.uint64pow10", Rows.laid_internal_strconv_uint64pow10)]
theorem door_met (os : Os) (args : Array Value) : laidMetH Tryd.prog laid ((World.doorLaid Tryd.prog 24 os).forCall (fun _ _ => 0) ⟨#[], args, []⟩).memory :=
  laidMetH_of_parts3 (fuel := 8) (laidMet_of_run' 8 (by kernel_rfl) (by kernel_rfl)) (by kernel_rfl) (by kernel_rfl)
theorem gTab : Tryd.prog.globalNamed "internal/strconv.uint64pow10" = some 0 := by kernel_rfl
theorem gTabType : (Tryd.prog.globals[0]?).map (·.type) = some 113 := by kernel_rfl
theorem cellsT : Tryd.prog.cellsOf 113 = 20 := by kernel_rfl
theorem cellsE : Tryd.prog.cellsOf 103 = 1 := by kernel_rfl
theorem only : laid.filter (fun x => x.1 == "internal/strconv.uint64pow10") = [("internal/strconv.uint64pow10", Lib.tabData .u64 Lib.pow10Tab)] := by kernel_rfl
theorem table {W : World} (h : laidMetH Tryd.prog laid W) : GT W := by
  have h2 := h.filter (fun x => x.1 == "internal/strconv.uint64pow10")
  rw [only] at h2
  rw [MakeChecks.laidMetH_plain _ _ _ (by kernel_rfl)] at h2
  exact Lib.tabIs_of_head (rest := []) gTab gTabType Tryd.underlying113 Tryd.underlying103 cellsE cellsT h2
theorem laidOut : laidOutB Tryd.prog = true := by kernel_rfl
set_option maxRecDepth 100000 in
theorem lifted (os : Os) (started : os.Started) (H : Type) (enc : TypeId × Value → H) :
    ReturnsInHanded {} Tryd.checked os 3 .any (fun w args => (Rows.fnExactHeadingNumbersSpec.pre enc Tryd.prog Tryd.f3 [] false w args ∧ laidMetH Tryd.prog laid w) ∧ sizedMet enc Tryd.prog Tryd.f3 (OpenSpec.ofChange Rows.fnExactHeadingNumbersSpec) false w args)
      (Rows.fnExactHeadingNumbersSpec.post enc Tryd.prog Tryd.f3 false true false false) := by
  refine returnsInHanded_of_change_and (C := Tryd.checked) (X := fun w _ => laidMetH Tryd.prog laid w) (fun _ _ _ hh h => h.of_heap hh) own started (by kernel_rfl) Tryd.func3
    (ChangeSpec.witness_shaped (enc := enc) (C := Tryd.checked) (os := os) (X := fun w _ => laidMetH Tryd.prog laid w) false (World.doorLaid Tryd.prog 24 os) #[.agg #[.slice none 0 0, .slice none 0 0], .slice none 0 0] 8 rfl (World.shaped_of_RefB (by kernel_rfl) (by kernel_rfl)) (by kernel_rfl) (by kernel_rfl) (by kernel_rfl) (door_met os _)) ?_
  intro W base args ds gs before hval0 hW hcnd hsz0 hL _
  have hval : ∀ (j : Nat) t v, Tryd.f3.params[j]? = some t → args[j]? = some v → Value.okWide Tryd.prog W .any base t v := hval0
  have hW' := hW
  obtain ⟨p, q, hA0, hV, rfl, hfz, hnd⟩ := hW
  have hA : DataW.TrodAll enc Tryd.prog W 0 (fun _ => true) true Tryd.f3.params.toList args.toList ds p := hA0
  rw [Tryd.params3] at hA hval
  obtain ⟨v0, vs0, d0, ds0, p0, q0, hargs, rfl, rfl, h0, r0⟩ := trodAll_cons hA
  obtain ⟨v1, vs1, d1, ds1, p1, q1, rfl, rfl, rfl, h1, r1⟩ := trodAll_cons r0
  obtain ⟨rfl, rfl, rfl⟩ := trodAll_nil r1
  obtain rfl : args = #[v0, v1] := by cases args; simp_all
  obtain ⟨rfl, rfl⟩ := trodVars_none hV
  have kk0 := h0
  have lt0 : ∀ x ∈ p0, x.block < W.heap.size := by obtain ⟨m, hm⟩ := kk0; exact DataW.trod_lt m _ _ _ hm
  obtain ⟨a0, cs0, rfl, hK0, g0⟩ := arg_agg op25 (by obtain ⟨cs, e, _⟩ := okWide_struct Tryd.underlying25 (hval 0 25 v0 rfl rfl); exact ⟨cs, e⟩) h0
  obtain ⟨A0_0, c0_0, A0_1, c0_1, he0, hc0_0, hr0_0, hc0_1, hr0_1⟩ := k25_open hK0
  obtain rfl : cs0 = #[.slice A0_0 a0.f0.length c0_0, .slice A0_1 a0.f1.length c0_1] := by cases cs0; simp_all
  have kk1 := h1
  have lt1 : ∀ x ∈ p1, x.block < W.heap.size := by obtain ⟨m, hm⟩ := kk1; exact DataW.trod_lt m _ _ _ hm
  obtain ⟨A1, c1, a1, rfl, hc1, hr1, g1⟩ := arg_slice op26 (okWide_slice Tryd.underlying26 (hval 1 26 v1 rfl rfl)) h1
  clear hA0 hval0 hsz0
  obtain ⟨k, hk⟩ := Pure.FnExactHeadingNumbers a0 a1 g0 g1
  refine (X.laws_FnExactHeadingNumbers.calls k _ _ a0.f0 _ _ a0.f1 _ _ a1 true W hr0_0 hc0_0 hr0_1 hc0_1 hr1 hc1 (table hL) hk).mono ?_
  rintro e W' ⟨he, bel0⟩
  have bel : Below W.heap.size W W' := by first | exact bel0 | exact bel0.below
  subst he
  exact ⟨_, rfl, _, _, _, [], _, [], hW', trodAll_mk1 (shut_bool Tryd.underlying4 _), (trodAll_cons_mk (Below.trod laidOut (by kernel_rfl) (of_decide_eq_true (by kernel_rfl)) kk0 bel lt0) (trodAll_cons_mk (Below.trod laidOut (by kernel_rfl) (of_decide_eq_true (by kernel_rfl)) kk1 bel lt1) trodAll_mk0)), rfl, bel.frame _, fun h => by cases h⟩
theorem over : Rows.fnExactHeadingNumbersRow.holds Tryd.pinned (OpenSpec.ofChange Rows.fnExactHeadingNumbersSpec) :=
  OpenClaim.holds_of_wide 3 Tryd.f3 rfl rfl rfl rfl rfl rfl rfl ⟨rfl, rfl, rfl, rfl, rfl⟩ rfl rfl rfl rfl rfl (by kernel_rfl) Tryd.func3 (by kernel_rfl)
    (of_decide_eq_true (by kernel_rfl)) (by unfold Func.isWrapper; first | (rw [if_pos (by decide +kernel)]; kernel_rfl) | (rw [if_neg (by decide +kernel)]; exact ⟨rfl, rfl⟩))
    (fun os started H enc _ => lifted os started H enc)
theorem proved : Rows.FnExactHeadingNumbersSaid := over
#print axioms proved
theorem plain (f : FuncId) (fn : Func) (hf : Tryd.pinned.checked.prog.funcNamed "loop.example/g00876/laws.FnExactHeadingNumbers" = some f) (hfn : Tryd.pinned.checked.prog.funcs[f]? = some fn) :
    false = Tryd.pinned.checked.prog.looks [] ∧ ∀ (j : Nat) t, fn.params[j]? = some t → Tryd.pinned.checked.prog.wantsStandIn t = false := by
  obtain rfl : f = 3 := Option.some.inj ((show Tryd.prog.funcNamed "loop.example/g00876/laws.FnExactHeadingNumbers" = some 3 by kernel_rfl).symm.trans hf) |>.symm
  obtain rfl : fn = Tryd.f3 := (Option.some.inj (Tryd.func3.symm.trans hfn)).symm
  refine ⟨by kernel_rfl, fun j t ht => ?_⟩
  rw [Tryd.params3] at ht
  have hm := Array.mem_of_getElem? ht
  simp only [List.mem_toArray, List.mem_cons, List.not_mem_nil, or_false] at hm
  rcases hm with rfl | rfl
  · exact (show Tryd.prog.wantsStandIn 25 = false by kernel_rfl)
  · exact (show Tryd.prog.wantsStandIn 26 = false by kernel_rfl)
theorem card : Rows.FnExactHeadingNumbersCardSaid :=
  Claim7.holds_tied_plain_at .later [] _ _ _ _ proved (fun _ h => by cases h) (by kernel_rfl) (fun _ h => by cases h) fnExactHeadingNumbers_row_tie rfl ⟨rfl, rfl⟩ (by kernel_rfl) rfl plain (by kernel_rfl)
#print axioms card
end Go.Proofs.YtdjaaphhdmchjaaDoor.fnExactHeadingNumbers
namespace Go.Proofs.YtdjaaphhdmchjaaDoor
/-- The row, under a short name, for the claim. -/
theorem fnExactHeadingNumbers_holds : Rows.FnExactHeadingNumbersSaid := fnExactHeadingNumbers.proved
/-- The card, under a short name. -/
theorem fnExactHeadingNumbersCard_holds : Rows.FnExactHeadingNumbersCardSaid := fnExactHeadingNumbers.card
end Go.Proofs.YtdjaaphhdmchjaaDoor
