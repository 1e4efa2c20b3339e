/- For every log the law FnExactLogRecords answers true, the tables lying as the program's own text lays them
This file (part 4 of 4) holds what the proof needs: plain functions with rounds and contracts written by programs of this work over the translation, and the lemmas. -/
import Derived.Test.YtblgaejagebeoaaDoorZFnExactLogRecords3
import Derived.Test.YtblgaejagebeoaaDoorZFnExactLogRecords1
import Derived.Test.YtblgaejagebeoaaDoorZFnExactLogRecords2
import Derived.Test.YtblgaejagebeoaaDoorTie
import Derived.Test.YtblgaejagebeoaaDoorCards
import Derived.Test.YtblgaejagebeoaaDoorRows
import Derived.WalkKit
import Derived.ProofKit
import Derived.OpenShut
import Derived.ShutString
import Derived.ChangeOld
import Derived.Below
import Derived.SizedLaws
import Derived.Lib.SmallJoins
import Derived.LaidMore
import Derived.Stop.Joined
import Derived.Lib.LaidTab
import Derived.Lib.ItoaNum
import Derived.LaidSub
import Derived.Handed
import Derived.SevenTiedAt
set_option linter.unusedVariables false
set_option linter.unusedSimpArgs false
namespace Go.Proofs.YtblgaejagebeoaaDoor.X
open Go.RowKit Go.Proofs.YtblgaejagebeoaaDoorW.PrintWords Go.Proofs.YtblgaejagebeoaaDoor.E
theorem l_len (s : ByteArray) : s.data.toList.length = s.size := by rw [Array.length_toList]; rfl
theorem ba_list {a b : ByteArray} (h : a.data.toList = b.data.toList) : a = b := ByteArray.ext (Array.toList_inj.1 h)
theorem ba_app (a b : ByteArray) : (a ++ b).data.toList = a.data.toList ++ b.data.toList := by rw [ByteArray.data_append, Array.toList_append]
theorem ba_cut {a a' b b' : ByteArray} (h : a ++ b = a' ++ b') (hs : a.size = a'.size) : a = a' ∧ b = b' := by
  have h1 := congrArg (fun x : ByteArray => x.data.toList) h
  simp only [ba_app] at h1
  obtain ⟨e1, e2⟩ := List.append_inj h1 (by rw [l_len, l_len, hs])
  exact ⟨ba_list e1, ba_list e2⟩
def one (c : UInt8) : ByteArray := ⟨#[c]⟩
def nob (c : UInt8) (a : ByteArray) : Prop := c ∉ a.data.toList
theorem one_size (c : UInt8) : (one c).size = 1 := rfl
theorem one_list (c : UInt8) : (one c).data.toList = [c] := rfl
def cat (a : ByteArray) (c : UInt8) (b : ByteArray) : ByteArray := (a ++ one c) ++ b
theorem cat_size (a : ByteArray) (c : UInt8) (b : ByteArray) : (cat a c b).size = a.size + 1 + b.size := by unfold cat; rw [ByteArray.size_append, ByteArray.size_append, one_size]
theorem cat_list (a : ByteArray) (c : UInt8) (b : ByteArray) : (cat a c b).data.toList = a.data.toList ++ c :: b.data.toList := by unfold cat; rw [ba_app, ba_app, one_list, List.append_assoc]; rfl
theorem split_or (c : UInt8) (x : ByteArray) : nob c x ∨ ∃ a b, x = cat a c b ∧ nob c a := by
  by_cases h : c ∈ x.data.toList
  · obtain ⟨a, b, e, hn⟩ := List.eq_append_cons_of_mem h
    refine Or.inr ⟨⟨a.toArray⟩, ⟨b.toArray⟩, ba_list ?_, hn⟩
    rw [cat_list, e]
  · exact Or.inl h
theorem idx_l0 : ∀ (l : List UInt8) (c : UInt8), c ∉ l → Lib.indexByte l c = -1
  | [], _, _ => rfl
  | b :: l, c, h => by
    have hb : (b == c) = false := by rw [beq_eq_false_iff_ne]; exact fun e => h (e ▸ List.mem_cons_self ..)
    rw [Lib.indexByte, hb, idx_l0 l c (fun m => h (List.mem_cons_of_mem _ m))]
    rfl
theorem idx_l1 : ∀ (l r : List UInt8) (c : UInt8), c ∉ l → Lib.indexByte (l ++ c :: r) c = (l.length : Int)
  | [], r, c, _ => by simp [Lib.indexByte]
  | b :: l, r, c, h => by
    have hb : (b == c) = false := by rw [beq_eq_false_iff_ne]; exact fun e => h (e ▸ List.mem_cons_self ..)
    rw [List.cons_append, Lib.indexByte, hb, idx_l1 l r c (fun m => h (List.mem_cons_of_mem _ m))]
    have : ((l.length : Int) == -1) = false := by rw [beq_eq_false_iff_ne]; omega
    rw [this]
    simp
theorem idx_no {c : UInt8} {x : ByteArray} (h : nob c x) : Lib.indexByte x.data.toList c = -1 := idx_l0 _ _ h
theorem idx_yes {c : UInt8} {a b : ByteArray} (h : nob c a) : Lib.indexByte (cat a c b).data.toList c = (a.size : Int) := by rw [cat_list, idx_l1 _ _ _ h, l_len]
theorem nob_cat {c d : UInt8} {a b : ByteArray} : nob c (cat a d b) ↔ nob c a ∧ c ≠ d ∧ nob c b := by unfold nob; rw [cat_list, List.mem_append, List.mem_cons]; constructor <;> (intro h; simp_all)
theorem split_uniq {c : UInt8} {a a' b b' : ByteArray} (h : cat a c b = cat a' c b') (ha : nob c a) (ha' : nob c a') : a = a' ∧ b = b' := by
  have h1 := idx_yes (b := b) ha
  rw [h, idx_yes ha'] at h1
  have hs : a.size = a'.size := by omega
  unfold cat at h
  have h2 := ba_cut h (by rw [ByteArray.size_append, ByteArray.size_append, hs])
  exact ⟨(ba_cut h2.1 hs).1, h2.2⟩
theorem not_nob (c : UInt8) (a b : ByteArray) : ¬ nob c (cat a c b) := fun h => (nob_cat.1 h).2.1 rfl
theorem cat_left (a : ByteArray) (c : UInt8) (b : ByteArray) : (cat a c b).extract 0 a.size = a := by unfold cat; rw [ByteArray.append_assoc]; exact ByteArray.extract_append_eq_left rfl
theorem cat_right (a : ByteArray) (c : UInt8) (b : ByteArray) : (cat a c b).extract (a.size + 1) (cat a c b).size = b := by
  rw [cat_size]; unfold cat; exact ByteArray.extract_append_eq_right (by rw [ByteArray.size_append, one_size]) (by rw [ByteArray.size_append, one_size])
theorem bt_no {c : UInt8} {x : ByteArray} (h : nob c x) (i : Nat) (hi : i < x.size) : bt x i ≠ (c.toNat : Int) := by
  have hi' : i < x.data.toList.length := by rw [l_len]; exact hi
  rw [bt_get x i hi']
  intro e
  have e2 : x.data.toList[i] = c := UInt8.toNat_inj.1 (by omega)
  exact h (e2 ▸ List.getElem_mem hi')
theorem bt_left {c : UInt8} {a b : ByteArray} (h : nob c a) (i : Nat) (hi : i < a.size) : bt (cat a c b) i ≠ (c.toNat : Int) := by
  have hl := l_len a
  have hi' : i < (cat a c b).data.toList.length := by rw [l_len, cat_size]; omega
  rw [bt_get _ i hi']
  have hh : (cat a c b).data.toList[i] = a.data.toList[i]'(by omega) := by
    have h1 : (cat a c b).data.toList[i]? = a.data.toList[i]? := by rw [cat_list, List.getElem?_append_left (by omega)]
    rw [List.getElem?_eq_getElem hi', List.getElem?_eq_getElem (by omega)] at h1
    exact Option.some.inj h1
  rw [hh]
  intro e
  have e2 : a.data.toList[i]'(by omega) = c := UInt8.toNat_inj.1 (by omega)
  exact h (e2 ▸ List.getElem_mem _)
theorem bt_at (a : ByteArray) (c : UInt8) (b : ByteArray) : bt (cat a c b) a.size = (c.toNat : Int) := by
  have hl := l_len a
  have hi' : a.size < (cat a c b).data.toList.length := by rw [l_len, cat_size]; omega
  rw [bt_get _ _ hi']
  have hh : (cat a c b).data.toList[a.size] = c := by
    have h1 : (cat a c b).data.toList[a.size]? = some c := by rw [cat_list, List.getElem?_append_right (by omega), hl, Nat.sub_self]; rfl
    rw [List.getElem?_eq_getElem hi'] at h1
    exact Option.some.inj h1
  rw [hh]
theorem split_any (x : ByteArray) (c : Int) (hx : x.size < 8796093022208) : ∀ (n i st : Nat) (out : List ByteArray), x.size - i = n → st ≤ i → i ≤ x.size → out.length ≤ st → ∃ y ys, Ev (fun k => spec_l1Split.l0 k x c out (st : Int) (i : Int)) (out ++ y :: ys) := by
  intro n
  induction n with
  | zero =>
    intro i st out hn hs hi ho
    exact ⟨x.extract ((st : Int)).toNat x.size, [], Ev.step (fun k => rfl) (ev_neg (by omega) (ev_pos (by omega) (ev_pos (by omega) (ev_pos (by omega) (ev_now rfl)))))⟩
  | succ n ih =>
    intro i st out hn hs hi ho
    by_cases hc : bt x i = c
    · obtain ⟨y, ys, h⟩ := ih (i + 1) (i + 1) (out ++ [x.extract ((st : Int)).toNat ((i : Int)).toNat]) (by omega) (Nat.le_refl _) (by omega) (by rw [List.length_append, List.length_singleton]; omega)
      refine ⟨x.extract ((st : Int)).toNat ((i : Int)).toNat, y :: ys, Ev.step (fun k => rfl) (ev_pos (by omega) (ev_pos (by omega) (ev_pos hc (ev_pos (by omega) (ev_pos (by omega) (ev_pos (by omega) (ev_pos (by omega) ?_)))))))⟩
      rw [wrap_succ (show i < x.size by omega) (by omega)]
      rw [List.append_assoc] at h
      exact h
    · obtain ⟨y, ys, h⟩ := ih (i + 1) st out (by omega) (by omega) (by omega) ho
      refine ⟨y, ys, Ev.step (fun k => rfl) (ev_pos (by omega) (ev_pos (by omega) (ev_neg hc ?_)))⟩
      rw [wrap_succ (show i < x.size by omega) (by omega)]
      exact h
theorem split_no {c : UInt8} {x : ByteArray} (h : nob c x) (hx : x.size < 8796093022208) (c' : Int) (hc : c' = (c.toNat : Int)) : Ev (fun k => spec_l1Split.f k x c') [x] := by
  have go : ∀ (n i : Nat), x.size - i = n → i ≤ x.size → Ev (fun k => spec_l1Split.l0 k x c' [] ((0 : Nat) : Int) (i : Int)) [x] := by
    intro n
    induction n with
    | zero =>
      intro i hn hi
      refine Ev.step (fun k => rfl) (ev_neg (by omega) (ev_pos (by omega) (ev_pos (by omega) (ev_pos (by simp) (ev_now ?_)))))
      rw [List.nil_append, Int.toNat_natCast, ByteArray.extract_zero_size]
    | succ n ih =>
      intro i hn hi
      refine Ev.step (fun k => rfl) (ev_pos (by omega) (ev_pos (by omega) (ev_neg (by rw [hc]; exact bt_no h i (by omega)) ?_)))
      rw [wrap_succ (show i < x.size by omega) (by omega)]
      exact ih (i + 1) (by omega) (by omega)
  exact go x.size 0 (by omega) (by omega)
theorem split_yes {c : UInt8} {a b : ByteArray} (h : nob c a) (hx : (cat a c b).size < 8796093022208) (c' : Int) (hc : c' = (c.toNat : Int)) : ∃ y ys, Ev (fun k => spec_l1Split.f k (cat a c b) c') (a :: y :: ys) := by
  have hz := cat_size a c b
  obtain ⟨y, ys, hA⟩ := split_any (cat a c b) c' hx ((cat a c b).size - (a.size + 1)) (a.size + 1) (a.size + 1) [a] rfl (Nat.le_refl _) (by omega) (by simp)
  refine ⟨y, ys, ?_⟩
  have go : ∀ (n i : Nat), a.size - i = n → i ≤ a.size → Ev (fun k => spec_l1Split.l0 k (cat a c b) c' [] ((0 : Nat) : Int) (i : Int)) (a :: y :: ys) := by
    intro n
    induction n with
    | zero =>
      intro i hn hi
      obtain rfl : i = a.size := by omega
      refine Ev.step (fun k => rfl) (ev_pos (by omega) (ev_pos (by omega) (ev_pos (by rw [hc]; exact bt_at a c b) (ev_pos (by omega) (ev_pos (by omega) (ev_pos (by omega) (ev_pos (by simp) ?_)))))))
      rw [wrap_succ (show a.size < (cat a c b).size by omega) (by omega), Int.toNat_natCast, Int.toNat_natCast, cat_left]
      exact hA
    | succ n ih =>
      intro i hn hi
      refine Ev.step (fun k => rfl) (ev_pos (by omega) (ev_pos (by omega) (ev_neg (by rw [hc]; exact bt_left h i (by omega)) ?_)))
      rw [wrap_succ (show i < (cat a c b).size by omega) (by omega)]
      exact ih (i + 1) (by omega) (by omega)
  exact go a.size 0 (by omega) (by omega)
theorem cut_no {c : UInt8} {x : ByteArray} (h : nob c x) : strings_Cut.f x (one c) = some (x, (⟨#[]⟩ : ByteArray), false) := by
  have h0 : stringslite_Index.f x (one c) = some (-1) := by show some (Lib.indexByte x.data.toList c) = _; rw [idx_no h]
  have h1 : stringslite_Cut.f x (one c) = some (x, (⟨#[]⟩ : ByteArray), false) := by unfold stringslite_Cut.f; rw [h0]; rfl
  unfold strings_Cut.f; rw [h1]; rfl
theorem cut_yes {c : UInt8} {a b : ByteArray} (h : nob c a) (hx : (cat a c b).size ≤ 4611686018427387904) : strings_Cut.f (cat a c b) (one c) = some (a, b, true) := by
  have hz := cat_size a c b
  have h0 : stringslite_Index.f (cat a c b) (one c) = some (a.size : Int) := by show some (Lib.indexByte (cat a c b).data.toList c) = _; rw [idx_yes h]
  have hw : wrap64 ((a.size : Int) + ((one c).size : Int)) = ((a.size + 1 : Nat) : Int) := by rw [one_size]; exact wrap_succ (show a.size < (cat a c b).size by omega) (by omega)
  have h1 : stringslite_Cut.f (cat a c b) (one c) = some (a, b, true) := by
    unfold stringslite_Cut.f
    rw [h0, Option.bind_some]
    rw [hw, if_pos (by omega), if_pos (by omega), if_pos (by omega), if_pos (by omega), if_pos (by omega), Int.toNat_natCast, Int.toNat_natCast, cat_left, cat_right]
  unfold strings_Cut.f; rw [h1]; rfl
theorem trim_yes (x : ByteArray) (c : UInt8) (hx : x.size ≤ 4611686018427387904) : strings_TrimSuffix.f (x ++ one c) (one c) = some x := by
  have hz : (x ++ one c).size = x.size + 1 := by rw [ByteArray.size_append]; rfl
  have hw : wrap64 (((x ++ one c).size : Int) - ((one c).size : Int)) = (x.size : Int) := by rw [hz, one_size, wrap_id (by omega) (by omega)]; omega
  have e1 : (x ++ one c).extract x.size (x ++ one c).size = one c := by rw [hz]; exact ByteArray.extract_append_eq_right rfl rfl
  have e2 : (x ++ one c).extract 0 x.size = x := ByteArray.extract_append_eq_left rfl
  have h0 : stringslite_HasSuffix.f (x ++ one c) (one c) = some true := by
    unfold stringslite_HasSuffix.f
    rw [hw, if_pos (by rw [hz, one_size]; omega), if_pos (by omega), if_pos (by omega), Int.toNat_natCast, e1, beq_self_eq_true]
  have h1 : stringslite_TrimSuffix.f (x ++ one c) (one c) = some x := by
    unfold stringslite_TrimSuffix.f
    rw [h0, Option.bind_some]
    rw [hw, if_pos rfl, if_pos (by omega), if_pos (by omega), Int.toNat_natCast, e2]
  unfold strings_TrimSuffix.f; rw [h1]; rfl
end Go.Proofs.YtblgaejagebeoaaDoor.X
set_option linter.unusedVariables false
set_option linter.unusedSimpArgs false
namespace Go.Proofs.YtblgaejagebeoaaDoor.X
open Go.RowKit Go.Proofs.YtblgaejagebeoaaDoorW.PrintWords Go.Proofs.YtblgaejagebeoaaDoor.E
theorem hasB_no (s : ByteArray) (h : hasB s 64 = false) : nob 64 s := by
  have h1 := contains_at s
  have h2 : strings_Contains.f s (⟨#[64]⟩ : ByteArray) = some (decide (0 ≤ Lib.indexByte s.data.toList 64)) := rfl
  rw [h1] at h2
  have h3 := Option.some.inj h2
  rw [← Lib.contains_iff_indexByte, h] at h3
  intro hm
  rw [List.contains_iff_mem.2 hm] at h3
  exact absurd h3 (by simp)
theorem rec_no64 {s r : ByteArray} (h : recB s r = true) : nob 64 s := by
  unfold recB cmdB at h
  simp only [Bool.and_eq_true, Bool.not_eq_true'] at h
  exact hasB_no s h.1.2
theorem num_no {c : UInt8} (hc : c.toNat < 48) (k : Int) (h0 : 0 ≤ k) (h1 : k ≤ 59) : nob c (numB k) := by
  have d : ∀ i : Fin 10, 48 ≤ (UInt8.ofNat (48 + i.val)).toNat := by decide
  have d10 : ∀ i : Fin 10, c ≠ UInt8.ofNat (48 + i.val) := fun i e => by have := d i; rw [← e] at this; omega
  unfold nob numB
  obtain ⟨u, rfl⟩ : ∃ u : Nat, k = u := ⟨k.toNat, by omega⟩
  rw [Lib.itoa, if_neg (by omega), Int.toNat_natCast]
  by_cases hu : u < 10
  · rw [Lib.decDigits_one hu]
    simpa using d10 ⟨u, hu⟩
  · rw [Lib.decDigits_two hu (by omega)]
    have a := d10 ⟨u / 10, by omega⟩
    have b := d10 ⟨u % 10, by omega⟩
    intro hm
    have hm : c ∈ [UInt8.ofNat (48 + u / 10), UInt8.ofNat (48 + u % 10)] := hm
    rcases List.mem_cons.1 hm with h | h
    · exact a h
    · exact b (List.mem_singleton.1 h)
theorem tl_inj {a b : ByteArray} : a.toList = b.toList ↔ a = b := ⟨fun h => ba_list (by rwa [ByteArray.toList_eq, ByteArray.toList_eq] at h), fun h => by rw [h]⟩
def Enc (k : Int) (x c r : ByteArray) : Prop := (0 ≤ k ∧ k ≤ 59) ∧ recB c r = true ∧ sealB (lineB k c r) = x
theorem line_cat (k : Int) (c r : ByteArray) : lineB k c r = cat (numB k) 32 (cat c 64 r) := by unfold lineB cat; simp only [ByteArray.append_assoc]; rfl
theorem line_pre (k : Int) (c r : ByteArray) : lineB k c r = (numB k ++ (⟨#[32]⟩ : ByteArray)) ++ cat c 64 r := by rw [line_cat]; rfl
theorem seal_cat (x : ByteArray) : sealB x = cat x 35 (numB (sumB x)) := rfl
theorem enc_nob {k : Int} {x c r : ByteArray} (h : Enc k x c r) : nob 35 (lineB k c r) := by
  obtain ⟨hs, hls, hlr, hr⟩ := recB_iff h.2.1
  have := line_no35 k c r h.1.1 h.1.2 hls hlr
  intro hm
  rw [List.contains_iff_mem.2 hm] at this
  exact absurd this (by simp)
theorem enc_has {k : Int} {x c r : ByteArray} (h : Enc k x c r) : ¬ nob 35 x := by rw [← h.2.2, seal_cat]; exact not_nob _ _ _
theorem enc_line {k : Int} {w z c r : ByteArray} (h : Enc k (cat w 35 z) c r) (hw : nob 35 w) : w = lineB k c r := by
  have e := h.2.2
  rw [seal_cat] at e
  exact (split_uniq e (enc_nob h) hw).1.symm
theorem enc_rest {k : Int} {c r a t : ByteArray} (e : lineB k c r = cat a 32 t) (h : nob 32 a) (hk : 0 ≤ k ∧ k ≤ 59) : t = cat c 64 r := by
  rw [line_cat] at e
  exact (split_uniq e (num_no (by decide) k hk.1 hk.2) h).2.symm
theorem enc_uniq {k : Int} {x c r c' r' : ByteArray} (h : Enc k x c r) (h' : Enc k x c' r') : c = c' ∧ r = r' := by
  have e := h.2.2.trans h'.2.2.symm
  rw [seal_cat, seal_cat] at e
  have e1 := (split_uniq e (enc_nob h) (enc_nob h')).1
  rw [line_cat, line_cat] at e1
  have n := num_no (c := 32) (by decide) k h.1.1 h.1.2
  exact split_uniq (split_uniq e1 n n).2 (rec_no64 h.2.1) (rec_no64 h'.2.1)
theorem idx35 (x : ByteArray) : strings_IndexByte.f x 35 = some (Lib.indexByte x.data.toList 35) := rfl
theorem verify_no {x : ByteArray} (h : nob 35 x) : Ev (fun k => impl_VerifyChecksum.f k x) ((⟨#[]⟩ : ByteArray), false) := by
  unfold impl_VerifyChecksum.f
  exact ev_bind0 ((idx35 x).trans (congrArg some (idx_no h))) (ev_pos (by omega) (ev_now rfl))
theorem verify_good {w z : ByteArray} (h : nob 35 w) (hx : (cat w 35 z).size ≤ 4194304) (ha : appB w = (cat w 35 z, true)) : Ev (fun k => impl_VerifyChecksum.f k (cat w 35 z)) (w, true) := by
  have hz := cat_size w 35 z
  unfold impl_VerifyChecksum.f
  refine ev_bind0 ((idx35 _).trans (congrArg some (idx_yes h))) (ev_neg (by omega) (ev_pos (by omega) (ev_pos (by omega) ?_)))
  rw [Int.toNat_natCast, cat_left]
  refine Ev.bind (appendChecksum_ev w (by omega)) ?_
  rw [ha]
  exact ev_pos rfl (ev_pos rfl (ev_now rfl))
theorem verify_bad {w z : ByteArray} (h : nob 35 w) (hx : (cat w 35 z).size ≤ 4194304) (ha : appB w ≠ (cat w 35 z, true)) : Ev (fun k => impl_VerifyChecksum.f k (cat w 35 z)) ((⟨#[]⟩ : ByteArray), false) := by
  have hz := cat_size w 35 z
  unfold impl_VerifyChecksum.f
  refine ev_bind0 ((idx35 _).trans (congrArg some (idx_yes h))) (ev_neg (by omega) (ev_pos (by omega) (ev_pos (by omega) ?_)))
  rw [Int.toNat_natCast, cat_left]
  refine Ev.bind (appendChecksum_ev w (by omega)) ?_
  exact ev_ite (fun c => ev_neg (fun e => ha (Prod.ext (tl_inj.1 e) c)) (ev_now rfl)) (fun _ => ev_now rfl)
theorem nob_nil (c : UInt8) : nob c (⟨#[]⟩ : ByteArray) := fun h => nomatch h
theorem dec_ev (k : Int) (x : ByteArray) (hx : x.size ≤ 4194304) : (∃ c r, Enc k x c r ∧ Ev (fun q => impl_decoded.f q k (x ++ one 10)) (c, r, true)) ∨ ((∀ c r, ¬ Enc k x c r) ∧ Ev (fun q => impl_decoded.f q k (x ++ one 10)) ((⟨#[]⟩ : ByteArray), (⟨#[]⟩ : ByteArray), false)) := by
  have htr := trim_yes x 10 (by omega)
  rcases split_or 35 x with h | ⟨w, z, rfl, hw⟩
  · refine Or.inr ⟨fun c r e => enc_has e h, ?_⟩
    unfold impl_decoded.f
    exact ev_bind0 htr (Ev.bind (verify_no h) (ev_neg (by simp) (ev_now rfl)))
  have hz := cat_size w 35 z
  by_cases ha : appB w = (cat w 35 z, true)
  case neg =>
    refine Or.inr ⟨fun c r e => ha ?_, ?_⟩
    · have h1 := app_line k c r e.1.1 e.1.2 e.2.1
      have h2 := e.2.2
      rw [← enc_line e hw] at h1 h2
      rw [h1, h2]
    · unfold impl_decoded.f
      exact ev_bind0 htr (Ev.bind (verify_bad hw hx ha) (ev_neg (by simp) (ev_now rfl)))
  obtain ⟨p, q, hp, hq, hcs, hrs, hun⟩ : ∃ p q : ByteArray × ByteArray × Bool, strings_Cut.f w (⟨#[32]⟩ : ByteArray) = some p ∧ strings_Cut.f p.2.1 (⟨#[64]⟩ : ByteArray) = some q ∧ q.1.size ≤ w.size ∧ q.2.1.size ≤ w.size ∧ ∀ c' r', lineB k c' r' = w → nob 64 c' → (0 ≤ k ∧ k ≤ 59) → c' = q.1 ∧ r' = q.2.1 := by
    rcases split_or 32 w with h32 | ⟨a, t, rfl, h32⟩
    · refine ⟨_, _, cut_no h32, cut_no (c := 64) (nob_nil 64), Nat.zero_le _, Nat.zero_le _, fun c' r' e _ _ => absurd h32 ?_⟩
      rw [← e, line_cat]; exact not_nob _ _ _
    · have hz2 := cat_size a 32 t
      rcases split_or 64 t with h64 | ⟨c, r, rfl, h64⟩
      · refine ⟨_, _, cut_yes h32 (by omega), cut_no (c := 64) h64, by show t.size ≤ _; omega, Nat.zero_le _, fun c' r' e _ hk => absurd h64 ?_⟩
        rw [enc_rest e h32 hk]; exact not_nob _ _ _
      · have hz3 := cat_size c 64 r
        refine ⟨_, _, cut_yes h32 (by omega), cut_yes (c := 64) h64 (by show (cat c 64 r).size ≤ _; omega), by show c.size ≤ _; omega, by show r.size ≤ _; omega, fun c' r' e h' hk => ?_⟩
        exact split_uniq (enc_rest e h32 hk).symm h' h64
  have henc := implEnc_ev k q.1 q.2.1 (by omega) (by omega)
  by_cases E : Enc k (cat w 35 z) q.1 q.2.1
  · refine Or.inl ⟨q.1, q.2.1, E, ?_⟩
    unfold impl_decoded.f
    refine ev_bind0 htr (Ev.bind (verify_good hw hx ha) (ev_pos rfl (ev_bind0 hp (ev_bind0 hq (Ev.bind henc ?_)))))
    have hok : encOk k q.1 q.2.1 = true := by unfold encOk; rw [decide_eq_true E.1, E.2.1]; rfl
    unfold encE
    rw [if_pos hok, E.2.2]
    exact ev_pos rfl (ev_pos rfl (ev_now rfl))
  · refine Or.inr ⟨fun c' r' e' => E ?_, ?_⟩
    · obtain ⟨e1, e2⟩ := hun c' r' (enc_line e' hw).symm (rec_no64 e'.2.1) e'.1
      rw [← e1, ← e2]; exact e'
    · unfold impl_decoded.f
      refine ev_bind0 htr (Ev.bind (verify_good hw hx ha) (ev_pos rfl (ev_bind0 hp (ev_bind0 hq (Ev.bind henc ?_)))))
      unfold encE
      by_cases hok : encOk k q.1 q.2.1 = true
      · rw [if_pos hok]
        refine ev_pos rfl (ev_neg (fun e => E ?_) (ev_now rfl))
        unfold encOk at hok
        rw [Bool.and_eq_true] at hok
        exact ⟨of_decide_eq_true hok.1, hok.2, (ba_cut (tl_inj.1 e) (by have := congrArg ByteArray.size (tl_inj.1 e); rw [ByteArray.size_append, ByteArray.size_append, one_size, szl] at this; omega)).1⟩
      · rw [if_neg hok]
        exact ev_neg (by simp) (ev_now rfl)
theorem ba_halves (t : ByteArray) (n : Nat) (hn : n ≤ t.size) : t = t.extract 0 n ++ t.extract n t.size := by
  apply ba_list
  have hl := l_len t
  rw [ba_app, ByteArray.data_extract, ByteArray.data_extract, Array.toList_extract, Array.toList_extract, List.extract_eq_take_drop, List.extract_eq_take_drop, List.drop_zero, Nat.sub_zero, List.take_of_length_le (l := List.drop n _) (by rw [List.length_drop]; omega), List.take_append_drop]
theorem read_ev (k : Int) (hk : 0 ≤ k ∧ k ≤ 59) (x : ByteArray) (hx : x.size ≤ 4194304) : (∃ c r, Enc k x c r ∧ Ev (fun q => spec_l27Read.f q x k) (c, r, true)) ∨ ((∀ c r, ¬ Enc k x c r) ∧ ∃ c r, Ev (fun q => spec_l27Read.f q x k) (c, r, false)) := by
  have hn := numB_size k (by omega) (by omega)
  obtain ⟨t, ts, hsp, hts, hE⟩ : ∃ t ts, Ev (fun q => spec_l1Split.f q x 35) (t :: ts) ∧ t.size ≤ x.size ∧ ∀ c r, Enc k x c r → t = lineB k c r := by
    rcases split_or 35 x with h | ⟨w, z, rfl, hw⟩
    · exact ⟨x, [], split_no h (by omega) 35 rfl, Nat.le_refl _, fun c r e => absurd h (enc_has e)⟩
    · obtain ⟨y, ys, hs⟩ := split_yes (b := z) hw (by omega) 35 rfl
      exact ⟨w, y :: ys, hs, by rw [cat_size]; omega, fun c r e => enc_line e hw⟩
  have hrd : rdOf ByteArray.empty (t :: ts) 0 = t := rfl
  have hah : (numB k ++ (⟨#[32]⟩ : ByteArray)).size = (numB k).size + 1 := by rw [ByteArray.size_append]; rfl
  have open_ : ∀ {r : ByteArray × ByteArray × Bool}, (((t.size : Int) < ((numB k ++ (⟨#[32]⟩ : ByteArray)).size : Int)) → Ev (fun q => spec_l27Read.j0 q x k (numB k ++ (⟨#[32]⟩ : ByteArray)) t true) r) → (¬ ((t.size : Int) < ((numB k ++ (⟨#[32]⟩ : ByteArray)).size : Int)) → Ev (fun q => spec_l27Read.j0 q x k (numB k ++ (⟨#[32]⟩ : ByteArray)) t ((t.extract 0 (numB k ++ (⟨#[32]⟩ : ByteArray)).size).toList != (numB k ++ (⟨#[32]⟩ : ByteArray)).toList)) r) → Ev (fun q => spec_l27Read.f q x k) r := by
    intro r h1 h2
    unfold spec_l27Read.f
    refine Ev.bind (l1Num_ev k (by omega) (by omega)) (ev_pos (by omega) (Ev.bind hsp (ev_pos (by simp) ?_)))
    rw [hrd]
    exact ev_ite h1 (fun c => ev_pos (by omega) (ev_pos (by omega) (h2 c)))
  by_cases hp : ∃ rest, t = (numB k ++ (⟨#[32]⟩ : ByteArray)) ++ rest
  case neg =>
    refine Or.inr ⟨fun c r e => hp ⟨cat c 64 r, by rw [hE c r e, line_pre]⟩, (⟨#[]⟩ : ByteArray), (⟨#[]⟩ : ByteArray), open_ (fun _ => Ev.step (fun k => rfl) (ev_now rfl)) (fun c => ?_)⟩
    refine Ev.step (fun k => rfl) (ev_pos ?_ (ev_now rfl))
    rw [bne_iff_ne]
    intro e
    refine hp ⟨t.extract (numB k ++ (⟨#[32]⟩ : ByteArray)).size t.size, ?_⟩
    conv => lhs; rw [ba_halves t (numB k ++ (⟨#[32]⟩ : ByteArray)).size (by omega)]
    rw [tl_inj.1 e]
  obtain ⟨rest, ht⟩ := hp
  have htz : t.size = (numB k ++ (⟨#[32]⟩ : ByteArray)).size + rest.size := by rw [ht, ByteArray.size_append]
  have e0 : t.extract 0 (numB k ++ (⟨#[32]⟩ : ByteArray)).size = numB k ++ (⟨#[32]⟩ : ByteArray) := by rw [ht]; exact ByteArray.extract_append_eq_left rfl
  have e1 : t.extract (numB k ++ (⟨#[32]⟩ : ByteArray)).size t.size = rest := by rw [htz, ht]; exact ByteArray.extract_append_eq_right rfl rfl
  have go : ∀ {r : ByteArray × ByteArray × Bool}, (∀ b, b = false → Ev (fun q => spec_l27Read.j0 q x k (numB k ++ (⟨#[32]⟩ : ByteArray)) t b) r) → Ev (fun q => spec_l27Read.f q x k) r := by
    intro r h
    refine open_ (fun c => absurd c (by omega)) (fun c => h _ ?_)
    rw [e0, bne_self_eq_false]
  have hrest : ∀ c r, Enc k x c r → rest = cat c 64 r := by
    intro c r e
    have h1 := hE c r e
    rw [ht, line_pre] at h1
    exact (ba_cut h1 rfl).2
  rcases split_or 64 rest with h64 | ⟨c, r, hc, h64⟩
  · refine Or.inr ⟨fun c r e => not_nob 64 c r (hrest c r e ▸ h64), (⟨#[]⟩ : ByteArray), (⟨#[]⟩ : ByteArray), go (fun bb hbb => ?_)⟩
    refine Ev.step (fun k => rfl) (ev_neg (by rw [hbb]; simp) (ev_pos (by omega) (ev_pos (by omega) ?_)))
    rw [e1]
    exact Ev.bind (split_no h64 (by omega) 64 rfl) (ev_pos (by simp) (ev_pos rfl (ev_now rfl)))
  have hcz := cat_size c 64 r
  rw [← hc] at hcz
  obtain ⟨y, ys, hs⟩ := split_yes (b := r) h64 (by rw [← hc]; omega) 64 rfl
  rw [← hc] at hs
  have hw : wrap64 ((c.size : Int) + 1) = ((c.size + 1 : Nat) : Int) := wrap_succ (show c.size < rest.size by omega) (by omega)
  have e2 : rest.extract (c.size + 1) rest.size = r := by rw [hc]; exact cat_right c 64 r
  have hrd2 : rdOf ByteArray.empty (c :: y :: ys) 0 = c := rfl
  have hgood := l27Good_ev c r (by omega) (by omega)
  have go2 : ∀ {o : ByteArray × ByteArray × Bool}, (recB c r = true → Ev (fun q => (spec_l27Line.f q k c r).bind fun t113 => if x.size + 1 ≤ 9223372036854775807 then some (c, r, t113.toList == (x ++ (⟨#[10]⟩ : ByteArray)).toList) else none) o) → (¬ recB c r = true → o = (c, r, false)) → Ev (fun q => spec_l27Read.f q x k) o := by
    intro o h1 h2
    refine go (fun bb hbb => Ev.step (fun k => rfl) (ev_neg (by rw [hbb]; simp) (ev_pos (by omega) (ev_pos (by omega) ?_))))
    rw [e1]
    refine Ev.bind hs ?_
    rw [hrd2, hw, Int.toNat_natCast, e2]
    refine ev_pos (by rw [List.length_cons]; omega) (ev_neg (by omega) (ev_pos (by omega) (ev_pos (by omega) (Ev.bind hgood (ev_ite h1 (fun c => ev_now (h2 c).symm))))))
  by_cases E : Enc k x c r
  · refine Or.inl ⟨c, r, E, go2 (fun h => ?_) (fun h => absurd E.2.1 h)⟩
    obtain ⟨hs1, hls, hlr, hr1⟩ := recB_iff h
    refine Ev.bind (l27Line_ev k c r hk.1 hk.2 hs1.2 hr1) (ev_pos (by omega) (ev_now ?_))
    rw [E.2.2, beq_self_eq_true]
  · refine Or.inr ⟨fun c' r' e' => E ?_, c, r, go2 (fun h => ?_) (fun _ => rfl)⟩
    · have h1 := hrest c' r' e'
      rw [hc] at h1
      obtain ⟨rfl, rfl⟩ := split_uniq h1 h64 (rec_no64 e'.2.1)
      exact e'
    · obtain ⟨hs1, hls, hlr, hr1⟩ := recB_iff h
      refine Ev.bind (l27Line_ev k c r hk.1 hk.2 hs1.2 hr1) (ev_pos (by omega) (ev_now ?_))
      have : ((sealB (lineB k c r) ++ (⟨#[10]⟩ : ByteArray)).toList == (x ++ (⟨#[10]⟩ : ByteArray)).toList) = false := by
        rw [beq_eq_false_iff_ne]
        intro e
        exact E ⟨hk, h, (ba_cut (tl_inj.1 e) (by have := congrArg ByteArray.size (tl_inj.1 e); rw [ByteArray.size_append, ByteArray.size_append, szl] at this; omega)).1⟩
      rw [this]
end Go.Proofs.YtblgaejagebeoaaDoor.X
set_option linter.unusedVariables false
set_option linter.unusedSimpArgs false
namespace Go.Proofs.YtblgaejagebeoaaDoor.X
open Go.RowKit Go.Proofs.YtblgaejagebeoaaDoorW.PrintWords Go.Proofs.YtblgaejagebeoaaDoor.E
def Stop (k : Nat) (t : ByteArray) : Prop := ∀ a b, t = cat a 10 b → nob 10 a → ∀ c r, ¬ Enc (k : Int) a c r
def Parse : Nat → ByteArray → List S27 → ByteArray → Prop
  | k, s, [], t => s = t ∧ Stop k t
  | k, s, e :: L, t => ∃ a b, s = cat a 10 b ∧ nob 10 a ∧ Enc (k : Int) a e.f0 e.f1 ∧ Parse (k + 1) b L t
theorem parse_ex : ∀ (n : Nat) (s : ByteArray) (k : Nat), s.size ≤ n → ∃ L t, Parse k s L t := by
  intro n
  induction n with
  | zero =>
    intro s k hs
    refine ⟨[], s, rfl, fun a b e _ => ?_⟩
    rw [e, cat_size] at hs; omega
  | succ n ih =>
    intro s k hs
    rcases split_or 10 s with h | ⟨a, b, rfl, ha⟩
    · exact ⟨[], s, rfl, fun a b e _ => absurd h (by rw [e]; exact not_nob _ _ _)⟩
    by_cases hE : ∃ c r, Enc (k : Int) a c r
    · obtain ⟨c, r, hE⟩ := hE
      rw [cat_size] at hs
      obtain ⟨L, t, h⟩ := ih b (k + 1) (by omega)
      exact ⟨⟨c, r⟩ :: L, t, a, b, rfl, ha, hE, h⟩
    · refine ⟨[], cat a 10 b, rfl, fun a' b' e ha' c r h => hE ⟨c, r, ?_⟩⟩
      rw [(split_uniq e ha ha').1]; exact h
theorem parse_uniq : ∀ (L L' : List S27) (k : Nat) (s t t' : ByteArray), Parse k s L t → Parse k s L' t' → L = L' ∧ t = t'
  | [], [], k, s, t, t', h, h' => ⟨rfl, h.1.symm.trans h'.1⟩
  | [], e :: L', k, s, t, t', h, h' => by
    obtain ⟨a, b, e1, e2, e3, _⟩ := h'
    exact absurd e3 (h.2 a b (h.1.symm.trans e1) e2 _ _)
  | e :: L, [], k, s, t, t', h, h' => by
    obtain ⟨a, b, e1, e2, e3, _⟩ := h
    exact absurd e3 (h'.2 a b (h'.1.symm.trans e1) e2 _ _)
  | e :: L, e' :: L', k, s, t, t', h, h' => by
    obtain ⟨a, b, e1, e2, e3, e4⟩ := h
    obtain ⟨a', b', f1, f2, f3, f4⟩ := h'
    obtain ⟨rfl, rfl⟩ := split_uniq (e1.symm.trans f1) e2 f2
    obtain ⟨g1, g2⟩ := enc_uniq e3 f3
    obtain ⟨rfl, rfl⟩ := parse_uniq L L' (k + 1) b t t' e4 f4
    obtain ⟨x0, x1⟩ := e
    obtain ⟨y0, y1⟩ := e'
    obtain rfl : x0 = y0 := g1
    obtain rfl : x1 = y1 := g2
    exact ⟨rfl, rfl⟩
def lsz (k : Nat) (e : S27) : Nat := (sealB (lineB (k : Int) e.f0 e.f1)).size + 1
def sizeL : Nat → List S27 → Nat
  | _, [] => 0
  | k, e :: L => lsz k e + sizeL (k + 1) L
def endsL : Nat → Nat → List S27 → List Int
  | _, _, [] => []
  | k, p, e :: L => ((p + lsz k e : Nat) : Int) :: endsL (k + 1) (p + lsz k e) L
theorem enc_lsz {k : Nat} {a : ByteArray} {e : S27} (h : Enc (k : Int) a e.f0 e.f1) : a.size + 1 = lsz k e := by unfold lsz; rw [h.2.2]
theorem enc_small {k : Nat} {a : ByteArray} {e : S27} (h : Enc (k : Int) a e.f0 e.f1) : lsz k e ≤ 425 ∧ k ≤ 59 := by
  obtain ⟨hs, hls, hlr, hr⟩ := recB_iff h.2.1
  have h1 := line_size k e.f0 e.f1 h.1.1 h.1.2 hs.2 hr
  have h2 := sum_size (lineB k e.f0 e.f1)
  have h3 := h.1.2
  refine ⟨?_, by omega⟩
  unfold lsz sealB
  rw [ByteArray.size_append, ByteArray.size_append, szl]
  omega
theorem parse_size : ∀ (L : List S27) (k : Nat) (s t : ByteArray), Parse k s L t → s.size = sizeL k L + t.size
  | [], k, s, t, h => by rw [h.1, sizeL, Nat.zero_add]
  | e :: L, k, s, t, h => by
    obtain ⟨a, b, e1, e2, e3, e4⟩ := h
    have := parse_size L (k + 1) b t e4
    rw [e1, cat_size, sizeL, ← enc_lsz e3]
    omega
theorem parse_len : ∀ (L : List S27) (k : Nat) (s t : ByteArray), Parse k s L t → k ≤ 60 → k + L.length ≤ 60 ∧ sizeL k L ≤ 425 * L.length
  | [], k, s, t, h, hk => ⟨hk, Nat.zero_le _⟩
  | e :: L, k, s, t, h, hk => by
    obtain ⟨a, b, e1, e2, e3, e4⟩ := h
    have h1 := enc_small e3
    have := parse_len L (k + 1) b t e4 (by omega)
    rw [sizeL, List.length_cons]
    omega
theorem ends_len : ∀ (L : List S27) (k p : Nat), (endsL k p L).length = L.length
  | [], _, _ => rfl
  | e :: L, k, p => by rw [endsL, List.length_cons, List.length_cons, ends_len L]
theorem ends_last : ∀ (L : List S27) (k p : Nat), L ≠ [] → (endsL k p L).getD (L.length - 1) 0 = ((p + sizeL k L : Nat) : Int)
  | [], _, _, h => absurd rfl h
  | [e], k, p, _ => rfl
  | e :: e' :: L, k, p, _ => by
    have := ends_last (e' :: L) (k + 1) (p + lsz k e) (by simp)
    rw [endsL, sizeL, ← Nat.add_assoc, ← this]
    rfl
theorem ext_mid (p m b : ByteArray) : ((p ++ m) ++ b).extract p.size (p.size + m.size) = m := by
  apply ba_list
  have h1 := l_len p
  have h2 := l_len m
  rw [ByteArray.data_extract, Array.toList_extract, List.extract_eq_take_drop, ba_app, ba_app, List.append_assoc, List.drop_left' h1, List.take_left' (by omega)]
theorem ext_end (p b : ByteArray) : (p ++ b).extract p.size (p ++ b).size = b := by rw [ByteArray.size_append]; exact ByteArray.extract_append_eq_right rfl rfl
theorem idx10 (x : ByteArray) : strings_IndexByte.f x 10 = some (Lib.indexByte x.data.toList 10) := rfl
theorem impl_loop : ∀ (L : List S27) (k : Nat) (b t : ByteArray), Parse k b L t → ∀ (x pre : ByteArray) (L0 : List S27) (E0 : List Int), x = pre ++ b → x.size ≤ 4194304 → L0.length = k → E0.length ≤ k → k ≤ 60 → Ev (fun q => impl_readRecords.l0 q x L0 E0 (pre.size : Int)) (L0 ++ L, E0 ++ endsL k pre.size L) := by
  have start : ∀ (a b x pre : ByteArray) (L0 : List S27) (E0 : List Int), nob 10 a → x = pre ++ cat a 10 b → x.size ≤ 4194304 → ∀ {o : List S27 × List Int}, Ev (fun q => (impl_decoded.f q (L0.length : Int) (a ++ one 10)).bind fun bt108 => (if bt108.2.2 = true then (if L0.length < 4398046511104 then (if E0.length < 17592186044416 then (impl_readRecords.l0 q x (L0 ++ [(⟨bt108.1, bt108.2.1⟩ : S27)]) (E0 ++ [((pre.size + (a.size + 1) : Nat) : Int)]) ((pre.size + (a.size + 1) : Nat) : Int)) else (none)) else (none)) else (some (L0, E0)))) o → Ev (fun q => impl_readRecords.l0 q x L0 E0 (pre.size : Int)) o := by
    intro a b x pre L0 E0 ha hx hs o h
    have hz : x.size = pre.size + (a.size + 1 + b.size) := by rw [hx, ByteArray.size_append, cat_size]
    have e1 : x.extract pre.size x.size = cat a 10 b := by rw [hx]; exact ext_end _ _
    have w1 : wrap64 ((pre.size : Int) + (a.size : Int)) = (pre.size : Int) + (a.size : Int) := wrap_id (by omega) (by omega)
    have w2 : wrap64 ((pre.size : Int) + (a.size : Int) + 1) = ((pre.size + (a.size + 1) : Nat) : Int) := by rw [wrap_id (by omega) (by omega)]; omega
    have w3 : wrap64 ((a.size : Int) + 1) = ((a.size + 1 : Nat) : Int) := wrap_succ (show a.size < x.size by omega) (by omega)
    have w4 : wrap64 ((pre.size : Int) + ((a.size + 1 : Nat) : Int)) = ((pre.size + (a.size + 1) : Nat) : Int) := by rw [wrap_id (by omega) (by omega)]; omega
    have e2 : x.extract pre.size (pre.size + (a.size + 1)) = a ++ one 10 := by
      rw [hx]
      have := ext_mid pre (a ++ one 10) b
      rw [ByteArray.append_assoc, ByteArray.size_append, one_size] at this
      exact this
    refine Ev.step (fun k => rfl) (ev_pos (by omega) (ev_pos (by omega) ?_))
    rw [Int.toNat_natCast, e1]
    refine ev_bind0 ((idx10 _).trans (congrArg some (idx_yes ha))) (ev_neg (by omega) ?_)
    rw [w1, w2, w3, w4]
    refine ev_pos (by omega) (ev_pos (by omega) ?_)
    rw [Int.toNat_natCast, e2]
    exact h
  intro L
  induction L with
  | nil =>
    intro k b t hP x pre L0 E0 hx hs hL hE hk
    obtain ⟨rfl, hst⟩ := hP
    rw [endsL, List.append_nil, List.append_nil]
    have hz : x.size = pre.size + b.size := by rw [hx, ByteArray.size_append]
    rcases split_or 10 b with h | ⟨a, b', rfl, ha⟩
    · have e1 : x.extract pre.size x.size = b := by rw [hx]; exact ext_end _ _
      refine Ev.step (fun k => rfl) (ev_pos (by omega) (ev_pos (by omega) ?_))
      rw [Int.toNat_natCast, e1]
      exact ev_bind0 ((idx10 _).trans (congrArg some (idx_no h))) (ev_pos (by omega) (ev_now rfl))
    · refine start a b' x pre L0 E0 ha hx hs ?_
      have hz2 := cat_size a 10 b'
      rcases dec_ev (L0.length : Int) a (by omega) with ⟨c, r, he, _⟩ | ⟨_, hv⟩
      · rw [hL] at he
        exact absurd he (hst a b' rfl ha c r)
      · exact Ev.bind hv (ev_neg (by simp) (ev_now rfl))
  | cons e L ih =>
    intro k b t hP x pre L0 E0 hx hs hL hE hk
    obtain ⟨a, b', rfl, ha, he, hP'⟩ := hP
    have hz2 := cat_size a 10 b'
    have hz : x.size = pre.size + (cat a 10 b').size := by rw [hx, ByteArray.size_append]
    have hsm := enc_small he
    refine start a b' x pre L0 E0 ha hx hs ?_
    rcases dec_ev (L0.length : Int) a (by omega) with ⟨c, r, he', hv⟩ | ⟨hno, _⟩
    · rw [hL] at he'
      obtain ⟨rfl, rfl⟩ := enc_uniq he' he
      refine Ev.bind hv (ev_pos rfl (ev_pos (by omega) (ev_pos (by omega) ?_)))
      have h := ih (k + 1) b' t hP' x (pre ++ (a ++ one 10)) (L0 ++ [e]) (E0 ++ [((pre.size + (a.size + 1) : Nat) : Int)]) (by rw [hx]; unfold cat; rw [ByteArray.append_assoc, ByteArray.append_assoc, ByteArray.append_assoc]) hs (by rw [List.length_append, hL]; rfl) (by rw [List.length_append, List.length_singleton]; omega) (by omega)
      have hps : (pre ++ (a ++ one 10)).size = pre.size + (a.size + 1) := by rw [ByteArray.size_append, ByteArray.size_append, one_size]
      rw [hps, List.append_assoc, List.append_assoc] at h
      rw [endsL, ← enc_lsz he]
      exact h
    · rw [hL] at hno
      exact absurd he (hno _ _)
theorem spec_loop : ∀ (L : List S27) (k : Nat) (b t : ByteArray), Parse k b L t → ∀ (x pre : ByteArray) (L0 : List S27), x = pre ++ b → x.size ≤ 4194304 → L0.length = k → k ≤ 60 → Ev (fun q => spec_l27Open.l0 q x L0 (pre.size : Int)) (L0 ++ L, ((pre.size + sizeL k L : Nat) : Int)) := by
  have stop : ∀ (x pre : ByteArray) (L0 : List S27), Ev (fun q => spec_l27Open.j1 q x L0 (pre.size : Int) false) (L0, (pre.size : Int)) := fun x pre L0 => Ev.step (fun k => rfl) (ev_now rfl)
  intro L
  induction L with
  | nil =>
    intro k b t hP x pre L0 hx hs hL hk
    obtain ⟨rfl, hst⟩ := hP
    rw [sizeL, List.append_nil, Nat.add_zero]
    have hz : x.size = pre.size + b.size := by rw [hx, ByteArray.size_append]
    have e1 : x.extract pre.size x.size = b := by rw [hx]; exact ext_end _ _
    refine Ev.step (fun k => rfl) (ev_ite (fun c => ?_) (fun _ => stop _ _ _))
    by_cases h60 : L0.length < 60
    case neg => rw [decide_eq_false (by omega)]; exact stop _ _ _
    refine Ev.step (fun k => rfl) (ev_pos (decide_eq_true (by omega)) (ev_pos (by omega) (ev_pos (by omega) ?_)))
    rw [Int.toNat_natCast, e1]
    rcases split_or 10 b with h | ⟨a, b', rfl, ha⟩
    · obtain ⟨c, r, o, hv⟩ : ∃ c r o, Ev (fun q => spec_l27Read.f q b (L0.length : Int)) (c, r, o) := by
        rcases read_ev (L0.length : Int) (by omega) b (by omega) with ⟨c, r, _, hv⟩ | ⟨_, c, r, hv⟩
        · exact ⟨c, r, _, hv⟩
        · exact ⟨c, r, _, hv⟩
      exact Ev.bind (split_no h (by omega) 10 rfl) (ev_pos (by simp) (Ev.bind hv (ev_pos (by simp) (ev_now rfl))))
    · have hz2 := cat_size a 10 b'
      obtain ⟨y, ys, hsp⟩ := split_yes (b := b') ha (by omega) 10 rfl
      refine Ev.bind hsp (ev_pos (by rw [List.length_cons]; omega) ?_)
      rcases read_ev (L0.length : Int) (by omega) a (by omega) with ⟨c, r, he, _⟩ | ⟨_, c, r, hv⟩
      · rw [hL] at he
        exact absurd he (hst a b' rfl ha c r)
      · exact Ev.bind hv (ev_neg (by rw [List.length_cons, List.length_cons]; omega) (ev_neg (by simp) (ev_now rfl)))
  | cons e L ih =>
    intro k b t hP x pre L0 hx hs hL hk
    obtain ⟨a, b', rfl, ha, he, hP'⟩ := hP
    have hz2 := cat_size a 10 b'
    have hz : x.size = pre.size + (cat a 10 b').size := by rw [hx, ByteArray.size_append]
    have e1 : x.extract pre.size x.size = cat a 10 b' := by rw [hx]; exact ext_end _ _
    have hsm := enc_small he
    have w1 : wrap64 ((pre.size : Int) + (a.size : Int)) = (pre.size : Int) + (a.size : Int) := wrap_id (by omega) (by omega)
    have w2 : wrap64 ((pre.size : Int) + (a.size : Int) + 1) = ((pre.size + (a.size + 1) : Nat) : Int) := by rw [wrap_id (by omega) (by omega)]; omega
    refine Ev.step (fun k => rfl) (ev_pos (by omega) ?_)
    refine Ev.step (fun k => rfl) (ev_pos (decide_eq_true (by omega)) (ev_pos (by omega) (ev_pos (by omega) ?_)))
    rw [Int.toNat_natCast, e1]
    obtain ⟨y, ys, hsp⟩ := split_yes (b := b') ha (by omega) 10 rfl
    have hrd : rdOf ByteArray.empty (a :: y :: ys) 0 = a := rfl
    refine Ev.bind hsp (ev_pos (by rw [List.length_cons]; omega) ?_)
    rw [hrd, w1, w2]
    rcases read_ev (L0.length : Int) (by omega) a (by omega) with ⟨c, r, he', hv⟩ | ⟨hno, _⟩
    · rw [hL] at he'
      obtain ⟨rfl, rfl⟩ := enc_uniq he' he
      refine Ev.bind hv (ev_neg (by rw [List.length_cons, List.length_cons]; omega) (ev_pos rfl (ev_pos (by omega) ?_)))
      have h := ih (k + 1) b' t hP' x (pre ++ (a ++ one 10)) (L0 ++ [e]) (by rw [hx]; unfold cat; rw [ByteArray.append_assoc, ByteArray.append_assoc, ByteArray.append_assoc]) hs (by rw [List.length_append, hL]; rfl) (by omega)
      have hps : (pre ++ (a ++ one 10)).size = pre.size + (a.size + 1) := by rw [ByteArray.size_append, ByteArray.size_append, one_size]
      rw [hps, List.append_assoc, Nat.add_assoc pre.size (a.size + 1)] at h
      rw [sizeL, ← enc_lsz he]
      exact h
    · rw [hL] at hno
      exact absurd he (hno _ _)
theorem nil_app (s : ByteArray) : s = (⟨#[]⟩ : ByteArray) ++ s := ba_list (by rw [ba_app]; rfl)
theorem implRead_ev (s : ByteArray) (L : List S27) (t : ByteArray) (h : Parse 0 s L t) (hs : s.size ≤ 4194304) : Ev (fun q => impl_readRecords.f q s) (L, endsL 0 0 L) := impl_loop L 0 s t h s (⟨#[]⟩ : ByteArray) [] [] (nil_app s) hs rfl (Nat.le_refl _) (by omega)
theorem specOpen_ev (s : ByteArray) (L : List S27) (t : ByteArray) (h : Parse 0 s L t) (hs : s.size ≤ 4194304) : Ev (fun q => spec_l27Open.f q s) (L, (sizeL 0 L : Int)) := by
  have h := spec_loop L 0 s t h s (⟨#[]⟩ : ByteArray) [] (nil_app s) hs rfl (by omega)
  rw [show (⟨#[]⟩ : ByteArray).size = 0 from rfl, Nat.zero_add, List.nil_append] at h
  exact h
end Go.Proofs.YtblgaejagebeoaaDoor.X
set_option linter.unusedVariables false
set_option linter.unusedSimpArgs false
namespace Go.Proofs.YtblgaejagebeoaaDoor.X
open Go.RowKit Go.Proofs.YtblgaejagebeoaaDoorW.PrintWords Go.Proofs.YtblgaejagebeoaaDoor.E
theorem app_cat (a : ByteArray) (c : UInt8) (b P : ByteArray) : cat a c b ++ P = cat a c (b ++ P) := by unfold cat; rw [ByteArray.append_assoc]
theorem stop_nil (k : Nat) : Stop k (⟨#[]⟩ : ByteArray) := by
  intro a b e _
  have := congrArg ByteArray.size e
  rw [cat_size, show (⟨#[]⟩ : ByteArray).size = 0 from rfl] at this
  omega
theorem size_nil {t : ByteArray} (h : t.size = 0) : t = (⟨#[]⟩ : ByteArray) := ba_list (by
  have := l_len t
  rw [List.eq_nil_of_length_eq_zero (by omega : t.data.toList.length = 0)])
theorem parse_app : ∀ (L1 : List S27) (k : Nat) (D P : ByteArray) (L2 : List S27) (t : ByteArray), Parse k D L1 (⟨#[]⟩ : ByteArray) → Parse (k + L1.length) P L2 t → Parse k (D ++ P) (L1 ++ L2) t
  | [], k, D, P, L2, t, h, h' => by rw [h.1, ← nil_app]; exact h'
  | e :: L1, k, D, P, L2, t, h, h' => by
    obtain ⟨a, b, e1, e2, e3, e4⟩ := h
    refine ⟨a, b ++ P, by rw [e1, app_cat], e2, e3, parse_app L1 (k + 1) b P L2 t e4 ?_⟩
    rw [List.length_cons] at h'
    rw [show k + 1 + L1.length = k + (L1.length + 1) by omega]
    exact h'
theorem ends_gt : ∀ (L : List S27) (k p : Nat) (x : Int), x ∈ endsL k p L → (p : Int) < x
  | [], _, _, x, h => nomatch h
  | e :: L, k, p, x, h => by
    rw [endsL] at h
    have hl : 0 < lsz k e := Nat.succ_pos _
    rcases List.mem_cons.1 h with rfl | h
    · omega
    · have := ends_gt L (k + 1) (p + lsz k e) x h
      omega
theorem ends_has : ∀ (L1 L2 : List S27) (k p : Nat), L1 ≠ [] → ((p + sizeL k L1 : Nat) : Int) ∈ endsL k p (L1 ++ L2)
  | [], _, _, _, h => absurd rfl h
  | [e], L2, k, p, _ => by
    rw [List.cons_append, endsL, sizeL, sizeL, Nat.add_zero]
    exact List.mem_cons_self ..
  | e :: e' :: L1, L2, k, p, _ => by
    have := ends_has (e' :: L1) L2 (k + 1) (p + lsz k e) (by simp)
    rw [List.cons_append, endsL, sizeL, ← Nat.add_assoc]
    exact List.mem_cons_of_mem _ this
theorem ends_cut : ∀ (L : List S27) (k p : Nat) (D P t : ByteArray), Parse k (D ++ P) L t → ((p + D.size : Nat) : Int) ∈ endsL k p L → ∃ L1, Parse k D L1 (⟨#[]⟩ : ByteArray)
  | [], _, _, _, _, _, _, h => nomatch h
  | e :: L, k, p, D, P, t, hP, h => by
    obtain ⟨a, b, e1, e2, e3, e4⟩ := hP
    have hz := enc_lsz e3
    have hsp : (a ++ one 10).size = a.size + 1 := by rw [ByteArray.size_append]; rfl
    rw [endsL] at h
    rcases List.mem_cons.1 h with h | h
    · have hD : D = a ++ one 10 := (ba_cut (b := P) (b' := b) e1 (by omega)).1
      refine ⟨[e], a, (⟨#[]⟩ : ByteArray), ?_, e2, e3, rfl, stop_nil _⟩
      rw [hD]; unfold cat; apply ba_list; rw [ba_app (a ++ one 10)]; simp
    · have h1 := ends_gt L (k + 1) (p + lsz k e) _ h
      have hh := ba_halves D (a.size + 1) (by omega)
      have hs1 : (D.extract 0 (a.size + 1)).size = a.size + 1 := by rw [ByteArray.size_extract]; omega
      have hs2 : (D.extract (a.size + 1) D.size).size = D.size - (a.size + 1) := by rw [ByteArray.size_extract]; omega
      have e5 : D.extract 0 (a.size + 1) ++ (D.extract (a.size + 1) D.size ++ P) = (a ++ one 10) ++ b := by
        rw [← ByteArray.append_assoc, ← hh]; exact e1
      obtain ⟨f1, f2⟩ := ba_cut e5 (by omega)
      rw [← f2] at e4
      obtain ⟨L1, hL⟩ := ends_cut L (k + 1) (p + lsz k e) (D.extract (a.size + 1) D.size) P t e4 (by
        rw [hs2, show p + lsz k e + (D.size - (a.size + 1)) = p + D.size by omega]; exact h)
      refine ⟨e :: L1, a, D.extract (a.size + 1) D.size, ?_, e2, e3, hL⟩
      unfold cat
      rw [← f1]; exact hh
def foldG (d : Int) (s : Bool × Int) (e : Int) : Bool × Int := (s.1 || e == d, e)
theorem fold1 (d : Int) : ∀ (r : List Int) (b : Bool) (v : Int), (r.foldl (foldG d) (b, v)).1 = (b || r.any (fun e => e == d))
  | [], b, v => by simp
  | e :: r, b, v => by
    rw [List.foldl_cons, foldG, fold1 d r, List.any_cons, Bool.or_assoc]
theorem fold2 (d : Int) : ∀ (r : List Int) (b : Bool) (v : Int), (r.foldl (foldG d) (b, v)).2 = r.getD (r.length - 1) v
  | [], b, v => rfl
  | [e], b, v => rfl
  | e :: e' :: r, b, v => by
    rw [List.foldl_cons, foldG, fold2 d (e' :: r)]
    show (e' :: r).getD r.length e = (e :: e' :: r).getD (r.length + 1) v
    rw [getD_in (by simp) e, getD_in (by simp) v]
    rfl
theorem readLoop (x4 : ByteArray) (x5 : List S27) (D P : ByteArray) (n : Int) (en : List Int) (hen : en.length ≤ 9223372036854775807) : ∀ (m i : Nat) (b : Bool) (v : Int), en.length - i = m → i ≤ en.length → Ev (fun q => impl_readLog.l0 q x4 x5 b v en (en.length : Int) (i : Int) D P n) (x5, ((en.drop i).foldl (foldG D.size) (b, v)).1 && (decide (((en.drop i).foldl (foldG D.size) (b, v)).2 = (x4.size : Int)) && ((x5.length : Int) == n))) := by
  intro m
  induction m with
  | zero =>
    intro i b v hm hi
    obtain rfl : i = en.length := by omega
    rw [List.drop_length, List.foldl_nil]
    refine Ev.step (fun k => rfl) (ev_neg (by omega) (ev_ite (fun c => ev_ite (fun d => ev_now ?_) (fun d => ev_now ?_)) (fun c => ev_now ?_)))
    · rw [c, decide_eq_true d]; rfl
    · rw [c, decide_eq_false d]; rfl
    · rw [Bool.not_eq_true] at c; rw [c]; rfl
  | succ m ih =>
    intro i b v hm hi
    have hlt : i < en.length := by omega
    have hrd : rd en (i : Int) = en[i] := by rw [rd_nat]; exact getD_in hlt 0
    rw [List.drop_eq_getElem_cons hlt, List.foldl_cons]
    have h1 := ih (i + 1) (b || en[i] == (D.size : Int)) en[i] (by omega) (by omega)
    refine Ev.step (fun k => rfl) (ev_pos (by omega) (ev_pos (by omega) (ev_pos (by omega) ?_)))
    rw [wrap_succ hlt hen, hrd]
    refine ev_ite (fun c => ?_) (fun c => ?_)
    · rw [c, Bool.true_or] at h1
      rw [foldG, c, Bool.true_or]
      exact h1
    · rw [Bool.not_eq_true] at c
      rw [c, Bool.false_or] at h1
      rw [foldG, c, Bool.false_or]
      exact h1
theorem log_ev (D P : ByteArray) (n : Int) (hs : D.size + P.size ≤ 4194304) : ∃ b L, Ev (fun k => spec_l27Log.f k D P n) b ∧ Ev (fun k => impl_readLog.f k D P n) (L, b) ∧ (b = true → Parse 0 (D ++ P) L (⟨#[]⟩ : ByteArray) ∧ (L.length : Int) = n) := by
  obtain ⟨L, t, hL⟩ := parse_ex (D ++ P).size (D ++ P) 0 (Nat.le_refl _)
  obtain ⟨L1, t1, hL1⟩ := parse_ex D.size D 0 (Nat.le_refl _)
  have hz : (D ++ P).size = D.size + P.size := ByteArray.size_append
  have hzL := parse_size L 0 _ t hL
  have hzL1 := parse_size L1 0 _ t1 hL1
  have hn := parse_len L 0 _ t hL (by omega)
  have hel := ends_len L 0 0
  have hw : wrap64 ((D.size : Int) + (P.size : Int)) = (D.size : Int) + (P.size : Int) := wrap_id (by omega) (by omega)
  have himpl : Ev (fun k => impl_readLog.f k D P n) (L, (((D.size : Int) == 0) || (endsL 0 0 L).any (fun e => e == (D.size : Int))) && (decide ((sizeL 0 L : Int) = ((D ++ P).size : Int)) && ((L.length : Int) == n))) := by
    unfold impl_readLog.f
    refine ev_pos (by omega) (Ev.bind (implRead_ev (D ++ P) L t hL (by omega)) ?_)
    have h := readLoop (D ++ P) L D P n (endsL 0 0 L) (by omega) _ 0 ((D.size : Int) == 0) 0 rfl (Nat.zero_le _)
    rw [List.drop_zero, fold1, fold2] at h
    have hl : (endsL 0 0 L).getD ((endsL 0 0 L).length - 1) 0 = (sizeL 0 L : Int) := by
      rcases L with _ | ⟨e, L⟩
      · rfl
      · rw [ends_len, ends_last _ 0 0 (by simp), Nat.zero_add]
    rw [hl] at h
    exact h
  by_cases hA : sizeL 0 L = D.size + P.size
  case neg =>
    refine ⟨false, L, ?_, ?_, fun h => nomatch h⟩
    · unfold spec_l27Log.f
      rw [hw]
      refine ev_ite (fun _ => ev_now rfl) (fun _ => ev_pos (by omega) (Ev.bind (specOpen_ev _ L t hL (by omega)) (Ev.bind (specOpen_ev _ L1 t1 hL1 (by omega)) (ev_neg (by omega) (ev_now rfl)))))
    · refine ev_cast himpl ?_
      rw [decide_eq_false (by omega)]; simp
  have ht : t = (⟨#[]⟩ : ByteArray) := size_nil (by omega)
  subst ht
  have key : sizeL 0 L1 = D.size ↔ (((D.size : Int) == 0) || (endsL 0 0 L).any (fun e => e == (D.size : Int))) = true := by
    rw [Bool.or_eq_true, beq_iff_eq, List.any_eq_true]
    constructor
    · intro h
      have ht1 : t1 = (⟨#[]⟩ : ByteArray) := size_nil (by omega)
      subst ht1
      obtain ⟨L2, t2, hL2⟩ := parse_ex P.size P (0 + L1.length) (Nat.le_refl _)
      have h3 := parse_app L1 0 D P L2 t2 hL1 hL2
      obtain ⟨rfl, _⟩ := parse_uniq _ _ 0 _ _ _ hL h3
      rcases L1 with _ | ⟨e, L1⟩
      · left
        rw [sizeL] at h
        omega
      · right
        have := ends_has (e :: L1) L2 0 0 (by simp)
        rw [h, Nat.zero_add] at this
        exact ⟨_, this, beq_self_eq_true _⟩
    · rintro (h | ⟨x, hx, e⟩)
      · have hD : D.size = 0 := by omega
        rw [hD] at hzL1
        omega
      · rw [beq_iff_eq] at e
        subst e
        obtain ⟨L3, h3⟩ := ends_cut L 0 0 D P _ hL (by rw [Nat.zero_add]; exact hx)
        obtain ⟨rfl, rfl⟩ := parse_uniq _ _ 0 _ _ _ hL1 h3
        rw [show (⟨#[]⟩ : ByteArray).size = 0 from rfl] at hzL1
        omega
  refine ⟨_, L, ?_, himpl, fun h => ⟨hL, ?_⟩⟩
  · unfold spec_l27Log.f
    rw [hw]
    refine ev_neg (by omega) (ev_pos (by omega) (Ev.bind (specOpen_ev _ L _ hL (by omega)) (Ev.bind (specOpen_ev _ L1 t1 hL1 (by omega)) (ev_pos (by omega) ?_))))
    rw [decide_eq_true (show (sizeL 0 L : Int) = ((D ++ P).size : Int) by omega), Bool.true_and]
    refine ev_ite (fun c => ev_now ?_) (fun c => ev_now ?_)
    · rw [key.1 (by omega), Bool.true_and]
    · have : (((D.size : Int) == 0) || (endsL 0 0 L).any (fun e => e == (D.size : Int))) = false := by
        rw [Bool.eq_false_iff]; intro h; have := key.2 h; omega
      rw [this]; rfl
  · rw [Bool.and_eq_true, Bool.and_eq_true] at h
    exact beq_iff_eq.1 h.2.2
end Go.Proofs.YtblgaejagebeoaaDoor.X
set_option linter.unusedVariables false
set_option linter.unusedSimpArgs false
namespace Go.Proofs.YtblgaejagebeoaaDoor.X
open Go.RowKit Go.Proofs.YtblgaejagebeoaaDoorW.PrintWords Go.Proofs.YtblgaejagebeoaaDoor.E
theorem markLoop : ∀ (n : Nat) (x : Int) (s : ByteArray), x.toNat = n → 0 ≤ x → s.size + n ≤ 4611686018427387905 → ∃ r, Ev (fun k => laws_markText.l0 k x s) r := by
  intro n
  induction n using Nat.strongRecOn with
  | _ n ih =>
    intro x s hn h0 hb
    by_cases c : x > 0
    · have hs : (strOfNums [(wrap64 (48 + (Int.tmod x 10))) % 256]).size = 1 := by rw [strOfNums_size]; rfl
      have hd : wrap64 (Int.tdiv x 10) = x / 10 := by rw [Int.tdiv_eq_ediv_of_nonneg h0, wrap_id (by omega) (by omega)]
      obtain ⟨r, h⟩ := ih (x / 10).toNat (by omega) (x / 10) (strOfNums [(wrap64 (48 + (Int.tmod x 10))) % 256] ++ s) rfl (by omega) (by rw [ByteArray.size_append, hs]; omega)
      refine ⟨r, Ev.step (fun k => rfl) (ev_pos c (ev_some (ev_pos (by rw [hs]; omega) ?_)))⟩
      rw [hd]
      exact h
    · exact ⟨_, Ev.step (fun k => rfl) (ev_neg c (ev_pos (by omega) (ev_now rfl)))⟩
theorem mark_ex (q : Int) (h : q ≤ 4611686018427387905) : ∃ r, Ev (fun k => laws_markText.f k q) r := by
  unfold laws_markText.f
  by_cases c : q ≤ 0
  · exact ⟨_, ev_pos c (ev_now rfl)⟩
  · obtain ⟨r, h⟩ := markLoop q.toNat q (⟨#[]⟩ : ByteArray) rfl (by omega) (by rw [show (⟨#[]⟩ : ByteArray).size = 0 from rfl]; omega)
    exact ⟨r, ev_neg c h⟩
open Classical in
noncomputable def mt (q : Int) : ByteArray := if h : ∃ r, Ev (fun k => laws_markText.f k q) r then Classical.choose h else (⟨#[]⟩ : ByteArray)
theorem mt_ev (q : Int) (h : q ≤ 4611686018427387905) : Ev (fun k => laws_markText.f k q) (mt q) := by
  unfold mt
  rw [dif_pos (mark_ex q h)]
  exact Classical.choose_spec (mark_ex q h)
end Go.Proofs.YtblgaejagebeoaaDoor.X
set_option linter.unusedVariables false
namespace Go.Proofs.YtblgaejagebeoaaDoor.X
open Go.RowKit Go.Proofs.YtblgaejagebeoaaDoorW.PrintWords Go.Proofs.YtblgaejagebeoaaDoor.E
def wt23 (x : S23) : Nat := x.f0.size + x.f1.size
def wt36 (x : S36) : Nat := x.f0.size + x.f1.size
end Go.Proofs.YtblgaejagebeoaaDoor.X
set_option linter.unusedVariables false
namespace Go.Proofs.YtblgaejagebeoaaDoor.X
open Go.RowKit Go.Proofs.YtblgaejagebeoaaDoorW.PrintWords Go.Proofs.YtblgaejagebeoaaDoor.E
theorem laws_szLog_ev (x : S36) (g0 : x.f0.size ≤ 9223372036854775807) (g1 : x.f1.size ≤ 9223372036854775807) (left : Int) (h0 : 0 ≤ left) (h1 : left ≤ 4611686018427387904) :
    Ev (fun k => laws_szLog.f (x.f0) (x.f1) (x.f2) left) (if (((wt36 x) : Nat) : Int) ≤ left then left - (((wt36 x) : Nat) : Int) else -1) := by
  unfold laws_szLog.f
  unfold wt36
  have e0 : wrap64 (left - ((x.f0.size : Nat) : Int)) = left - ((x.f0.size : Nat) : Int) := wrap_id (by omega) (by omega)
  simp only [e0]
  by_cases c0 : ((x.f0.size : Nat) : Int) ≤ left
  case neg =>
    exact ev_pos (by omega) (ev_now (by first | rfl | rw [if_neg (by omega)]))
  refine ev_neg (by omega) ?_
  have e1 : wrap64 ((left - ((x.f0.size : Nat) : Int)) - ((x.f1.size : Nat) : Int)) = (left - ((x.f0.size : Nat) : Int)) - ((x.f1.size : Nat) : Int) := wrap_id (by omega) (by omega)
  simp only [e1]
  by_cases c1 : ((x.f1.size : Nat) : Int) ≤ (left - ((x.f0.size : Nat) : Int))
  case neg =>
    exact ev_pos (by omega) (ev_now (by first | rfl | rw [if_neg (by omega)]))
  refine ev_neg (by omega) ?_
  exact ev_now (by first | rfl | omega | (rw [if_pos (by omega)]; omega))
end Go.Proofs.YtblgaejagebeoaaDoor.X
set_option linter.unusedVariables false
namespace Go.Proofs.YtblgaejagebeoaaDoor.X
open Go.RowKit Go.Proofs.YtblgaejagebeoaaDoorW.PrintWords Go.Proofs.YtblgaejagebeoaaDoor.E
theorem laws_eqLogRecord_ev (x : S27) : Ev (fun k => laws_eqLogRecord.f (x.f0) (x.f1) (x.f0) (x.f1)) true := by
  unfold laws_eqLogRecord.f
  repeat' (first | exact ev_now rfl | refine ev_pos rfl ?_ | refine ev_neg (by simp) ?_)
end Go.Proofs.YtblgaejagebeoaaDoor.X
set_option linter.unusedVariables false
namespace Go.Proofs.YtblgaejagebeoaaDoor.X
open Go.RowKit Go.Proofs.YtblgaejagebeoaaDoorW.PrintWords Go.Proofs.YtblgaejagebeoaaDoor.E
theorem laws_eqLogRecordS_ev (x : List (S27)) (hl0 : x.length ≤ 9223372036854775807) : Ev (fun k => laws_eqLogRecordS.f k x x) true := by
  unfold laws_eqLogRecordS.f
  refine ev_pos rfl ?_
  refine ev_same (L := fun k i => laws_eqLogRecordS.l0 k x x i) x.length (Ev.step (fun k => rfl) (ev_neg (by omega) (ev_now rfl))) ?_
  intro i hi hk
  refine Ev.step (fun k => rfl) (ev_pos (by omega) (ev_pos (by omega) (ev_pos (by omega) ?_)))
  refine Ev.bind (laws_eqLogRecord_ev _) ?_
  refine ev_pos rfl ?_
  rw [wrap_succ hi (by omega)]
  exact hk
end Go.Proofs.YtblgaejagebeoaaDoor.X
set_option linter.unusedVariables false
set_option linter.unusedSimpArgs false
namespace Go.Proofs.YtblgaejagebeoaaDoor.Pure
open Go.RowKit Go.Proofs.YtblgaejagebeoaaDoor.X Go.Proofs.YtblgaejagebeoaaDoorW.PrintWords Go.Proofs.YtblgaejagebeoaaDoor.E
noncomputable def mk27 (q : Int) (_ : S27) : S27 := ⟨mt q, mt (q + 1)⟩
theorem wsum (L : List S27) : (L.map (fun _ => 2)).sum = 2 * L.length := by
  induction L with
  | nil => rfl
  | cons e L ih => rw [List.map_cons, List.sum_cons, ih, List.length_cons]; omega
theorem mark27 (L : List S27) (hL : L.length ≤ 60) : Ev (fun k => laws_markLogRecordS.f k L 1) (1 + (2 * L.length : Nat), markAll mk27 (fun _ => 2) 1 L) := by
  have h := ev_mark (L := fun k l q i => laws_markLogRecordS.l0 k l q i) L mk27 (fun _ => 2) (fun out q ho => Ev.step (fun k => rfl) (ev_neg (by omega) (ev_now rfl))) ?hs 1 (by omega) (by rw [wsum]; omega)
  case hs =>
    intro out q i x y hi ho hx hxm hg h0 hb h
    have hw1 : wrap64 (q + 1) = q + 1 := wrap_id (by omega) (by omega)
    have hw2 : wrap64 (q + 1 + 1) = q + (2 : Nat) := by rw [wrap_id (by omega) (by omega)]; omega
    refine Ev.step (fun k => rfl) (ev_pos (by omega) (Ev.bind (mt_ev q (by omega)) (ev_pos (by omega) (ev_some ?_))))
    rw [hw1, hw2, wrap_succ hi (by omega)]
    refine Ev.bind (mt_ev (q + 1) (by omega)) ?_
    rw [Int.toNat_natCast, List.set_set, show (rd_T27 (out.set i (⟨mt q, (rd_T27 out i).f1⟩ : S27)) (i : Int)).f0 = mt q by unfold rd_T27; rw [Int.toNat_natCast, List.getD_eq_getElem?_getD, List.getElem?_set_self (by omega)]; rfl]
    exact h
  rw [wsum] at h
  exact h
theorem held27 (L : List S27) (hL : L.length ≤ 60) : Ev (fun k => laws_heldLogRecordS.f k (markAll mk27 (fun _ => 2) 1 L) 1) (1 + (2 * L.length : Nat)) := by
  have hlen := markAll_length mk27 (fun _ => 2) L 1
  have h := ev_held (H := fun k q i => laws_heldLogRecordS.l0 k (markAll mk27 (fun _ => 2) 1 L) q i) L (markAll mk27 (fun _ => 2) 1 L) mk27 (fun _ => 2) 1 rfl (fun q => Ev.step (fun k => rfl) (ev_neg (by omega) (ev_now rfl))) ?hs (by omega) (by rw [wsum]; omega)
  case hs =>
    intro q i x y hi hxm hx hg h0 hb h
    have hw1 : wrap64 (q + 1) = q + 1 := wrap_id (by omega) (by omega)
    have hw2 : wrap64 (q + 1 + 1) = q + (2 : Nat) := by rw [wrap_id (by omega) (by omega)]; omega
    have hr : rd_T27 (markAll mk27 (fun _ => 2) 1 L) (i : Int) = mk27 q x := by unfold rd_T27; rw [Int.toNat_natCast]; exact hg _
    refine Ev.step (fun k => rfl) (ev_pos (by omega) (ev_pos (by omega) (Ev.bind (mt_ev q (by omega)) ?_)))
    rw [hr, hw1, hw2, wrap_succ hi (by omega)]
    exact ev_pos rfl (Ev.bind (mt_ev (q + 1) (by omega)) (ev_pos rfl h))
  rw [wsum] at h
  exact h
theorem FnExactLogRecords : PureFnExactLogRecords := by
  intro x hx
  unfold laws_FnExactLogRecords.f
  refine ev_get (Ev.bind (laws_szLog_ev x hx.1 hx.2.1 1048576 (by omega) (by omega)) ?_)
  by_cases c : (((wt36 x) : Nat) : Int) ≤ 1048576
  case neg => rw [if_neg c]; exact ev_pos (by omega) (ev_now rfl)
  have hz : wt36 x = x.f0.size + x.f1.size := rfl
  rw [if_pos c]
  refine ev_neg (by omega) ?_
  obtain ⟨b, L, h1, h2, h3⟩ := log_ev x.f0 x.f1 x.f2 (by omega)
  obtain ⟨M, o, hM, g1, g2⟩ : ∃ M o, M.length ≤ 60 ∧ Ev (fun k => spec_LogRecords.f k x.f0 x.f1 x.f2) (M, o) ∧ Ev (fun k => impl_LogRecords.f k x.f0 x.f1 x.f2) (M, o) := by
    cases b
    · exact ⟨[], false, by simp, Ev.bind h1 (ev_neg (by simp) (ev_now rfl)), Ev.bind h2 (ev_neg (by simp) (ev_now rfl))⟩
    · have hP := (h3 rfl).1
      have hl := (parse_len L 0 _ _ hP (by omega)).1
      have hsz : (x.f0 ++ x.f1).size = x.f0.size + x.f1.size := ByteArray.size_append
      exact ⟨L, true, by omega, Ev.bind h1 (ev_pos rfl (ev_pos (by omega) (Ev.bind (specOpen_ev _ L _ hP (by omega)) (ev_now rfl)))), Ev.bind h2 (ev_pos rfl (ev_now rfl))⟩
  have hto : laws_toLog.f x.f0 x.f1 x.f2 = some (x.f0, x.f1, x.f2) := rfl
  have heq := laws_eqLogRecordS_ev M (by omega)
  have hheld := held27 M hM
  refine ev_bind0 hto (Ev.bind g1 (ev_bind0 hto (Ev.bind g2 (Ev.bind heq (ev_pos rfl ?_)))))
  refine Ev.step (fun k => rfl) (ev_neg (by simp) (Ev.bind (mark27 M hM) (Ev.bind hheld (ev_neg (by omega) (ev_pos rfl ?_)))))
  refine ev_bind0 hto (Ev.bind g2 (Ev.bind heq (ev_pos rfl ?_)))
  exact Ev.step (fun k => rfl) (ev_neg (by simp) (Ev.bind hheld (ev_neg (by omega) (ev_pos rfl (ev_now rfl)))))
end Go.Proofs.YtblgaejagebeoaaDoor.Pure
namespace Go.Proofs.YtblgaejagebeoaaDoor.fnExactLogRecords
open Go.ChangeShapes Go.WideShapes Go.ChangeAt Go.RowKit Go.Joins Go.Proofs.YtblgaejagebeoaaDoorW.PrintWords Go.Proofs.YtblgaejagebeoaaDoor.Open Go.Proofs.YtblgaejagebeoaaDoor.X
open Go.ChangeMaps (open_string shut_string)
set_option linter.unusedVariables false
theorem own : ownKnob Tryd.prog.godebug = none := by kernel_rfl
def laid : List (String × DataW Unit) := [("math/bits.deBruijn32tab", Rows.laid_math_bits_deBruijn32tab), ("math/bits.deBruijn64tab", Rows.laid_math_bits_deBruijn64tab), ("internal/strconv.uint64pow10", Rows.laid_internal_strconv_uint64pow10)]
theorem door_met (os : Os) (args : Array Value) : laidMetH Tryd.prog laid ((World.doorLaid Tryd.prog 24 os).forCall (fun _ _ => 0) ⟨#[], args, []⟩).memory :=
  laidMetH_of_parts3 (fuel := 8) (laidMet_of_run' 8 (by kernel_rfl) (by kernel_rfl)) (by kernel_rfl) (by kernel_rfl)
theorem gTab : Tryd.prog.globalNamed "internal/strconv.uint64pow10" = some 1 := by kernel_rfl
theorem gTabType : (Tryd.prog.globals[1]?).map (·.type) = some 106 := by kernel_rfl
theorem cellsT : Tryd.prog.cellsOf 106 = 20 := by kernel_rfl
theorem cellsE : Tryd.prog.cellsOf 73 = 1 := by kernel_rfl
theorem only : laid.filter (fun x => x.1 == "internal/strconv.uint64pow10") = [("internal/strconv.uint64pow10", Lib.tabData .u64 Lib.pow10Tab)] := by kernel_rfl
theorem table {W : World} (h : laidMetH Tryd.prog laid W) : GT W := by
  have h2 := h.filter (fun x => x.1 == "internal/strconv.uint64pow10")
  rw [only] at h2
  rw [MakeChecks.laidMetH_plain _ _ _ (by kernel_rfl)] at h2
  exact Lib.tabIs_of_head (rest := []) gTab gTabType Tryd.underlying106 Tryd.underlying73 cellsE cellsT h2
theorem laidOut : laidOutB Tryd.prog = true := by kernel_rfl
set_option maxRecDepth 100000 in
theorem lifted (os : Os) (started : os.Started) (H : Type) (enc : TypeId × Value → H) :
    ReturnsInHanded {} Tryd.checked os 9 .any (fun w args => (Rows.fnExactLogRecordsSpec.pre enc Tryd.prog Tryd.f9 [] false w args ∧ laidMetH Tryd.prog laid w) ∧ sizedMet enc Tryd.prog Tryd.f9 (OpenSpec.ofChange Rows.fnExactLogRecordsSpec) false w args)
      (Rows.fnExactLogRecordsSpec.post enc Tryd.prog Tryd.f9 false true false false) := by
  refine returnsInHanded_of_change_and (C := Tryd.checked) (X := fun w _ => laidMetH Tryd.prog laid w) (fun _ _ _ hh h => h.of_heap hh) own started (by kernel_rfl) Tryd.func9
    (ChangeSpec.witness_shaped (enc := enc) (C := Tryd.checked) (os := os) (X := fun w _ => laidMetH Tryd.prog laid w) false (World.doorLaid Tryd.prog 24 os) #[.agg #[.string ByteArray.empty, .string ByteArray.empty, .int .i64 0]] 8 rfl (World.shaped_of_RefB (by kernel_rfl) (by kernel_rfl)) (by kernel_rfl) (by kernel_rfl) (by kernel_rfl) (door_met os _)) ?_
  intro W base args ds gs before hval0 hW hcnd hsz0 hL _
  have hval : ∀ (j : Nat) t v, Tryd.f9.params[j]? = some t → args[j]? = some v → Value.okWide Tryd.prog W .any base t v := hval0
  have hW' := hW
  obtain ⟨p, q, hA0, hV, rfl, hfz, hnd⟩ := hW
  have hA : DataW.TrodAll enc Tryd.prog W 0 (fun _ => true) true Tryd.f9.params.toList args.toList ds p := hA0
  rw [Tryd.params9] at hA hval
  obtain ⟨v0, vs0, d0, ds0, p0, q0, hargs, rfl, rfl, h0, r0⟩ := trodAll_cons hA
  obtain ⟨rfl, rfl, rfl⟩ := trodAll_nil r0
  obtain rfl : args = #[v0] := by cases args; simp_all
  obtain ⟨rfl, rfl⟩ := trodVars_none hV
  have kk0 := h0
  have lt0 : ∀ x ∈ p0, x.block < W.heap.size := by obtain ⟨m, hm⟩ := kk0; exact DataW.trod_lt m _ _ _ hm
  obtain ⟨a0, cs0, rfl, hK0, g0⟩ := arg_agg op36 (by obtain ⟨cs, e, _⟩ := okWide_struct Tryd.underlying36 (hval 0 36 v0 rfl rfl); exact ⟨cs, e⟩) h0
  have he0 := k36_open hK0
  obtain rfl : cs0 = #[.string a0.f0, .string a0.f1, .int .i64 a0.f2] := by cases cs0; simp_all
  clear hA0 hval0 hsz0
  obtain ⟨k, hk⟩ := Pure.FnExactLogRecords a0 g0
  refine (X.laws_FnExactLogRecords.calls k _ _ _ true W (table hL) hk).mono ?_
  rintro e W' ⟨he, bel0⟩
  have bel : Below W.heap.size W W' := by first | exact bel0 | exact bel0.below
  subst he
  exact ⟨_, rfl, _, _, _, [], _, [], hW', trodAll_mk1 (shut_bool Tryd.underlying4 _), (trodAll_cons_mk (Below.trod laidOut (by kernel_rfl) (of_decide_eq_true (by kernel_rfl)) kk0 bel lt0) trodAll_mk0), rfl, bel.frame _, fun h => by cases h⟩
theorem over : Rows.fnExactLogRecordsRow.holds Tryd.pinned (OpenSpec.ofChange Rows.fnExactLogRecordsSpec) :=
  OpenClaim.holds_of_wide 9 Tryd.f9 rfl rfl rfl rfl rfl rfl rfl ⟨rfl, rfl, rfl, rfl, rfl⟩ rfl rfl rfl rfl rfl (by kernel_rfl) Tryd.func9 (by kernel_rfl)
    (of_decide_eq_true (by kernel_rfl)) (by unfold Func.isWrapper; first | (rw [if_pos (by decide +kernel)]; kernel_rfl) | (rw [if_neg (by decide +kernel)]; exact ⟨rfl, rfl⟩))
    (fun os started H enc _ => lifted os started H enc)
theorem proved : Rows.FnExactLogRecordsSaid := over
#print axioms proved
theorem plain (f : FuncId) (fn : Func) (hf : Tryd.pinned.checked.prog.funcNamed "loop.example/g00876/laws.FnExactLogRecords" = some f) (hfn : Tryd.pinned.checked.prog.funcs[f]? = some fn) :
    false = Tryd.pinned.checked.prog.looks [] ∧ ∀ (j : Nat) t, fn.params[j]? = some t → Tryd.pinned.checked.prog.wantsStandIn t = false := by
  obtain rfl : f = 9 := Option.some.inj ((show Tryd.prog.funcNamed "loop.example/g00876/laws.FnExactLogRecords" = some 9 by kernel_rfl).symm.trans hf) |>.symm
  obtain rfl : fn = Tryd.f9 := (Option.some.inj (Tryd.func9.symm.trans hfn)).symm
  refine ⟨by kernel_rfl, fun j t ht => ?_⟩
  rw [Tryd.params9] at ht
  have hm := Array.mem_of_getElem? ht
  simp only [List.mem_toArray, List.mem_cons, List.not_mem_nil, or_false] at hm
  rcases hm with rfl
  exact (show Tryd.prog.wantsStandIn 36 = false by kernel_rfl)
theorem card : Rows.FnExactLogRecordsCardSaid :=
  Claim7.holds_tied_plain_at .later [] _ _ _ _ proved (fun _ h => by cases h) (by kernel_rfl) (fun _ h => by cases h) fnExactLogRecords_row_tie rfl ⟨rfl, rfl⟩ (by kernel_rfl) rfl plain (by kernel_rfl)
#print axioms card
end Go.Proofs.YtblgaejagebeoaaDoor.fnExactLogRecords
namespace Go.Proofs.YtblgaejagebeoaaDoor
/-- The row, under a short name, for the claim. -/
theorem fnExactLogRecords_holds : Rows.FnExactLogRecordsSaid := fnExactLogRecords.proved
/-- The card, under a short name. -/
theorem fnExactLogRecordsCard_holds : Rows.FnExactLogRecordsCardSaid := fnExactLogRecords.card
end Go.Proofs.YtblgaejagebeoaaDoor
