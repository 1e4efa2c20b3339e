/- For every row of bytes the law FnLogLines answers true: an encoded record is accepted only at the place of its number, and a recovered log is what SyncLog leaves as it is. No condition.
This file (part 5 of 5) holds what the proof needs: plain functions with rounds and contracts written by programs of this work over the translation, and the lemmas. -/
import Derived.Test.YtkdibcifamlciaaDoorZFnLogLines4
import Derived.Test.YtkdibcifamlciaaDoorZFnLogLines2
import Derived.Test.YtkdibcifamlciaaDoorZFnLogLines3
import Derived.Lib.ConvBytes
import Derived.Lib.SmallJoins
import Derived.Shelf.Abstract
import Derived.Test.YtkdibcifamlciaaDoorTie
import Derived.Test.YtkdibcifamlciaaDoorCards
import Derived.Test.YtkdibcifamlciaaDoorRows
import Derived.WalkKit
import Derived.ProofKit
import Derived.OpenShut
import Derived.ShutString
import Derived.ChangeOld
import Derived.Below
import Derived.SizedLaws
import Derived.LaidMore
import Derived.Stop.Joined
import Derived.Stop.LaidErr
import Derived.Lib.LaidTab
import Derived.Lib.ItoaNum
import Derived.LaidSub
import Derived.Handed
import Derived.SevenTiedAt
set_option linter.unusedVariables false
set_option linter.unusedSimpArgs false
namespace Go.Proofs.YtkdibcifamlciaaDoor.X
open Go.RowKit Go.Proofs.YtkdibcifamlciaaDoorW.PrintWords Go.Proofs.YtkdibcifamlciaaDoor.E
theorem hasB_no (s : ByteArray) (h : hasB s 64 = false) : nob 64 s := by
  have h1 := contains_at s
  have h2 : strings_Contains.f s (⟨#[64]⟩ : ByteArray) = some (decide (0 ≤ Lib.indexByte s.data.toList 64)) := rfl
  rw [h1] at h2
  have h3 := Option.some.inj h2
  rw [← Lib.contains_iff_indexByte, h] at h3
  intro hm
  rw [List.contains_iff_mem.2 hm] at h3
  exact absurd h3 (by simp)
theorem rec_no64 {s r : ByteArray} (h : recB s r = true) : nob 64 s := by
  unfold recB cmdB at h
  simp only [Bool.and_eq_true, Bool.not_eq_true'] at h
  exact hasB_no s h.1.2
theorem num_no {c : UInt8} (hc : c.toNat < 48) (k : Int) (h0 : 0 ≤ k) (h1 : k ≤ 59) : nob c (numB k) := by
  have d : ∀ i : Fin 10, 48 ≤ (UInt8.ofNat (48 + i.val)).toNat := by decide
  have d10 : ∀ i : Fin 10, c ≠ UInt8.ofNat (48 + i.val) := fun i e => by have := d i; rw [← e] at this; omega
  unfold nob numB
  obtain ⟨u, rfl⟩ : ∃ u : Nat, k = u := ⟨k.toNat, by omega⟩
  rw [Lib.itoa, if_neg (by omega), Int.toNat_natCast]
  by_cases hu : u < 10
  · rw [Lib.decDigits_one hu]
    simpa using d10 ⟨u, hu⟩
  · rw [Lib.decDigits_two hu (by omega)]
    have a := d10 ⟨u / 10, by omega⟩
    have b := d10 ⟨u % 10, by omega⟩
    intro hm
    have hm : c ∈ [UInt8.ofNat (48 + u / 10), UInt8.ofNat (48 + u % 10)] := hm
    rcases List.mem_cons.1 hm with h | h
    · exact a h
    · exact b (List.mem_singleton.1 h)
theorem tl_inj {a b : ByteArray} : a.toList = b.toList ↔ a = b := ⟨fun h => ba_list (by rwa [ByteArray.toList_eq, ByteArray.toList_eq] at h), fun h => by rw [h]⟩
def Enc (k : Int) (x c r : ByteArray) : Prop := (0 ≤ k ∧ k ≤ 59) ∧ recB c r = true ∧ sealB (lineB k c r) = x
theorem line_cat (k : Int) (c r : ByteArray) : lineB k c r = cat (numB k) 32 (cat c 64 r) := by unfold lineB cat; simp only [ByteArray.append_assoc]; rfl
theorem line_pre (k : Int) (c r : ByteArray) : lineB k c r = (numB k ++ (⟨#[32]⟩ : ByteArray)) ++ cat c 64 r := by rw [line_cat]; rfl
theorem seal_cat (x : ByteArray) : sealB x = cat x 35 (numB (sumB x)) := rfl
theorem enc_nob {k : Int} {x c r : ByteArray} (h : Enc k x c r) : nob 35 (lineB k c r) := by
  obtain ⟨hs, hls, hlr, hr⟩ := recB_iff h.2.1
  have := line_no35 k c r h.1.1 h.1.2 hls hlr
  intro hm
  rw [List.contains_iff_mem.2 hm] at this
  exact absurd this (by simp)
theorem enc_has {k : Int} {x c r : ByteArray} (h : Enc k x c r) : ¬ nob 35 x := by rw [← h.2.2, seal_cat]; exact not_nob _ _ _
theorem enc_line {k : Int} {w z c r : ByteArray} (h : Enc k (cat w 35 z) c r) (hw : nob 35 w) : w = lineB k c r := by
  have e := h.2.2
  rw [seal_cat] at e
  exact (split_uniq e (enc_nob h) hw).1.symm
theorem enc_rest {k : Int} {c r a t : ByteArray} (e : lineB k c r = cat a 32 t) (h : nob 32 a) (hk : 0 ≤ k ∧ k ≤ 59) : t = cat c 64 r := by
  rw [line_cat] at e
  exact (split_uniq e (num_no (by decide) k hk.1 hk.2) h).2.symm
theorem enc_uniq {k : Int} {x c r c' r' : ByteArray} (h : Enc k x c r) (h' : Enc k x c' r') : c = c' ∧ r = r' := by
  have e := h.2.2.trans h'.2.2.symm
  rw [seal_cat, seal_cat] at e
  have e1 := (split_uniq e (enc_nob h) (enc_nob h')).1
  rw [line_cat, line_cat] at e1
  have n := num_no (c := 32) (by decide) k h.1.1 h.1.2
  exact split_uniq (split_uniq e1 n n).2 (rec_no64 h.2.1) (rec_no64 h'.2.1)
theorem idx35 (x : ByteArray) : strings_IndexByte.f x 35 = some (Lib.indexByte x.data.toList 35) := rfl
theorem verify_no {x : ByteArray} (h : nob 35 x) : Ev (fun k => impl_VerifyChecksum.f k x) ((⟨#[]⟩ : ByteArray), false) := by
  unfold impl_VerifyChecksum.f
  exact ev_bind0 ((idx35 x).trans (congrArg some (idx_no h))) (ev_pos (by omega) (ev_now rfl))
theorem verify_good {w z : ByteArray} (h : nob 35 w) (hx : (cat w 35 z).size ≤ 4194304) (ha : appB w = (cat w 35 z, true)) : Ev (fun k => impl_VerifyChecksum.f k (cat w 35 z)) (w, true) := by
  have hz := cat_size w 35 z
  unfold impl_VerifyChecksum.f
  refine ev_bind0 ((idx35 _).trans (congrArg some (idx_yes h))) (ev_neg (by omega) (ev_pos (by omega) (ev_pos (by omega) ?_)))
  rw [Int.toNat_natCast, cat_left]
  refine Ev.bind (appendChecksum_ev w (by omega)) ?_
  rw [ha]
  exact ev_pos rfl (ev_pos rfl (ev_now rfl))
theorem verify_bad {w z : ByteArray} (h : nob 35 w) (hx : (cat w 35 z).size ≤ 4194304) (ha : appB w ≠ (cat w 35 z, true)) : Ev (fun k => impl_VerifyChecksum.f k (cat w 35 z)) ((⟨#[]⟩ : ByteArray), false) := by
  have hz := cat_size w 35 z
  unfold impl_VerifyChecksum.f
  refine ev_bind0 ((idx35 _).trans (congrArg some (idx_yes h))) (ev_neg (by omega) (ev_pos (by omega) (ev_pos (by omega) ?_)))
  rw [Int.toNat_natCast, cat_left]
  refine Ev.bind (appendChecksum_ev w (by omega)) ?_
  exact ev_ite (fun c => ev_neg (fun e => ha (Prod.ext (tl_inj.1 e) c)) (ev_now rfl)) (fun _ => ev_now rfl)
theorem nob_nil (c : UInt8) : nob c (⟨#[]⟩ : ByteArray) := fun h => nomatch h
theorem dec_ev (k : Int) (x : ByteArray) (hx : x.size ≤ 4194304) : (∃ c r, Enc k x c r ∧ Ev (fun q => impl_decoded.f q k (x ++ one 10)) (c, r, true)) ∨ ((∀ c r, ¬ Enc k x c r) ∧ Ev (fun q => impl_decoded.f q k (x ++ one 10)) ((⟨#[]⟩ : ByteArray), (⟨#[]⟩ : ByteArray), false)) := by
  have htr := trim_yes x 10 (by omega)
  rcases split_or 35 x with h | ⟨w, z, rfl, hw⟩
  · refine Or.inr ⟨fun c r e => enc_has e h, ?_⟩
    unfold impl_decoded.f
    exact ev_bind0 htr (Ev.bind (verify_no h) (ev_neg (by simp) (ev_now rfl)))
  have hz := cat_size w 35 z
  by_cases ha : appB w = (cat w 35 z, true)
  case neg =>
    refine Or.inr ⟨fun c r e => ha ?_, ?_⟩
    · have h1 := app_line k c r e.1.1 e.1.2 e.2.1
      have h2 := e.2.2
      rw [← enc_line e hw] at h1 h2
      rw [h1, h2]
    · unfold impl_decoded.f
      exact ev_bind0 htr (Ev.bind (verify_bad hw hx ha) (ev_neg (by simp) (ev_now rfl)))
  obtain ⟨p, q, hp, hq, hcs, hrs, hun⟩ : ∃ p q : ByteArray × ByteArray × Bool, strings_Cut.f w (⟨#[32]⟩ : ByteArray) = some p ∧ strings_Cut.f p.2.1 (⟨#[64]⟩ : ByteArray) = some q ∧ q.1.size ≤ w.size ∧ q.2.1.size ≤ w.size ∧ ∀ c' r', lineB k c' r' = w → nob 64 c' → (0 ≤ k ∧ k ≤ 59) → c' = q.1 ∧ r' = q.2.1 := by
    rcases split_or 32 w with h32 | ⟨a, t, rfl, h32⟩
    · refine ⟨_, _, cut_no h32, cut_no (c := 64) (nob_nil 64), Nat.zero_le _, Nat.zero_le _, fun c' r' e _ _ => absurd h32 ?_⟩
      rw [← e, line_cat]; exact not_nob _ _ _
    · have hz2 := cat_size a 32 t
      rcases split_or 64 t with h64 | ⟨c, r, rfl, h64⟩
      · refine ⟨_, _, cut_yes h32 (by omega), cut_no (c := 64) h64, by show t.size ≤ _; omega, Nat.zero_le _, fun c' r' e _ hk => absurd h64 ?_⟩
        rw [enc_rest e h32 hk]; exact not_nob _ _ _
      · have hz3 := cat_size c 64 r
        refine ⟨_, _, cut_yes h32 (by omega), cut_yes (c := 64) h64 (by show (cat c 64 r).size ≤ _; omega), by show c.size ≤ _; omega, by show r.size ≤ _; omega, fun c' r' e h' hk => ?_⟩
        exact split_uniq (enc_rest e h32 hk).symm h' h64
  have henc := implEnc_ev k q.1 q.2.1 (by omega) (by omega)
  by_cases E : Enc k (cat w 35 z) q.1 q.2.1
  · refine Or.inl ⟨q.1, q.2.1, E, ?_⟩
    unfold impl_decoded.f
    refine ev_bind0 htr (Ev.bind (verify_good hw hx ha) (ev_pos rfl (ev_bind0 hp (ev_bind0 hq (Ev.bind henc ?_)))))
    have hok : encOk k q.1 q.2.1 = true := by unfold encOk; rw [decide_eq_true E.1, E.2.1]; rfl
    unfold encE
    rw [if_pos hok, E.2.2]
    exact ev_pos rfl (ev_pos rfl (ev_now rfl))
  · refine Or.inr ⟨fun c' r' e' => E ?_, ?_⟩
    · obtain ⟨e1, e2⟩ := hun c' r' (enc_line e' hw).symm (rec_no64 e'.2.1) e'.1
      rw [← e1, ← e2]; exact e'
    · unfold impl_decoded.f
      refine ev_bind0 htr (Ev.bind (verify_good hw hx ha) (ev_pos rfl (ev_bind0 hp (ev_bind0 hq (Ev.bind henc ?_)))))
      unfold encE
      by_cases hok : encOk k q.1 q.2.1 = true
      · rw [if_pos hok]
        refine ev_pos rfl (ev_neg (fun e => E ?_) (ev_now rfl))
        unfold encOk at hok
        rw [Bool.and_eq_true] at hok
        exact ⟨of_decide_eq_true hok.1, hok.2, (ba_cut (tl_inj.1 e) (by have := congrArg ByteArray.size (tl_inj.1 e); rw [ByteArray.size_append, ByteArray.size_append, one_size, szl] at this; omega)).1⟩
      · rw [if_neg hok]
        exact ev_neg (by simp) (ev_now rfl)
theorem ba_halves (t : ByteArray) (n : Nat) (hn : n ≤ t.size) : t = t.extract 0 n ++ t.extract n t.size := by
  apply ba_list
  have hl := l_len t
  rw [ba_app, ByteArray.data_extract, ByteArray.data_extract, Array.toList_extract, Array.toList_extract, List.extract_eq_take_drop, List.extract_eq_take_drop, List.drop_zero, Nat.sub_zero, List.take_of_length_le (l := List.drop n _) (by rw [List.length_drop]; omega), List.take_append_drop]
theorem read_ev (k : Int) (hk : 0 ≤ k ∧ k ≤ 59) (x : ByteArray) (hx : x.size ≤ 4194304) : (∃ c r, Enc k x c r ∧ Ev (fun q => spec_l27Read.f q x k) (c, r, true)) ∨ ((∀ c r, ¬ Enc k x c r) ∧ ∃ c r, Ev (fun q => spec_l27Read.f q x k) (c, r, false)) := by
  have hn := numB_size k (by omega) (by omega)
  obtain ⟨t, ts, hsp, hts, hE⟩ : ∃ t ts, Ev (fun q => spec_l1Split.f q x 35) (t :: ts) ∧ t.size ≤ x.size ∧ ∀ c r, Enc k x c r → t = lineB k c r := by
    rcases split_or 35 x with h | ⟨w, z, rfl, hw⟩
    · exact ⟨x, [], split_no h (by omega) 35 rfl, Nat.le_refl _, fun c r e => absurd h (enc_has e)⟩
    · obtain ⟨y, ys, hs⟩ := split_yes (b := z) hw (by omega) 35 rfl
      exact ⟨w, y :: ys, hs, by rw [cat_size]; omega, fun c r e => enc_line e hw⟩
  have hrd : rdOf ByteArray.empty (t :: ts) 0 = t := rfl
  have hah : (numB k ++ (⟨#[32]⟩ : ByteArray)).size = (numB k).size + 1 := by rw [ByteArray.size_append]; rfl
  have open_ : ∀ {r : ByteArray × ByteArray × Bool}, (((t.size : Int) < ((numB k ++ (⟨#[32]⟩ : ByteArray)).size : Int)) → Ev (fun q => spec_l27Read.j0 q x k (numB k ++ (⟨#[32]⟩ : ByteArray)) t true) r) → (¬ ((t.size : Int) < ((numB k ++ (⟨#[32]⟩ : ByteArray)).size : Int)) → Ev (fun q => spec_l27Read.j0 q x k (numB k ++ (⟨#[32]⟩ : ByteArray)) t ((t.extract 0 (numB k ++ (⟨#[32]⟩ : ByteArray)).size).toList != (numB k ++ (⟨#[32]⟩ : ByteArray)).toList)) r) → Ev (fun q => spec_l27Read.f q x k) r := by
    intro r h1 h2
    unfold spec_l27Read.f
    refine Ev.bind (l1Num_ev k (by omega) (by omega)) (ev_pos (by omega) (Ev.bind hsp (ev_pos (by simp) ?_)))
    rw [hrd]
    exact ev_ite h1 (fun c => ev_pos (by omega) (ev_pos (by omega) (h2 c)))
  by_cases hp : ∃ rest, t = (numB k ++ (⟨#[32]⟩ : ByteArray)) ++ rest
  case neg =>
    refine Or.inr ⟨fun c r e => hp ⟨cat c 64 r, by rw [hE c r e, line_pre]⟩, (⟨#[]⟩ : ByteArray), (⟨#[]⟩ : ByteArray), open_ (fun _ => Ev.step (fun k => rfl) (ev_now rfl)) (fun c => ?_)⟩
    refine Ev.step (fun k => rfl) (ev_pos ?_ (ev_now rfl))
    rw [bne_iff_ne]
    intro e
    refine hp ⟨t.extract (numB k ++ (⟨#[32]⟩ : ByteArray)).size t.size, ?_⟩
    conv => lhs; rw [ba_halves t (numB k ++ (⟨#[32]⟩ : ByteArray)).size (by omega)]
    rw [tl_inj.1 e]
  obtain ⟨rest, ht⟩ := hp
  have htz : t.size = (numB k ++ (⟨#[32]⟩ : ByteArray)).size + rest.size := by rw [ht, ByteArray.size_append]
  have e0 : t.extract 0 (numB k ++ (⟨#[32]⟩ : ByteArray)).size = numB k ++ (⟨#[32]⟩ : ByteArray) := by rw [ht]; exact ByteArray.extract_append_eq_left rfl
  have e1 : t.extract (numB k ++ (⟨#[32]⟩ : ByteArray)).size t.size = rest := by rw [htz, ht]; exact ByteArray.extract_append_eq_right rfl rfl
  have go : ∀ {r : ByteArray × ByteArray × Bool}, (∀ b, b = false → Ev (fun q => spec_l27Read.j0 q x k (numB k ++ (⟨#[32]⟩ : ByteArray)) t b) r) → Ev (fun q => spec_l27Read.f q x k) r := by
    intro r h
    refine open_ (fun c => absurd c (by omega)) (fun c => h _ ?_)
    rw [e0, bne_self_eq_false]
  have hrest : ∀ c r, Enc k x c r → rest = cat c 64 r := by
    intro c r e
    have h1 := hE c r e
    rw [ht, line_pre] at h1
    exact (ba_cut h1 rfl).2
  rcases split_or 64 rest with h64 | ⟨c, r, hc, h64⟩
  · refine Or.inr ⟨fun c r e => not_nob 64 c r (hrest c r e ▸ h64), (⟨#[]⟩ : ByteArray), (⟨#[]⟩ : ByteArray), go (fun bb hbb => ?_)⟩
    refine Ev.step (fun k => rfl) (ev_neg (by rw [hbb]; simp) (ev_pos (by omega) (ev_pos (by omega) ?_)))
    rw [e1]
    exact Ev.bind (split_no h64 (by omega) 64 rfl) (ev_pos (by simp) (ev_pos rfl (ev_now rfl)))
  have hcz := cat_size c 64 r
  rw [← hc] at hcz
  obtain ⟨y, ys, hs⟩ := split_yes (b := r) h64 (by rw [← hc]; omega) 64 rfl
  rw [← hc] at hs
  have hw : wrap64 ((c.size : Int) + 1) = ((c.size + 1 : Nat) : Int) := wrap_succ (show c.size < rest.size by omega) (by omega)
  have e2 : rest.extract (c.size + 1) rest.size = r := by rw [hc]; exact cat_right c 64 r
  have hrd2 : rdOf ByteArray.empty (c :: y :: ys) 0 = c := rfl
  have hgood := l27Good_ev c r (by omega) (by omega)
  have go2 : ∀ {o : ByteArray × ByteArray × Bool}, (recB c r = true → Ev (fun q => (spec_l27Line.f q k c r).bind fun t113 => if x.size + 1 ≤ 9223372036854775807 then some (c, r, t113.toList == (x ++ (⟨#[10]⟩ : ByteArray)).toList) else none) o) → (¬ recB c r = true → o = (c, r, false)) → Ev (fun q => spec_l27Read.f q x k) o := by
    intro o h1 h2
    refine go (fun bb hbb => Ev.step (fun k => rfl) (ev_neg (by rw [hbb]; simp) (ev_pos (by omega) (ev_pos (by omega) ?_))))
    rw [e1]
    refine Ev.bind hs ?_
    rw [hrd2, hw, Int.toNat_natCast, e2]
    refine ev_pos (by rw [List.length_cons]; omega) (ev_neg (by omega) (ev_pos (by omega) (ev_pos (by omega) (Ev.bind hgood (ev_ite h1 (fun c => ev_now (h2 c).symm))))))
  by_cases E : Enc k x c r
  · refine Or.inl ⟨c, r, E, go2 (fun h => ?_) (fun h => absurd E.2.1 h)⟩
    obtain ⟨hs1, hls, hlr, hr1⟩ := recB_iff h
    refine Ev.bind (l27Line_ev k c r hk.1 hk.2 hs1.2 hr1) (ev_pos (by omega) (ev_now ?_))
    rw [E.2.2, beq_self_eq_true]
  · refine Or.inr ⟨fun c' r' e' => E ?_, c, r, go2 (fun h => ?_) (fun _ => rfl)⟩
    · have h1 := hrest c' r' e'
      rw [hc] at h1
      obtain ⟨rfl, rfl⟩ := split_uniq h1 h64 (rec_no64 e'.2.1)
      exact e'
    · obtain ⟨hs1, hls, hlr, hr1⟩ := recB_iff h
      refine Ev.bind (l27Line_ev k c r hk.1 hk.2 hs1.2 hr1) (ev_pos (by omega) (ev_now ?_))
      have : ((sealB (lineB k c r) ++ (⟨#[10]⟩ : ByteArray)).toList == (x ++ (⟨#[10]⟩ : ByteArray)).toList) = false := by
        rw [beq_eq_false_iff_ne]
        intro e
        exact E ⟨hk, h, (ba_cut (tl_inj.1 e) (by have := congrArg ByteArray.size (tl_inj.1 e); rw [ByteArray.size_append, ByteArray.size_append, szl] at this; omega)).1⟩
      rw [this]
end Go.Proofs.YtkdibcifamlciaaDoor.X
set_option linter.unusedVariables false
set_option linter.unusedSimpArgs false
namespace Go.Proofs.YtkdibcifamlciaaDoor.X
open Go.RowKit Go.Proofs.YtkdibcifamlciaaDoorW.PrintWords Go.Proofs.YtkdibcifamlciaaDoor.E
def Stop (k : Nat) (t : ByteArray) : Prop := ∀ a b, t = cat a 10 b → nob 10 a → ∀ c r, ¬ Enc (k : Int) a c r
def Parse : Nat → ByteArray → List S25 → ByteArray → Prop
  | k, s, [], t => s = t ∧ Stop k t
  | k, s, e :: L, t => ∃ a b, s = cat a 10 b ∧ nob 10 a ∧ Enc (k : Int) a e.f0 e.f1 ∧ Parse (k + 1) b L t
theorem parse_ex : ∀ (n : Nat) (s : ByteArray) (k : Nat), s.size ≤ n → ∃ L t, Parse k s L t := by
  intro n
  induction n with
  | zero =>
    intro s k hs
    refine ⟨[], s, rfl, fun a b e _ => ?_⟩
    rw [e, cat_size] at hs; omega
  | succ n ih =>
    intro s k hs
    rcases split_or 10 s with h | ⟨a, b, rfl, ha⟩
    · exact ⟨[], s, rfl, fun a b e _ => absurd h (by rw [e]; exact not_nob _ _ _)⟩
    by_cases hE : ∃ c r, Enc (k : Int) a c r
    · obtain ⟨c, r, hE⟩ := hE
      rw [cat_size] at hs
      obtain ⟨L, t, h⟩ := ih b (k + 1) (by omega)
      exact ⟨⟨c, r⟩ :: L, t, a, b, rfl, ha, hE, h⟩
    · refine ⟨[], cat a 10 b, rfl, fun a' b' e ha' c r h => hE ⟨c, r, ?_⟩⟩
      rw [(split_uniq e ha ha').1]; exact h
theorem parse_uniq : ∀ (L L' : List S25) (k : Nat) (s t t' : ByteArray), Parse k s L t → Parse k s L' t' → L = L' ∧ t = t'
  | [], [], k, s, t, t', h, h' => ⟨rfl, h.1.symm.trans h'.1⟩
  | [], e :: L', k, s, t, t', h, h' => by
    obtain ⟨a, b, e1, e2, e3, _⟩ := h'
    exact absurd e3 (h.2 a b (h.1.symm.trans e1) e2 _ _)
  | e :: L, [], k, s, t, t', h, h' => by
    obtain ⟨a, b, e1, e2, e3, _⟩ := h
    exact absurd e3 (h'.2 a b (h'.1.symm.trans e1) e2 _ _)
  | e :: L, e' :: L', k, s, t, t', h, h' => by
    obtain ⟨a, b, e1, e2, e3, e4⟩ := h
    obtain ⟨a', b', f1, f2, f3, f4⟩ := h'
    obtain ⟨rfl, rfl⟩ := split_uniq (e1.symm.trans f1) e2 f2
    obtain ⟨g1, g2⟩ := enc_uniq e3 f3
    obtain ⟨rfl, rfl⟩ := parse_uniq L L' (k + 1) b t t' e4 f4
    obtain ⟨x0, x1⟩ := e
    obtain ⟨y0, y1⟩ := e'
    obtain rfl : x0 = y0 := g1
    obtain rfl : x1 = y1 := g2
    exact ⟨rfl, rfl⟩
def lsz (k : Nat) (e : S25) : Nat := (sealB (lineB (k : Int) e.f0 e.f1)).size + 1
def sizeL : Nat → List S25 → Nat
  | _, [] => 0
  | k, e :: L => lsz k e + sizeL (k + 1) L
def endsL : Nat → Nat → List S25 → List Int
  | _, _, [] => []
  | k, p, e :: L => ((p + lsz k e : Nat) : Int) :: endsL (k + 1) (p + lsz k e) L
theorem enc_lsz {k : Nat} {a : ByteArray} {e : S25} (h : Enc (k : Int) a e.f0 e.f1) : a.size + 1 = lsz k e := by unfold lsz; rw [h.2.2]
theorem enc_small {k : Nat} {a : ByteArray} {e : S25} (h : Enc (k : Int) a e.f0 e.f1) : lsz k e ≤ 425 ∧ k ≤ 59 := by
  obtain ⟨hs, hls, hlr, hr⟩ := recB_iff h.2.1
  have h1 := line_size k e.f0 e.f1 h.1.1 h.1.2 hs.2 hr
  have h2 := sum_size (lineB k e.f0 e.f1)
  have h3 := h.1.2
  refine ⟨?_, by omega⟩
  unfold lsz sealB
  rw [ByteArray.size_append, ByteArray.size_append, szl]
  omega
theorem parse_size : ∀ (L : List S25) (k : Nat) (s t : ByteArray), Parse k s L t → s.size = sizeL k L + t.size
  | [], k, s, t, h => by rw [h.1, sizeL, Nat.zero_add]
  | e :: L, k, s, t, h => by
    obtain ⟨a, b, e1, e2, e3, e4⟩ := h
    have := parse_size L (k + 1) b t e4
    rw [e1, cat_size, sizeL, ← enc_lsz e3]
    omega
theorem parse_len : ∀ (L : List S25) (k : Nat) (s t : ByteArray), Parse k s L t → k ≤ 60 → k + L.length ≤ 60 ∧ sizeL k L ≤ 425 * L.length
  | [], k, s, t, h, hk => ⟨hk, Nat.zero_le _⟩
  | e :: L, k, s, t, h, hk => by
    obtain ⟨a, b, e1, e2, e3, e4⟩ := h
    have h1 := enc_small e3
    have := parse_len L (k + 1) b t e4 (by omega)
    rw [sizeL, List.length_cons]
    omega
theorem ends_len : ∀ (L : List S25) (k p : Nat), (endsL k p L).length = L.length
  | [], _, _ => rfl
  | e :: L, k, p => by rw [endsL, List.length_cons, List.length_cons, ends_len L]
theorem ends_last : ∀ (L : List S25) (k p : Nat), L ≠ [] → (endsL k p L).getD (L.length - 1) 0 = ((p + sizeL k L : Nat) : Int)
  | [], _, _, h => absurd rfl h
  | [e], k, p, _ => rfl
  | e :: e' :: L, k, p, _ => by
    have := ends_last (e' :: L) (k + 1) (p + lsz k e) (by simp)
    rw [endsL, sizeL, ← Nat.add_assoc, ← this]
    rfl
theorem ext_mid (p m b : ByteArray) : ((p ++ m) ++ b).extract p.size (p.size + m.size) = m := by
  apply ba_list
  have h1 := l_len p
  have h2 := l_len m
  rw [ByteArray.data_extract, Array.toList_extract, List.extract_eq_take_drop, ba_app, ba_app, List.append_assoc, List.drop_left' h1, List.take_left' (by omega)]
theorem ext_end (p b : ByteArray) : (p ++ b).extract p.size (p ++ b).size = b := by rw [ByteArray.size_append]; exact ByteArray.extract_append_eq_right rfl rfl
theorem idx10 (x : ByteArray) : strings_IndexByte.f x 10 = some (Lib.indexByte x.data.toList 10) := rfl
theorem impl_loop : ∀ (L : List S25) (k : Nat) (b t : ByteArray), Parse k b L t → ∀ (x pre : ByteArray) (L0 : List S25) (E0 : List Int), x = pre ++ b → x.size ≤ 4194304 → L0.length = k → E0.length ≤ k → k ≤ 60 → Ev (fun q => impl_readRecords.l0 q x L0 E0 (pre.size : Int)) (L0 ++ L, E0 ++ endsL k pre.size L) := by
  have start : ∀ (a b x pre : ByteArray) (L0 : List S25) (E0 : List Int), nob 10 a → x = pre ++ cat a 10 b → x.size ≤ 4194304 → ∀ {o : List S25 × List Int}, Ev (fun q => (impl_decoded.f q (L0.length : Int) (a ++ one 10)).bind fun bt108 => (if bt108.2.2 = true then (if L0.length < 4398046511104 then (if E0.length < 17592186044416 then (impl_readRecords.l0 q x (L0 ++ [(⟨bt108.1, bt108.2.1⟩ : S25)]) (E0 ++ [((pre.size + (a.size + 1) : Nat) : Int)]) ((pre.size + (a.size + 1) : Nat) : Int)) else (none)) else (none)) else (some (L0, E0)))) o → Ev (fun q => impl_readRecords.l0 q x L0 E0 (pre.size : Int)) o := by
    intro a b x pre L0 E0 ha hx hs o h
    have hz : x.size = pre.size + (a.size + 1 + b.size) := by rw [hx, ByteArray.size_append, cat_size]
    have e1 : x.extract pre.size x.size = cat a 10 b := by rw [hx]; exact ext_end _ _
    have w1 : wrap64 ((pre.size : Int) + (a.size : Int)) = (pre.size : Int) + (a.size : Int) := wrap_id (by omega) (by omega)
    have w2 : wrap64 ((pre.size : Int) + (a.size : Int) + 1) = ((pre.size + (a.size + 1) : Nat) : Int) := by rw [wrap_id (by omega) (by omega)]; omega
    have w3 : wrap64 ((a.size : Int) + 1) = ((a.size + 1 : Nat) : Int) := wrap_succ (show a.size < x.size by omega) (by omega)
    have w4 : wrap64 ((pre.size : Int) + ((a.size + 1 : Nat) : Int)) = ((pre.size + (a.size + 1) : Nat) : Int) := by rw [wrap_id (by omega) (by omega)]; omega
    have e2 : x.extract pre.size (pre.size + (a.size + 1)) = a ++ one 10 := by
      rw [hx]
      have := ext_mid pre (a ++ one 10) b
      rw [ByteArray.append_assoc, ByteArray.size_append, one_size] at this
      exact this
    refine Ev.step (fun k => rfl) (ev_pos (by omega) (ev_pos (by omega) ?_))
    rw [Int.toNat_natCast, e1]
    refine ev_bind0 ((idx10 _).trans (congrArg some (idx_yes ha))) (ev_neg (by omega) ?_)
    rw [w1, w2, w3, w4]
    refine ev_pos (by omega) (ev_pos (by omega) ?_)
    rw [Int.toNat_natCast, e2]
    exact h
  intro L
  induction L with
  | nil =>
    intro k b t hP x pre L0 E0 hx hs hL hE hk
    obtain ⟨rfl, hst⟩ := hP
    rw [endsL, List.append_nil, List.append_nil]
    have hz : x.size = pre.size + b.size := by rw [hx, ByteArray.size_append]
    rcases split_or 10 b with h | ⟨a, b', rfl, ha⟩
    · have e1 : x.extract pre.size x.size = b := by rw [hx]; exact ext_end _ _
      refine Ev.step (fun k => rfl) (ev_pos (by omega) (ev_pos (by omega) ?_))
      rw [Int.toNat_natCast, e1]
      exact ev_bind0 ((idx10 _).trans (congrArg some (idx_no h))) (ev_pos (by omega) (ev_now rfl))
    · refine start a b' x pre L0 E0 ha hx hs ?_
      have hz2 := cat_size a 10 b'
      rcases dec_ev (L0.length : Int) a (by omega) with ⟨c, r, he, _⟩ | ⟨_, hv⟩
      · rw [hL] at he
        exact absurd he (hst a b' rfl ha c r)
      · exact Ev.bind hv (ev_neg (by simp) (ev_now rfl))
  | cons e L ih =>
    intro k b t hP x pre L0 E0 hx hs hL hE hk
    obtain ⟨a, b', rfl, ha, he, hP'⟩ := hP
    have hz2 := cat_size a 10 b'
    have hz : x.size = pre.size + (cat a 10 b').size := by rw [hx, ByteArray.size_append]
    have hsm := enc_small he
    refine start a b' x pre L0 E0 ha hx hs ?_
    rcases dec_ev (L0.length : Int) a (by omega) with ⟨c, r, he', hv⟩ | ⟨hno, _⟩
    · rw [hL] at he'
      obtain ⟨rfl, rfl⟩ := enc_uniq he' he
      refine Ev.bind hv (ev_pos rfl (ev_pos (by omega) (ev_pos (by omega) ?_)))
      have h := ih (k + 1) b' t hP' x (pre ++ (a ++ one 10)) (L0 ++ [e]) (E0 ++ [((pre.size + (a.size + 1) : Nat) : Int)]) (by rw [hx]; unfold cat; rw [ByteArray.append_assoc, ByteArray.append_assoc, ByteArray.append_assoc]) hs (by rw [List.length_append, hL]; rfl) (by rw [List.length_append, List.length_singleton]; omega) (by omega)
      have hps : (pre ++ (a ++ one 10)).size = pre.size + (a.size + 1) := by rw [ByteArray.size_append, ByteArray.size_append, one_size]
      rw [hps, List.append_assoc, List.append_assoc] at h
      rw [endsL, ← enc_lsz he]
      exact h
    · rw [hL] at hno
      exact absurd he (hno _ _)
theorem spec_loop : ∀ (L : List S25) (k : Nat) (b t : ByteArray), Parse k b L t → ∀ (x pre : ByteArray) (L0 : List S25), x = pre ++ b → x.size ≤ 4194304 → L0.length = k → k ≤ 60 → Ev (fun q => spec_l27Open.l0 q x L0 (pre.size : Int)) (L0 ++ L, ((pre.size + sizeL k L : Nat) : Int)) := by
  have stop : ∀ (x pre : ByteArray) (L0 : List S25), Ev (fun q => spec_l27Open.j1 q x L0 (pre.size : Int) false) (L0, (pre.size : Int)) := fun x pre L0 => Ev.step (fun k => rfl) (ev_now rfl)
  intro L
  induction L with
  | nil =>
    intro k b t hP x pre L0 hx hs hL hk
    obtain ⟨rfl, hst⟩ := hP
    rw [sizeL, List.append_nil, Nat.add_zero]
    have hz : x.size = pre.size + b.size := by rw [hx, ByteArray.size_append]
    have e1 : x.extract pre.size x.size = b := by rw [hx]; exact ext_end _ _
    refine Ev.step (fun k => rfl) (ev_ite (fun c => ?_) (fun _ => stop _ _ _))
    by_cases h60 : L0.length < 60
    case neg => rw [decide_eq_false (by omega)]; exact stop _ _ _
    refine Ev.step (fun k => rfl) (ev_pos (decide_eq_true (by omega)) (ev_pos (by omega) (ev_pos (by omega) ?_)))
    rw [Int.toNat_natCast, e1]
    rcases split_or 10 b with h | ⟨a, b', rfl, ha⟩
    · obtain ⟨c, r, o, hv⟩ : ∃ c r o, Ev (fun q => spec_l27Read.f q b (L0.length : Int)) (c, r, o) := by
        rcases read_ev (L0.length : Int) (by omega) b (by omega) with ⟨c, r, _, hv⟩ | ⟨_, c, r, hv⟩
        · exact ⟨c, r, _, hv⟩
        · exact ⟨c, r, _, hv⟩
      exact Ev.bind (split_no h (by omega) 10 rfl) (ev_pos (by simp) (Ev.bind hv (ev_pos (by simp) (ev_now rfl))))
    · have hz2 := cat_size a 10 b'
      obtain ⟨y, ys, hsp⟩ := split_yes (b := b') ha (by omega) 10 rfl
      refine Ev.bind hsp (ev_pos (by rw [List.length_cons]; omega) ?_)
      rcases read_ev (L0.length : Int) (by omega) a (by omega) with ⟨c, r, he, _⟩ | ⟨_, c, r, hv⟩
      · rw [hL] at he
        exact absurd he (hst a b' rfl ha c r)
      · exact Ev.bind hv (ev_neg (by rw [List.length_cons, List.length_cons]; omega) (ev_neg (by simp) (ev_now rfl)))
  | cons e L ih =>
    intro k b t hP x pre L0 hx hs hL hk
    obtain ⟨a, b', rfl, ha, he, hP'⟩ := hP
    have hz2 := cat_size a 10 b'
    have hz : x.size = pre.size + (cat a 10 b').size := by rw [hx, ByteArray.size_append]
    have e1 : x.extract pre.size x.size = cat a 10 b' := by rw [hx]; exact ext_end _ _
    have hsm := enc_small he
    have w1 : wrap64 ((pre.size : Int) + (a.size : Int)) = (pre.size : Int) + (a.size : Int) := wrap_id (by omega) (by omega)
    have w2 : wrap64 ((pre.size : Int) + (a.size : Int) + 1) = ((pre.size + (a.size + 1) : Nat) : Int) := by rw [wrap_id (by omega) (by omega)]; omega
    refine Ev.step (fun k => rfl) (ev_pos (by omega) ?_)
    refine Ev.step (fun k => rfl) (ev_pos (decide_eq_true (by omega)) (ev_pos (by omega) (ev_pos (by omega) ?_)))
    rw [Int.toNat_natCast, e1]
    obtain ⟨y, ys, hsp⟩ := split_yes (b := b') ha (by omega) 10 rfl
    have hrd : rdOf ByteArray.empty (a :: y :: ys) 0 = a := rfl
    refine Ev.bind hsp (ev_pos (by rw [List.length_cons]; omega) ?_)
    rw [hrd, w1, w2]
    rcases read_ev (L0.length : Int) (by omega) a (by omega) with ⟨c, r, he', hv⟩ | ⟨hno, _⟩
    · rw [hL] at he'
      obtain ⟨rfl, rfl⟩ := enc_uniq he' he
      refine Ev.bind hv (ev_neg (by rw [List.length_cons, List.length_cons]; omega) (ev_pos rfl (ev_pos (by omega) ?_)))
      have h := ih (k + 1) b' t hP' x (pre ++ (a ++ one 10)) (L0 ++ [e]) (by rw [hx]; unfold cat; rw [ByteArray.append_assoc, ByteArray.append_assoc, ByteArray.append_assoc]) hs (by rw [List.length_append, hL]; rfl) (by omega)
      have hps : (pre ++ (a ++ one 10)).size = pre.size + (a.size + 1) := by rw [ByteArray.size_append, ByteArray.size_append, one_size]
      rw [hps, List.append_assoc, Nat.add_assoc pre.size (a.size + 1)] at h
      rw [sizeL, ← enc_lsz he]
      exact h
    · rw [hL] at hno
      exact absurd he (hno _ _)
theorem nil_app (s : ByteArray) : s = (⟨#[]⟩ : ByteArray) ++ s := ba_list (by rw [ba_app]; rfl)
theorem implRead_ev (s : ByteArray) (L : List S25) (t : ByteArray) (h : Parse 0 s L t) (hs : s.size ≤ 4194304) : Ev (fun q => impl_readRecords.f q s) (L, endsL 0 0 L) := impl_loop L 0 s t h s (⟨#[]⟩ : ByteArray) [] [] (nil_app s) hs rfl (Nat.le_refl _) (by omega)
theorem specOpen_ev (s : ByteArray) (L : List S25) (t : ByteArray) (h : Parse 0 s L t) (hs : s.size ≤ 4194304) : Ev (fun q => spec_l27Open.f q s) (L, (sizeL 0 L : Int)) := by
  have h := spec_loop L 0 s t h s (⟨#[]⟩ : ByteArray) [] (nil_app s) hs rfl (by omega)
  rw [show (⟨#[]⟩ : ByteArray).size = 0 from rfl, Nat.zero_add, List.nil_append] at h
  exact h
end Go.Proofs.YtkdibcifamlciaaDoor.X
set_option linter.unusedVariables false
set_option linter.unusedSimpArgs false
namespace Go.Proofs.YtkdibcifamlciaaDoor.X
open Go.RowKit Go.Proofs.YtkdibcifamlciaaDoorW.PrintWords Go.Proofs.YtkdibcifamlciaaDoor.E
theorem app_cat (a : ByteArray) (c : UInt8) (b P : ByteArray) : cat a c b ++ P = cat a c (b ++ P) := by unfold cat; rw [ByteArray.append_assoc]
theorem stop_nil (k : Nat) : Stop k (⟨#[]⟩ : ByteArray) := by
  intro a b e _
  have := congrArg ByteArray.size e
  rw [cat_size, show (⟨#[]⟩ : ByteArray).size = 0 from rfl] at this
  omega
theorem size_nil {t : ByteArray} (h : t.size = 0) : t = (⟨#[]⟩ : ByteArray) := ba_list (by
  have := l_len t
  rw [List.eq_nil_of_length_eq_zero (by omega : t.data.toList.length = 0)])
theorem parse_app : ∀ (L1 : List S25) (k : Nat) (D P : ByteArray) (L2 : List S25) (t : ByteArray), Parse k D L1 (⟨#[]⟩ : ByteArray) → Parse (k + L1.length) P L2 t → Parse k (D ++ P) (L1 ++ L2) t
  | [], k, D, P, L2, t, h, h' => by rw [h.1, ← nil_app]; exact h'
  | e :: L1, k, D, P, L2, t, h, h' => by
    obtain ⟨a, b, e1, e2, e3, e4⟩ := h
    refine ⟨a, b ++ P, by rw [e1, app_cat], e2, e3, parse_app L1 (k + 1) b P L2 t e4 ?_⟩
    rw [List.length_cons] at h'
    rw [show k + 1 + L1.length = k + (L1.length + 1) by omega]
    exact h'
theorem ends_gt : ∀ (L : List S25) (k p : Nat) (x : Int), x ∈ endsL k p L → (p : Int) < x
  | [], _, _, x, h => nomatch h
  | e :: L, k, p, x, h => by
    rw [endsL] at h
    have hl : 0 < lsz k e := Nat.succ_pos _
    rcases List.mem_cons.1 h with rfl | h
    · omega
    · have := ends_gt L (k + 1) (p + lsz k e) x h
      omega
theorem ends_has : ∀ (L1 L2 : List S25) (k p : Nat), L1 ≠ [] → ((p + sizeL k L1 : Nat) : Int) ∈ endsL k p (L1 ++ L2)
  | [], _, _, _, h => absurd rfl h
  | [e], L2, k, p, _ => by
    rw [List.cons_append, endsL, sizeL, sizeL, Nat.add_zero]
    exact List.mem_cons_self ..
  | e :: e' :: L1, L2, k, p, _ => by
    have := ends_has (e' :: L1) L2 (k + 1) (p + lsz k e) (by simp)
    rw [List.cons_append, endsL, sizeL, ← Nat.add_assoc]
    exact List.mem_cons_of_mem _ this
theorem ends_cut : ∀ (L : List S25) (k p : Nat) (D P t : ByteArray), Parse k (D ++ P) L t → ((p + D.size : Nat) : Int) ∈ endsL k p L → ∃ L1, Parse k D L1 (⟨#[]⟩ : ByteArray)
  | [], _, _, _, _, _, _, h => nomatch h
  | e :: L, k, p, D, P, t, hP, h => by
    obtain ⟨a, b, e1, e2, e3, e4⟩ := hP
    have hz := enc_lsz e3
    have hsp : (a ++ one 10).size = a.size + 1 := by rw [ByteArray.size_append]; rfl
    rw [endsL] at h
    rcases List.mem_cons.1 h with h | h
    · have hD : D = a ++ one 10 := (ba_cut (b := P) (b' := b) e1 (by omega)).1
      refine ⟨[e], a, (⟨#[]⟩ : ByteArray), ?_, e2, e3, rfl, stop_nil _⟩
      rw [hD]; unfold cat; apply ba_list; rw [ba_app (a ++ one 10)]; simp
    · have h1 := ends_gt L (k + 1) (p + lsz k e) _ h
      have hh := ba_halves D (a.size + 1) (by omega)
      have hs1 : (D.extract 0 (a.size + 1)).size = a.size + 1 := by rw [ByteArray.size_extract]; omega
      have hs2 : (D.extract (a.size + 1) D.size).size = D.size - (a.size + 1) := by rw [ByteArray.size_extract]; omega
      have e5 : D.extract 0 (a.size + 1) ++ (D.extract (a.size + 1) D.size ++ P) = (a ++ one 10) ++ b := by
        rw [← ByteArray.append_assoc, ← hh]; exact e1
      obtain ⟨f1, f2⟩ := ba_cut e5 (by omega)
      rw [← f2] at e4
      obtain ⟨L1, hL⟩ := ends_cut L (k + 1) (p + lsz k e) (D.extract (a.size + 1) D.size) P t e4 (by
        rw [hs2, show p + lsz k e + (D.size - (a.size + 1)) = p + D.size by omega]; exact h)
      refine ⟨e :: L1, a, D.extract (a.size + 1) D.size, ?_, e2, e3, hL⟩
      unfold cat
      rw [← f1]; exact hh
def foldG (d : Int) (s : Bool × Int) (e : Int) : Bool × Int := (s.1 || e == d, e)
theorem fold1 (d : Int) : ∀ (r : List Int) (b : Bool) (v : Int), (r.foldl (foldG d) (b, v)).1 = (b || r.any (fun e => e == d))
  | [], b, v => by simp
  | e :: r, b, v => by
    rw [List.foldl_cons, foldG, fold1 d r, List.any_cons, Bool.or_assoc]
theorem fold2 (d : Int) : ∀ (r : List Int) (b : Bool) (v : Int), (r.foldl (foldG d) (b, v)).2 = r.getD (r.length - 1) v
  | [], b, v => rfl
  | [e], b, v => rfl
  | e :: e' :: r, b, v => by
    rw [List.foldl_cons, foldG, fold2 d (e' :: r)]
    show (e' :: r).getD r.length e = (e :: e' :: r).getD (r.length + 1) v
    rw [getD_in (by simp) e, getD_in (by simp) v]
    rfl
theorem readLoop (x4 : ByteArray) (x5 : List S25) (D P : ByteArray) (n : Int) (en : List Int) (hen : en.length ≤ 9223372036854775807) : ∀ (m i : Nat) (b : Bool) (v : Int), en.length - i = m → i ≤ en.length → Ev (fun q => impl_readLog.l0 q x4 x5 b v en (en.length : Int) (i : Int) D P n) (x5, ((en.drop i).foldl (foldG D.size) (b, v)).1 && (decide (((en.drop i).foldl (foldG D.size) (b, v)).2 = (x4.size : Int)) && ((x5.length : Int) == n))) := by
  intro m
  induction m with
  | zero =>
    intro i b v hm hi
    obtain rfl : i = en.length := by omega
    rw [List.drop_length, List.foldl_nil]
    refine Ev.step (fun k => rfl) (ev_neg (by omega) (ev_ite (fun c => ev_ite (fun d => ev_now ?_) (fun d => ev_now ?_)) (fun c => ev_now ?_)))
    · rw [c, decide_eq_true d]; rfl
    · rw [c, decide_eq_false d]; rfl
    · rw [Bool.not_eq_true] at c; rw [c]; rfl
  | succ m ih =>
    intro i b v hm hi
    have hlt : i < en.length := by omega
    have hrd : rd en (i : Int) = en[i] := by rw [rd_nat]; exact getD_in hlt 0
    rw [List.drop_eq_getElem_cons hlt, List.foldl_cons]
    have h1 := ih (i + 1) (b || en[i] == (D.size : Int)) en[i] (by omega) (by omega)
    refine Ev.step (fun k => rfl) (ev_pos (by omega) (ev_pos (by omega) (ev_pos (by omega) ?_)))
    rw [wrap_succ hlt hen, hrd]
    refine ev_ite (fun c => ?_) (fun c => ?_)
    · rw [c, Bool.true_or] at h1
      rw [foldG, c, Bool.true_or]
      exact h1
    · rw [Bool.not_eq_true] at c
      rw [c, Bool.false_or] at h1
      rw [foldG, c, Bool.false_or]
      exact h1
theorem log_ev (D P : ByteArray) (n : Int) (hs : D.size + P.size ≤ 4194304) : ∃ b L, Ev (fun k => spec_l27Log.f k D P n) b ∧ Ev (fun k => impl_readLog.f k D P n) (L, b) ∧ (b = true → Parse 0 (D ++ P) L (⟨#[]⟩ : ByteArray) ∧ (L.length : Int) = n) := by
  obtain ⟨L, t, hL⟩ := parse_ex (D ++ P).size (D ++ P) 0 (Nat.le_refl _)
  obtain ⟨L1, t1, hL1⟩ := parse_ex D.size D 0 (Nat.le_refl _)
  have hz : (D ++ P).size = D.size + P.size := ByteArray.size_append
  have hzL := parse_size L 0 _ t hL
  have hzL1 := parse_size L1 0 _ t1 hL1
  have hn := parse_len L 0 _ t hL (by omega)
  have hel := ends_len L 0 0
  have hw : wrap64 ((D.size : Int) + (P.size : Int)) = (D.size : Int) + (P.size : Int) := wrap_id (by omega) (by omega)
  have himpl : Ev (fun k => impl_readLog.f k D P n) (L, (((D.size : Int) == 0) || (endsL 0 0 L).any (fun e => e == (D.size : Int))) && (decide ((sizeL 0 L : Int) = ((D ++ P).size : Int)) && ((L.length : Int) == n))) := by
    unfold impl_readLog.f
    refine ev_pos (by omega) (Ev.bind (implRead_ev (D ++ P) L t hL (by omega)) ?_)
    have h := readLoop (D ++ P) L D P n (endsL 0 0 L) (by omega) _ 0 ((D.size : Int) == 0) 0 rfl (Nat.zero_le _)
    rw [List.drop_zero, fold1, fold2] at h
    have hl : (endsL 0 0 L).getD ((endsL 0 0 L).length - 1) 0 = (sizeL 0 L : Int) := by
      rcases L with _ | ⟨e, L⟩
      · rfl
      · rw [ends_len, ends_last _ 0 0 (by simp), Nat.zero_add]
    rw [hl] at h
    exact h
  by_cases hA : sizeL 0 L = D.size + P.size
  case neg =>
    refine ⟨false, L, ?_, ?_, fun h => nomatch h⟩
    · unfold spec_l27Log.f
      rw [hw]
      refine ev_ite (fun _ => ev_now rfl) (fun _ => ev_pos (by omega) (Ev.bind (specOpen_ev _ L t hL (by omega)) (Ev.bind (specOpen_ev _ L1 t1 hL1 (by omega)) (ev_neg (by omega) (ev_now rfl)))))
    · refine ev_cast himpl ?_
      rw [decide_eq_false (by omega)]; simp
  have ht : t = (⟨#[]⟩ : ByteArray) := size_nil (by omega)
  subst ht
  have key : sizeL 0 L1 = D.size ↔ (((D.size : Int) == 0) || (endsL 0 0 L).any (fun e => e == (D.size : Int))) = true := by
    rw [Bool.or_eq_true, beq_iff_eq, List.any_eq_true]
    constructor
    · intro h
      have ht1 : t1 = (⟨#[]⟩ : ByteArray) := size_nil (by omega)
      subst ht1
      obtain ⟨L2, t2, hL2⟩ := parse_ex P.size P (0 + L1.length) (Nat.le_refl _)
      have h3 := parse_app L1 0 D P L2 t2 hL1 hL2
      obtain ⟨rfl, _⟩ := parse_uniq _ _ 0 _ _ _ hL h3
      rcases L1 with _ | ⟨e, L1⟩
      · left
        rw [sizeL] at h
        omega
      · right
        have := ends_has (e :: L1) L2 0 0 (by simp)
        rw [h, Nat.zero_add] at this
        exact ⟨_, this, beq_self_eq_true _⟩
    · rintro (h | ⟨x, hx, e⟩)
      · have hD : D.size = 0 := by omega
        rw [hD] at hzL1
        omega
      · rw [beq_iff_eq] at e
        subst e
        obtain ⟨L3, h3⟩ := ends_cut L 0 0 D P _ hL (by rw [Nat.zero_add]; exact hx)
        obtain ⟨rfl, rfl⟩ := parse_uniq _ _ 0 _ _ _ hL1 h3
        rw [show (⟨#[]⟩ : ByteArray).size = 0 from rfl] at hzL1
        omega
  refine ⟨_, L, ?_, himpl, fun h => ⟨hL, ?_⟩⟩
  · unfold spec_l27Log.f
    rw [hw]
    refine ev_neg (by omega) (ev_pos (by omega) (Ev.bind (specOpen_ev _ L _ hL (by omega)) (Ev.bind (specOpen_ev _ L1 t1 hL1 (by omega)) (ev_pos (by omega) ?_))))
    rw [decide_eq_true (show (sizeL 0 L : Int) = ((D ++ P).size : Int) by omega), Bool.true_and]
    refine ev_ite (fun c => ev_now ?_) (fun c => ev_now ?_)
    · rw [key.1 (by omega), Bool.true_and]
    · have : (((D.size : Int) == 0) || (endsL 0 0 L).any (fun e => e == (D.size : Int))) = false := by
        rw [Bool.eq_false_iff]; intro h; have := key.2 h; omega
      rw [this]; rfl
  · rw [Bool.and_eq_true, Bool.and_eq_true] at h
    exact beq_iff_eq.1 h.2.2
end Go.Proofs.YtkdibcifamlciaaDoor.X
namespace Go.Proofs.YtkdibcifamlciaaDoor.X
open Go.RowKit Go.Proofs.YtkdibcifamlciaaDoorW.PrintWords Go.Proofs.YtkdibcifamlciaaDoorW.PrintLast Go.Proofs.YtkdibcifamlciaaDoorW.PrintMore
attribute [local go_sem] max2_int min2_int max_two min_two max_three min_three max_four min_four   -- for this text's walks alone
set_option linter.unusedVariables false
set_option linter.unusedSimpArgs false
attribute [-simp] ByteArray.size_append ByteArray.size_extract
attribute [-go_sem] ByteArray.size_append'

/-! ### impl_AppendRecord: function 16 -/
def impl_AppendRecord.j0 : Nat → Bool → ByteArray → ByteArray → Int → ByteArray → ByteArray → Option (ByteArray × ByteArray × Int × Int)
 | 0, _, _, _, _, _, _ => none
 | k + 1, x15, x102000, x102001, x102002, x103000, x103001 => if x15 = true then (some (x102000, x102001, x102002, 1)) else ((impl_EncodeRecord.f k x102002 x103000 x103001).bind fun bt106 => (if bt106.2 = true then (if x102001.size + bt106.1.size ≤ 9223372036854775807 then (some (x102000, x102001 ++ bt106.1, wrap64 (x102002 + 1), 0)) else (none)) else (some (x102000, x102001, x102002, 2))))
def impl_AppendRecord.f (k : Nat) (a0_0 : ByteArray) (a0_1 : ByteArray) (a0_2 : Int) (a1_0 : ByteArray) (a1_1 : ByteArray) : Option (ByteArray × ByteArray × Int × Int) := (impl_IsValidLog.f k a0_0 a0_1 a0_2).bind fun t104 => (if t104 = true then ((impl_IsValidLogRecord.f k a1_0 a1_1).bind fun t105 => (impl_AppendRecord.j0 k (!t105) a0_0 a0_1 a0_2 a1_0 a1_1)) else (impl_AppendRecord.j0 k true a0_0 a0_1 a0_2 a1_0 a1_1))
set_option maxHeartbeats 8000000 in
set_option maxRecDepth 100000 in
theorem impl_AppendRecord.calls (k : Nat) (a0_0 : ByteArray) (a0_1 : ByteArray) (a0_2 : Int) (a1_0 : ByteArray) (a1_1 : ByteArray) (r1 : ByteArray) (r2 : ByteArray) (r3 : Int) (r4 : Int) (w : World) (hG : GT w) (h : impl_AppendRecord.f k a0_0 a0_1 a0_2 a1_0 a1_1 = some (r1, r2, r3, r4)) :
  Calls Tryd.prog 16 #[.agg #[.string a0_0, .string a0_1, .int .i64 a0_2], .agg #[.string a1_0, .string a1_1]] w fun e w' => e = .returned (.tuple #[.agg #[.string r1, .string r2, .int .i64 r3], .int .i64 r4]) ∧ Below w.heap.size w w' := by
 (have hu32 := Tryd.underlying32); (have hu25 := Tryd.underlying25); (have HG := Aside0.mk hG); clear hG; (have HB := Aside0.mk (Below.refl w.heap.size w)); (unfold impl_AppendRecord.f at h); (have H := h); clear h; (have HC3 := Aside0.mk H); clear H; (go_enter Tryd.func16, Tryd.ntmps16); (go_upto_region 1 with (first | ((with_reducible refine gate_dst (N := 2) rfl ?_); refine box_event ?hg (N := 2) ?hd (cs := #[.string a0_0, .string a0_1, .int .i64 a0_2]) (t := 32) ?hr ?_; (case hd => rfl); (case hg => rfl); (case hr => first | (go_simp; done) | (go_simp; rfl)); intro gb101 hg w4 hbox hb; have hB_ := zI hb HB; have n0_ := Aside0.mk (below_step hB_ hb); have n1_ := Aside0.mk (hbox); have n2_ := Aside0.mk (bx0 hg hB_); have n3_ := n2_; clear HB; have HB := n0_; have BK101 := n1_; have GW101 := n2_; have GE101 := n3_; clear n0_ n1_ n2_ n3_ hB_ hb hbox hg) | ((with_reducible refine gate_dst (N := 3) rfl ?_); refine box_event ?hg (N := 3) ?hd (cs := #[.string a1_0, .string a1_1]) (t := 25) ?hr ?_; (case hd => rfl); (case hg => rfl); (case hr => first | (go_simp; done) | (go_simp; rfl)); intro gb102 hg w5 hbox hb; have n0_ := Aside0.mk (kbI hb BK101); have hB_ := zI hb HB; have n1_ := Aside0.mk (below_step hB_ hb); have n2_ := Aside0.mk (hbox); have n3_ := Aside0.mk (bx0 hg hB_); have n4_ := n3_; have n5_ := Aside0.mk ((by rw [hg]; exact Nat.ne_of_lt (blk_lt (kI BK101)) : gb101 ≠ gb102)); have n6_ := Aside0.mk (Ne.symm n5_.out); clear BK101 HB; have BK101 := n0_; have HB := n1_; have BK102 := n2_; have GW102 := n3_; have GE102 := n4_; have NB101_102 := n5_; have NB102_101 := n6_; clear n0_ n1_ n2_ n3_ n4_ n5_ n6_ hB_ hb hbox hg) | ((with_reducible refine gate_dst (N := 4) rfl ?_); refine box_event ?hg (N := 4) ?hd (cs := #[.string (⟨#[]⟩ : ByteArray), .string (⟨#[]⟩ : ByteArray), .int .i64 0]) (t := 32) ?hr ?_; (case hd => rfl); (case hg => rfl); (case hr => first | (go_simp; done) | (go_simp; rfl)); intro gb103 hg w6 hbox hb; have n0_ := Aside0.mk (kbI hb BK101); have n1_ := Aside0.mk (kbI hb BK102); have hB_ := zI hb HB; have n2_ := Aside0.mk (below_step hB_ hb); have n3_ := Aside0.mk (hbox); have n4_ := Aside0.mk (bx0 hg hB_); have n5_ := n4_; have n6_ := Aside0.mk ((by rw [hg]; exact Nat.ne_of_lt (blk_lt (kI BK101)) : gb101 ≠ gb103)); have n7_ := Aside0.mk (Ne.symm n6_.out); have n8_ := Aside0.mk ((by rw [hg]; exact Nat.ne_of_lt (blk_lt (kI BK102)) : gb102 ≠ gb103)); have n9_ := Aside0.mk (Ne.symm n8_.out); clear BK101 BK102 HB; have BK101 := n0_; have BK102 := n1_; have HB := n2_; have BK103 := n3_; have GW103 := n4_; have GE103 := n5_; have NB101_103 := n6_; have NB103_101 := n7_; have NB102_103 := n8_; have NB103_102 := n9_; clear n0_ n1_ n2_ n3_ n4_ n5_ n6_ n7_ n8_ n9_ hB_ hb hbox hg))); ((try simp only [Act.put, aS1, aS2, aS3])); (go_cut [15] (fun v15 wc => ∃ (kq : Nat) (x15_2 : Bool), v15 = .bool x15_2 ∧ Aside0 (impl_AppendRecord.j0 kq x15_2 a0_0 a0_1 a0_2 a1_0 a1_1 = some (r1, r2, r3, r4)) ∧ Aside0 (kq ≤ k) ∧ Aside0 (wc.heap[gb101]? = some (.cells #[.string a0_0, .string a0_1, .int .i64 a0_2] 32 (0, 0))) ∧ Aside0 (wc.heap[gb102]? = some (.cells #[.string a1_0, .string a1_1] 25 (0, 0))) ∧ Aside0 (wc.heap[gb103]? = some (.cells #[.string (⟨#[]⟩ : ByteArray), .string (⟨#[]⟩ : ByteArray), .int .i64 0] 32 (0, 0))) ∧ Aside0 (Below w.heap.size w wc)))
 case first =>
  (have H := HC3.out); clear HC3; (replace H := obS H); (obtain ⟨t104, A7, H⟩ := H); (by_cases c8 : t104 = true)
  ·subst c8
   (rw [if_pos rfl] at H); (replace H := obS H); (obtain ⟨t105, A9, H⟩ := H); (have H' := Aside0.mk H); clear H; (have hnb10 := NB101_102.out); (have hnc10 := NB102_101.out); (have hnb11 := NB101_103.out); (have hnc11 := NB103_101.out); (have hcz12_0 := cz BK101.out 0); (have hcz12_1 := cz BK101.out 1); (have hcz12_2 := cz BK101.out 2); (have hfz12_0 := blk_frozen BK101.out 0); (have hfz12_1 := blk_frozen BK101.out 1); (have hfz12_2 := blk_frozen BK101.out 2); (go_wp2_with (first | ((with_reducible refine gate_callee (f := 14) rfl ?_); refine gL (some 9) Tryd.func14 #[.agg #[.string a0_0, .string a0_1, .int .i64 a0_2]] ?_; (with_reducible refine (impl_IsValidLog.calls k a0_0 a0_1 a0_2 true _ ?side1 A7.out).mono ?_); (case side1 => first | exact GT.below HG.out (eI HB) | (repeat (first | exact HG.out | (with_reducible first | apply GT.drewN | apply GT.drew | apply GT.alloc)))); rintro e w13 ⟨rfl, hb⟩; refine ⟨_, rfl, ?_⟩; have n0_ := Aside0.mk (kbI hb BK101); have n1_ := Aside0.mk (kbI hb BK102); have n2_ := Aside0.mk (kbI hb BK103); have n3_ := Aside0.mk (sI hb HB); clear BK101 BK102 BK103 HB; have BK101 := n0_; have BK102 := n1_; have BK103 := n2_; have HB := n3_; clear n0_ n1_ n2_ n3_; (try clear hb); (try clear hb2); (try clear hk); (try clear hi); have hnb14 := NB102_103.out; have hnc14 := NB103_102.out; have hcz15_0 := cz BK102.out 0; have hcz15_1 := cz BK102.out 1; have hfz15_0 := blk_frozen BK102.out 0; have hfz15_1 := blk_frozen BK102.out 1) | (go_at_call 19; (with_reducible refine (impl_IsValidLogRecord.calls k a1_0 a1_1 t105 _ A9.out).mono ?_); rintro e w16 ⟨rfl, hb⟩; have n0_ := Aside0.mk (kbI hb BK101); have n1_ := Aside0.mk (kbI hb BK102); have n2_ := Aside0.mk (kbI hb BK103); have n3_ := Aside0.mk (sI hb HB); clear BK101 BK102 BK103 HB; have BK101 := n0_; have BK102 := n1_; have BK103 := n2_; have HB := n3_; clear n0_ n1_ n2_ n3_; (try clear hb); (try clear hb2); (try clear hk); (try clear hi)))); (go_meet)
   case rel => exact ⟨_, (!t105), (by first | rfl | (simp; done) | (simp [*]; done)), H', ⟨by first | omega | exact Nat.le_refl _⟩, ⟨kI BK101⟩, ⟨kI BK102⟩, ⟨kI BK103⟩, ⟨eI HB⟩⟩
  ·replace c8 := Bool.eq_false_iff.mpr c8
   subst c8; (rw [if_neg (show ¬ (false = true) by decide)] at H); (have H' := Aside0.mk H); clear H; (have hnb17 := NB101_102.out); (have hnc17 := NB102_101.out); (have hnb18 := NB101_103.out); (have hnc18 := NB103_101.out); (have hcz19_0 := cz BK101.out 0); (have hcz19_1 := cz BK101.out 1); (have hcz19_2 := cz BK101.out 2); (have hfz19_0 := blk_frozen BK101.out 0); (have hfz19_1 := blk_frozen BK101.out 1); (have hfz19_2 := blk_frozen BK101.out 2); (go_wp2_with (first | ((with_reducible refine gate_callee (f := 14) rfl ?_); refine gL (some 9) Tryd.func14 #[.agg #[.string a0_0, .string a0_1, .int .i64 a0_2]] ?_; (with_reducible refine (impl_IsValidLog.calls k a0_0 a0_1 a0_2 false _ ?side1 A7.out).mono ?_); (case side1 => first | exact GT.below HG.out (eI HB) | (repeat (first | exact HG.out | (with_reducible first | apply GT.drewN | apply GT.drew | apply GT.alloc)))); rintro e w20 ⟨rfl, hb⟩; refine ⟨_, rfl, ?_⟩; have n0_ := Aside0.mk (kbI hb BK101); have n1_ := Aside0.mk (kbI hb BK102); have n2_ := Aside0.mk (kbI hb BK103); have n3_ := Aside0.mk (sI hb HB); clear BK101 BK102 BK103 HB; have BK101 := n0_; have BK102 := n1_; have BK103 := n2_; have HB := n3_; clear n0_ n1_ n2_ n3_; (try clear hb); (try clear hb2); (try clear hk); (try clear hi)))); (go_meet)
   case rel => exact ⟨_, (true), (by first | rfl | (simp; done) | (simp [*]; done)), H', ⟨by first | omega | exact Nat.le_refl _⟩, ⟨kI BK101⟩, ⟨kI BK102⟩, ⟨kI BK103⟩, ⟨eI HB⟩⟩
 case rest =>
  clear HC3; (try clear c1); (try clear p2); (try clear c8); (try clear c10); (try clear c11); (try clear c14); (try clear c16); (try clear c17); (try clear c18); (try clear hcz12_0); (try clear hcz12_1); (try clear hcz12_2); (try clear hcz15_0); (try clear hcz15_1); (try clear hcz19_0); (try clear hcz19_1); (try clear hcz19_2); (try clear hfz12_0); (try clear hfz12_1); (try clear hfz12_2); (try clear hfz15_0); (try clear hfz15_1); (try clear hfz19_0); (try clear hfz19_1); (try clear hfz19_2); (obtain ⟨kq, x15_2, rfl, HA, HJ2, BK101, BK102, BK103, HB⟩ := hcut)
  cases kq with
  | zero => exact absurd HA.out (by simp [impl_AppendRecord.j0])
  | succ kj2 =>
   (have H := HA.out); clear HA; (simp only [impl_AppendRecord.j0] at H); (by_cases c21 : x15_2 = true)
   ·subst c21
    (rw [if_pos rfl] at H); (simp only [Option.some.injEq, Prod.mk.injEq] at H); (obtain ⟨rfl, rfl, rfl, rfl⟩ := H); (have hnb22 := NB101_102.out); (have hnc22 := NB102_101.out); (have hnb23 := NB101_103.out); (have hnc23 := NB103_101.out); (have hcz24_0 := cz BK101.out 0); (have hcz24_1 := cz BK101.out 1); (have hcz24_2 := cz BK101.out 2); (have hfz24_0 := blk_frozen BK101.out 0); (have hfz24_1 := blk_frozen BK101.out 1); (have hfz24_2 := blk_frozen BK101.out 2); (have hnb25 := NB103_102.out); (have hnc25 := NB102_103.out); (have hcz26_0 := cz BK103.out 0); (have hcz26_1 := cz BK103.out 1); (have hcz26_2 := cz BK103.out 2); (have hfz26_0 := blk_frozen BK103.out 0); (have hfz26_1 := blk_frozen BK103.out 1); (have hfz26_2 := blk_frozen BK103.out 2); (go_wp2); (refine bodyPost_ret (results_ct rfl _ _ gb103 32 #[.string a0_0, .string a0_1, .int .i64 a0_2] (0, 0) _ rfl (by (with_reducible repeat (first | refine kN ?_ _ | refine kD ?_ | refine kA ?_ _)); refine blk_put (cs := #[.string a0_0, .string a0_1, .int .i64 0]) ?_ 2 _ rfl; (with_reducible repeat (first | refine kN ?_ _ | refine kD ?_ | refine kA ?_ _)); refine blk_put (cs := #[.string a0_0, .string (⟨#[]⟩ : ByteArray), .int .i64 0]) ?_ 1 _ rfl; (with_reducible repeat (first | refine kN ?_ _ | refine kD ?_ | refine kA ?_ _)); refine blk_put (cs := #[.string (⟨#[]⟩ : ByteArray), .string (⟨#[]⟩ : ByteArray), .int .i64 0]) ?_ 0 _ rfl; (with_reducible repeat (first | refine kN ?_ _ | refine kD ?_ | refine kA ?_ _)); exact BK103.out) Tryd.underlying32 rfl (by kernel_rfl)) rfl ?_); (exact ⟨by first | rfl | (simp [errW_none, errW_some] <;> rfl) | (simp [*, errW_none, errW_some] <;> rfl), by repeat (first | (with_reducible first | exact HB.out | apply bA | apply bN | apply bD | refine below_set ?_ GE101.out | refine below_set ?_ GE102.out | refine below_set ?_ GE103.out) | exact HB.out)⟩)
   ·replace c21 := Bool.eq_false_iff.mpr c21
    subst c21; (rw [if_neg (show ¬ (false = true) by decide)] at H); (replace H := obS H); (obtain ⟨⟨t106, t107⟩, A27, H⟩ := H); (replace H : (if t107 = true then (if a0_1.size + t106.size ≤ 9223372036854775807 then (some (a0_0, a0_1 ++ t106, wrap64 (a0_2 + 1), 0)) else (none)) else (some (a0_0, a0_1, a0_2, 2))) = some (r1, r2, r3, r4) := H); (by_cases c28 : t107 = true)
    ·subst c28
     (rw [if_pos rfl] at H); (by_cases c29 : a0_1.size + t106.size ≤ 9223372036854775807)
     ·rw [if_pos c29] at H
      (have c29b0 := eq_true c29); (have c29b1 := decide_eq_true c29); (try have c29b2 : (9223372036854775807 < a0_1.size + t106.size) = False := eq_false (Nat.not_lt.2 c29)); (simp only [Option.some.injEq, Prod.mk.injEq] at H); (obtain ⟨rfl, rfl, rfl, rfl⟩ := H); (have hnb30 := NB101_102.out); (have hnc30 := NB102_101.out); (have hnb31 := NB101_103.out); (have hnc31 := NB103_101.out); (have hcz32_0 := cz BK101.out 0); (have hcz32_1 := cz BK101.out 1); (have hcz32_2 := cz BK101.out 2); (have hfz32_0 := blk_frozen BK101.out 0); (have hfz32_1 := blk_frozen BK101.out 1); (have hfz32_2 := blk_frozen BK101.out 2); (have hnb33 := NB102_103.out); (have hnc33 := NB103_102.out); (have hcz34_0 := cz BK102.out 0); (have hcz34_1 := cz BK102.out 1); (have hfz34_0 := blk_frozen BK102.out 0); (have hfz34_1 := blk_frozen BK102.out 1); (go_wp2_with (first | ((with_reducible refine gate_callee (f := 8) rfl ?_); refine gL (some 21) Tryd.func8 #[.int .i64 a0_2, .agg #[.string a1_0, .string a1_1]] ?_; (with_reducible refine (impl_EncodeRecord.calls kj2 a0_2 a1_0 a1_1 t106 true _ ?side1 A27.out).mono ?_); (case side1 => first | exact GT.below HG.out (eI HB) | (repeat (first | exact HG.out | (with_reducible first | apply GT.drewN | apply GT.drew | apply GT.alloc)))); rintro e w35 ⟨rfl, hb⟩; refine ⟨_, rfl, ?_⟩; have n0_ := Aside0.mk (kbI hb BK101); have n1_ := Aside0.mk (kbI hb BK102); have n2_ := Aside0.mk (kbI hb BK103); have n3_ := Aside0.mk (sI hb HB); clear BK101 BK102 BK103 HB; have BK101 := n0_; have BK102 := n1_; have BK103 := n2_; have HB := n3_; clear n0_ n1_ n2_ n3_; (try clear hb); (try clear hb2); (try clear hk); (try clear hi); have hcz36_0 := cz BK101.out 0; have hcz36_1 := cz BK101.out 1; have hcz36_2 := cz BK101.out 2; have hfz36_0 := blk_frozen BK101.out 0; have hfz36_1 := blk_frozen BK101.out 1; have hfz36_2 := blk_frozen BK101.out 2; have hcz37_0 := cz BK103.out 0; have hcz37_1 := cz BK103.out 1; have hcz37_2 := cz BK103.out 2; have hfz37_0 := blk_frozen BK103.out 0; have hfz37_1 := blk_frozen BK103.out 1; have hfz37_2 := blk_frozen BK103.out 2))); (refine bodyPost_ret (results_ct rfl _ _ gb103 32 #[.string a0_0, .string (a0_1 ++ t106), .int .i64 (wrap64 (a0_2 + 1))] (0, 0) _ rfl (by (with_reducible repeat (first | refine kN ?_ _ | refine kD ?_ | refine kA ?_ _)); refine blk_put (cs := #[.string a0_0, .string (a0_1 ++ t106), .int .i64 0]) ?_ 2 _ rfl; (with_reducible repeat (first | refine kN ?_ _ | refine kD ?_ | refine kA ?_ _)); refine blk_put (cs := #[.string a0_0, .string (⟨#[]⟩ : ByteArray), .int .i64 0]) ?_ 1 _ rfl; (with_reducible repeat (first | refine kN ?_ _ | refine kD ?_ | refine kA ?_ _)); refine blk_put (cs := #[.string (⟨#[]⟩ : ByteArray), .string (⟨#[]⟩ : ByteArray), .int .i64 0]) ?_ 0 _ rfl; (with_reducible repeat (first | refine kN ?_ _ | refine kD ?_ | refine kA ?_ _)); exact BK103.out) Tryd.underlying32 rfl (by kernel_rfl)) rfl ?_); (exact ⟨by first | rfl | (simp [errW_none, errW_some] <;> rfl) | (simp [*, errW_none, errW_some] <;> rfl), by repeat (first | (with_reducible first | exact HB.out | apply bA | apply bN | apply bD | refine below_set ?_ GE101.out | refine below_set ?_ GE102.out | refine below_set ?_ GE103.out) | exact HB.out)⟩)
     ·rw [if_neg c29] at H
      exact absurd H (by simp)
    ·replace c28 := Bool.eq_false_iff.mpr c28
     subst c28; (rw [if_neg (show ¬ (false = true) by decide)] at H); (simp only [Option.some.injEq, Prod.mk.injEq] at H); (obtain ⟨rfl, rfl, rfl, rfl⟩ := H); (have hnb38 := NB101_102.out); (have hnc38 := NB102_101.out); (have hnb39 := NB101_103.out); (have hnc39 := NB103_101.out); (have hcz40_0 := cz BK101.out 0); (have hcz40_1 := cz BK101.out 1); (have hcz40_2 := cz BK101.out 2); (have hfz40_0 := blk_frozen BK101.out 0); (have hfz40_1 := blk_frozen BK101.out 1); (have hfz40_2 := blk_frozen BK101.out 2); (have hnb41 := NB102_103.out); (have hnc41 := NB103_102.out); (have hcz42_0 := cz BK102.out 0); (have hcz42_1 := cz BK102.out 1); (have hfz42_0 := blk_frozen BK102.out 0); (have hfz42_1 := blk_frozen BK102.out 1); (go_wp2_with (first | ((with_reducible refine gate_callee (f := 8) rfl ?_); refine gL (some 21) Tryd.func8 #[.int .i64 a0_2, .agg #[.string a1_0, .string a1_1]] ?_; (with_reducible refine (impl_EncodeRecord.calls kj2 a0_2 a1_0 a1_1 t106 false _ ?side1 A27.out).mono ?_); (case side1 => first | exact GT.below HG.out (eI HB) | (repeat (first | exact HG.out | (with_reducible first | apply GT.drewN | apply GT.drew | apply GT.alloc)))); rintro e w43 ⟨rfl, hb⟩; refine ⟨_, rfl, ?_⟩; have n0_ := Aside0.mk (kbI hb BK101); have n1_ := Aside0.mk (kbI hb BK102); have n2_ := Aside0.mk (kbI hb BK103); have n3_ := Aside0.mk (sI hb HB); clear BK101 BK102 BK103 HB; have BK101 := n0_; have BK102 := n1_; have BK103 := n2_; have HB := n3_; clear n0_ n1_ n2_ n3_; (try clear hb); (try clear hb2); (try clear hk); (try clear hi); have hcz44_0 := cz BK101.out 0; have hcz44_1 := cz BK101.out 1; have hcz44_2 := cz BK101.out 2; have hfz44_0 := blk_frozen BK101.out 0; have hfz44_1 := blk_frozen BK101.out 1; have hfz44_2 := blk_frozen BK101.out 2; have hcz45_0 := cz BK103.out 0; have hcz45_1 := cz BK103.out 1; have hcz45_2 := cz BK103.out 2; have hfz45_0 := blk_frozen BK103.out 0; have hfz45_1 := blk_frozen BK103.out 1; have hfz45_2 := blk_frozen BK103.out 2))); (refine bodyPost_ret (results_ct rfl _ _ gb103 32 #[.string a0_0, .string a0_1, .int .i64 a0_2] (0, 0) _ rfl (by (with_reducible repeat (first | refine kN ?_ _ | refine kD ?_ | refine kA ?_ _)); refine blk_put (cs := #[.string a0_0, .string a0_1, .int .i64 0]) ?_ 2 _ rfl; (with_reducible repeat (first | refine kN ?_ _ | refine kD ?_ | refine kA ?_ _)); refine blk_put (cs := #[.string a0_0, .string (⟨#[]⟩ : ByteArray), .int .i64 0]) ?_ 1 _ rfl; (with_reducible repeat (first | refine kN ?_ _ | refine kD ?_ | refine kA ?_ _)); refine blk_put (cs := #[.string (⟨#[]⟩ : ByteArray), .string (⟨#[]⟩ : ByteArray), .int .i64 0]) ?_ 0 _ rfl; (with_reducible repeat (first | refine kN ?_ _ | refine kD ?_ | refine kA ?_ _)); exact BK103.out) Tryd.underlying32 rfl (by kernel_rfl)) rfl ?_); (exact ⟨by first | rfl | (simp [errW_none, errW_some] <;> rfl) | (simp [*, errW_none, errW_some] <;> rfl), by repeat (first | (with_reducible first | exact HB.out | apply bA | apply bN | apply bD | refine below_set ?_ GE101.out | refine below_set ?_ GE102.out | refine below_set ?_ GE103.out) | exact HB.out)⟩)

end Go.Proofs.YtkdibcifamlciaaDoor.X
set_option linter.unusedVariables false
set_option linter.unusedSimpArgs false
namespace Go.Proofs.YtkdibcifamlciaaDoor.X
open Go.RowKit Go.Proofs.YtkdibcifamlciaaDoorW.PrintWords Go.Proofs.YtkdibcifamlciaaDoor.E
abbrev LR := S25
abbrev nilB : ByteArray := ⟨#[]⟩
structure GoodL (D P : ByteArray) (n : Int) (L : List LR) : Prop where
  small : D.size + P.size ≤ 30000
  dur : ∃ L1, Parse 0 D L1 nilB
  all : Parse 0 (D ++ P) L nilB
  count : (L.length : Int) = n
theorem goodL_count {D P : ByteArray} {n : Int} {L : List LR} (h : GoodL D P n L) : 0 ≤ n ∧ n ≤ 60 := by
  have := (parse_len L 0 _ _ h.all (by omega)).1
  have := h.count
  omega
theorem log_iff (D P : ByteArray) (n : Int) (hs : D.size + P.size ≤ 4194304) : ∃ b L, Ev (fun k => spec_l27Log.f k D P n) b ∧ Ev (fun k => impl_readLog.f k D P n) (L, b) ∧ (b = true → GoodL D P n L) ∧ (∀ L', GoodL D P n L' → b = true ∧ L' = L) := by
  obtain ⟨b, L0, h1, h2, h3⟩ := log_ev D P n hs
  obtain ⟨L, t, hL⟩ := parse_ex (D ++ P).size (D ++ P) 0 (Nat.le_refl _)
  obtain ⟨L1, t1, hL1⟩ := parse_ex D.size D 0 (Nat.le_refl _)
  have hz : (D ++ P).size = D.size + P.size := ByteArray.size_append
  have hzL := parse_size L 0 _ t hL
  have hzL1 := parse_size L1 0 _ t1 hL1
  have hw : wrap64 ((D.size : Int) + (P.size : Int)) = (D.size : Int) + (P.size : Int) := wrap_id (by omega) (by omega)
  have hnz : (nilB).size = 0 := rfl
  have hspec : Ev (fun k => spec_l27Log.f k D P n) (if D.size + P.size ≤ 30000 then (if sizeL 0 L = D.size + P.size then (if sizeL 0 L1 = D.size then ((L.length : Int) == n) else false) else false) else false) := by
    unfold spec_l27Log.f
    rw [hw]
    by_cases c : D.size + P.size ≤ 30000
    · rw [if_pos c]
      refine ev_neg (by omega) (ev_pos (by omega) (Ev.bind (specOpen_ev _ L t hL (by omega)) (Ev.bind (specOpen_ev _ L1 t1 hL1 (by omega)) ?_)))
      by_cases c1 : sizeL 0 L = D.size + P.size
      · rw [if_pos c1]
        refine ev_pos (by omega) ?_
        by_cases c2 : sizeL 0 L1 = D.size
        · rw [if_pos c2]
          exact ev_pos (by omega) (ev_now rfl)
        · rw [if_neg c2]
          exact ev_neg (by omega) (ev_now rfl)
      · rw [if_neg c1]
        exact ev_neg (by omega) (ev_now rfl)
    · rw [if_neg c]
      exact ev_pos (by omega) (ev_now rfl)
  have hb := ev_unique h1 hspec
  refine ⟨b, L0, h1, h2, fun e => ?_, fun L' g => ?_⟩
  · obtain ⟨g1, g2⟩ := h3 e
    rw [e] at hb
    by_cases c : D.size + P.size ≤ 30000
    · rw [if_pos c] at hb
      by_cases c1 : sizeL 0 L = D.size + P.size
      · rw [if_pos c1] at hb
        by_cases c2 : sizeL 0 L1 = D.size
        · refine ⟨c, ⟨L1, ?_⟩, g1, g2⟩
          have : t1 = nilB := size_nil (by omega)
          rw [← this]
          exact hL1
        · rw [if_neg c2] at hb; cases hb
      · rw [if_neg c1] at hb; cases hb
    · rw [if_neg c] at hb; cases hb
  · obtain ⟨g1, ⟨M1, g2⟩, g3, g4⟩ := g
    obtain ⟨rfl, rfl⟩ := parse_uniq _ _ 0 _ _ _ hL g3
    obtain ⟨rfl, rfl⟩ := parse_uniq _ _ 0 _ _ _ hL1 g2
    rw [if_pos g1, if_pos (by omega), if_pos (by omega), g4, beq_self_eq_true] at hb
    refine ⟨hb, ?_⟩
    exact (parse_uniq _ _ 0 _ _ _ (h3 hb).1 g3).1.symm
theorem valid_iff (D P : ByteArray) (n : Int) (hs : D.size + P.size ≤ 4194304) : ∃ b L, Ev (fun k => spec_l27Log.f k D P n) b ∧ Ev (fun k => impl_IsValidLog.f k D P n) b ∧ Ev (fun k => impl_readLog.f k D P n) (L, b) ∧ (b = true → GoodL D P n L) ∧ (∀ L', GoodL D P n L' → b = true ∧ L' = L) := by
  obtain ⟨b, L, h1, h2, h3, h4⟩ := log_iff D P n hs
  exact ⟨b, L, h1, Ev.bind h2 (ev_now rfl), h2, h3, h4⟩
/-- A record's line. -/
def lnN (n : Int) (s r : ByteArray) : ByteArray := sealB (lineB n s r) ++ (⟨#[10]⟩ : ByteArray)
theorem lnN_size (n : Int) (s r : ByteArray) (h : 0 ≤ n ∧ n ≤ 59) (hr : recB s r = true) : (lnN n s r).size ≤ 425 := by
  obtain ⟨hs1, _, _, hr1⟩ := recB_iff hr
  have hl := line_size n s r h.1 h.2 hs1.2 hr1
  have h2 := sum_size (lineB n s r)
  unfold lnN sealB
  simp only [ByteArray.size_append, szl]
  omega
theorem append_cases (D P : ByteArray) (n : Int) (s r : ByteArray) (hz : D.size + P.size ≤ 4194304) (hs : s.size ≤ 9223372036854775807) (hr : r.size ≤ 9223372036854775807) : ∃ v, Ev (fun k => spec_AppendRecord.f k D P n s r) v ∧ Ev (fun k => impl_AppendRecord.f k D P n s r) v ∧ (v = (D, P, n, 1) ∨ v = (D, P, n, 2) ∨ ∃ L, GoodL D P n L ∧ recB s r = true ∧ (0 ≤ n ∧ n ≤ 59) ∧ v = (D, P ++ lnN n s r, n + 1, 0)) := by
  obtain ⟨b, L, h1, h2', h2, h3, h4⟩ := valid_iff D P n hz
  cases b
  · exact ⟨(D, P, n, 1), Ev.bind h1 (ev_neg (by simp) (Ev.step (fun k => rfl) (ev_now rfl))), Ev.bind h2' (ev_neg (by simp) (Ev.step (fun k => rfl) (ev_now rfl))), .inl rfl⟩
  have G := h3 rfl
  have hcn := goodL_count G
  have g1 := l27Good_ev s r hs hr
  have g2 := implRec_ev s r hs hr
  have henc := implEnc_ev n s r hs hr
  by_cases hrec : recB s r = true
  case neg =>
    rw [Bool.not_eq_true] at hrec
    exact ⟨(D, P, n, 1), Ev.bind h1 (ev_pos rfl (Ev.bind g1 (Ev.step (fun k => rfl) (ev_pos (by rw [hrec]; rfl) (ev_now rfl))))), Ev.bind h2' (ev_pos rfl (Ev.bind g2 (Ev.step (fun k => rfl) (ev_pos (by rw [hrec]; rfl) (ev_now rfl))))), .inl rfl⟩
  by_cases h60 : n = 60
  · have hno : encOk n s r = false := by unfold encOk; rw [decide_eq_false (by omega)]; rfl
    rw [encE, if_neg (by rw [hno]; simp)] at henc
    exact ⟨(D, P, n, 2), Ev.bind h1 (ev_pos rfl (Ev.bind g1 (Ev.step (fun k => rfl) (ev_neg (by rw [hrec]; simp) (ev_pos h60 (ev_now rfl)))))), Ev.bind h2' (ev_pos rfl (Ev.bind g2 (Ev.step (fun k => rfl) (ev_neg (by rw [hrec]; simp) (Ev.bind henc (ev_neg (by simp) (ev_now rfl))))))), .inr (.inl rfl)⟩
  · have hok : encOk n s r = true := by unfold encOk; rw [decide_eq_true (by omega), hrec]; rfl
    obtain ⟨hs1, hls, hlr, hr1⟩ := recB_iff hrec
    have hl := lnN_size n s r (by omega) hrec
    have hb : P.size + (sealB (lineB n s r) ++ (⟨#[10]⟩ : ByteArray)).size ≤ 9223372036854775807 := by unfold lnN at hl; omega
    have hw : wrap64 (n + 1) = n + 1 := wrap_id (by omega) (by omega)
    rw [encE, if_pos hok] at henc
    exact ⟨(D, P ++ lnN n s r, n + 1, 0), Ev.bind h1 (ev_pos rfl (Ev.bind g1 (Ev.step (fun k => rfl) (ev_neg (by rw [hrec]; simp) (ev_neg h60 (Ev.bind (l27Line_ev n s r (by omega) (by omega) hs1.2 hr1) (ev_pos hb (ev_now (by rw [hw]; rfl))))))))), Ev.bind h2' (ev_pos rfl (Ev.bind g2 (Ev.step (fun k => rfl) (ev_neg (by rw [hrec]; simp) (Ev.bind henc (ev_pos rfl (ev_pos hb (ev_now (by rw [hw]; rfl))))))))), .inr (.inr ⟨L, G, hrec, by omega, rfl⟩)⟩
theorem sync_cases (D P : ByteArray) (n : Int) (hz : D.size + P.size ≤ 4194304) : (∃ L, GoodL D P n L ∧ Ev (fun k => spec_SyncLog.f k D P n) (D ++ P, nilB, n, true) ∧ Ev (fun k => impl_SyncLog.f k D P n) (D ++ P, nilB, n, true)) ∨ ((∀ L, ¬ GoodL D P n L) ∧ Ev (fun k => spec_SyncLog.f k D P n) (nilB, nilB, 0, false) ∧ Ev (fun k => impl_SyncLog.f k D P n) (nilB, nilB, 0, false)) := by
  obtain ⟨b, L, h1, h2', h2, h3, h4⟩ := valid_iff D P n hz
  cases b
  · exact .inr ⟨fun L' g => (by cases (h4 L' g).1), Ev.bind h1 (ev_neg (by simp) (ev_now rfl)), Ev.bind h2' (ev_neg (by simp) (ev_now rfl))⟩
  · exact .inl ⟨L, h3 rfl, Ev.bind h1 (ev_pos rfl (ev_pos (by omega) (ev_now rfl))), Ev.bind h2' (ev_pos rfl (ev_pos (by omega) (ev_now rfl)))⟩
theorem ext_nil0 (s : ByteArray) : s.extract 0 0 = nilB := by
  apply ba_list
  rw [ByteArray.data_extract, Array.toList_extract, List.extract_eq_take_drop]
  rfl
theorem implRec_ev2 (s : ByteArray) (L : List LR) (t : ByteArray) (h : Parse 0 s L t) (hs : ¬ (s.size : Int) > 30000) : Ev (fun k => impl_RecoverLog.f k s) (s.extract 0 (sizeL 0 L), nilB, (L.length : Int), (sizeL 0 L : Int), true) := by
  have hz := parse_size L 0 s t h
  unfold impl_RecoverLog.f
  refine ev_neg hs (Ev.bind (implRead_ev s L t h (by omega)) ?_)
  rcases L with _ | ⟨e, L⟩
  · refine ev_neg (by simp [endsL]) (ev_pos (by omega) (ev_pos (by omega) (ev_now ?_)))
    rw [show sizeL 0 ([] : List LR) = 0 from rfl, ext_nil0]
    rfl
  · have hl := ends_len (e :: L) 0 0
    have hla := ends_last (e :: L) 0 0 (by simp)
    have hlen : (e :: L).length = L.length + 1 := rfl
    have hb := (parse_len (e :: L) 0 s t h (by omega)).1
    have hw : wrap64 (((endsL 0 0 (e :: L)).length : Int) - 1) = (((e :: L).length - 1 : Nat) : Int) := by rw [hl]; exact wrap_pred (by omega) (by omega)
    have hr : rd (endsL 0 0 (e :: L)) (((e :: L).length - 1 : Nat) : Int) = (sizeL 0 (e :: L) : Int) := by rw [rd_nat, hla, Nat.zero_add]
    refine ev_pos (by simp only [hl]; omega) ?_
    simp only [hw, hr, Int.toNat_natCast]
    refine ev_pos (by omega) (ev_pos (by omega) (ev_pos (by omega) (ev_pos (by omega) (ev_now rfl))))
theorem specRec_ev2 (s : ByteArray) (L : List LR) (t : ByteArray) (h : Parse 0 s L t) (hs : ¬ (s.size : Int) > 30000) : Ev (fun k => spec_RecoverLog.f k s) (s.extract 0 (sizeL 0 L), nilB, (L.length : Int), (sizeL 0 L : Int), true) := by
  have hz := parse_size L 0 s t h
  unfold spec_RecoverLog.f
  refine ev_neg hs (Ev.bind (specOpen_ev s L t h (by omega)) ?_)
  simp only [Int.toNat_natCast]
  exact ev_pos (by omega) (ev_pos (by omega) (ev_now rfl))
theorem parse_pre : ∀ (L : List LR) (k : Nat) (s t : ByteArray), Parse k s L t → ∃ p, s = p ++ t ∧ Parse k p L nilB
  | [], k, s, t, h => ⟨nilB, by rw [h.1]; exact nil_app t, rfl, stop_nil k⟩
  | e :: L, k, s, t, h => by
    obtain ⟨a, b, rfl, ha, he, hp⟩ := h
    obtain ⟨p, rfl, h2⟩ := parse_pre L (k + 1) b t hp
    exact ⟨cat a 10 p, (app_cat a 10 p t).symm, a, p, rfl, ha, he, h2⟩
/-- What is recovered is a valid log. -/
theorem good_recover {s t : ByteArray} {L : List LR} (h : Parse 0 s L t) (hs : s.size ≤ 30000) : GoodL (s.extract 0 (sizeL 0 L)) nilB (L.length : Int) L := by
  obtain ⟨p, rfl, hp⟩ := parse_pre L 0 s t h
  have hz := parse_size L 0 _ _ hp
  have hnz : (nilB).size = 0 := rfl
  have e : (p ++ t).extract 0 (sizeL 0 L) = p := by rw [show sizeL 0 L = p.size by omega]; exact ByteArray.extract_append_eq_left rfl
  have e2 : p ++ nilB = p := ba_list (by rw [ba_app]; simp)
  have hs2 : p.size + t.size ≤ 30000 := by rw [← ByteArray.size_append]; exact hs
  rw [e]
  exact ⟨by omega, ⟨L, hp⟩, by rw [e2]; exact hp, rfl⟩
end Go.Proofs.YtkdibcifamlciaaDoor.X
namespace Go.Proofs.YtkdibcifamlciaaDoor.X
open Go.RowKit Go.Proofs.YtkdibcifamlciaaDoorW.PrintWords Go.Proofs.YtkdibcifamlciaaDoorW.PrintLast Go.Proofs.YtkdibcifamlciaaDoorW.PrintMore
attribute [local go_sem] max2_int min2_int max_two min_two max_three min_three max_four min_four   -- for this text's walks alone
set_option linter.unusedVariables false
set_option linter.unusedSimpArgs false
attribute [-simp] ByteArray.size_append ByteArray.size_extract
attribute [-go_sem] ByteArray.size_append'

/-! ### spec_l1Cur_anyLog: function 41 -/
def spec_l1Cur_anyLog.f (k : Nat) (s0_0 : List Int) (s0_1 : Int) (s0_2 : Int) : Option (ByteArray × ByteArray × Int × Int × Int) := (spec_l1Cur_log.f k s0_0 s0_1 s0_2).bind fun bt102 => ((spec_l1Cur_pick.f s0_0 bt102.2.2.2.1 bt102.2.2.2.2 24).bind fun bt108 => (if bt108.1 = 0 then (some (bt102.1, bt102.2.1, wrap64 (bt102.2.2.1 + 1), bt108.2.1, bt108.2.2)) else (if bt108.1 = 1 then ((spec_l1Cur_spoilt.f s0_0 bt108.2.1 bt108.2.2 bt102.2.1 (⟨#[35, 64, 10, 48, 49]⟩ : ByteArray)).bind fun bt111 => (some (bt102.1, bt111.1, bt102.2.2.1, bt111.2.1, bt111.2.2))) else (if bt108.1 = 2 then (if bt102.1.size + bt102.2.1.size ≤ 9223372036854775807 then (some (bt102.1 ++ bt102.2.1, bt102.2.1, bt102.2.2.1, bt108.2.1, bt108.2.2)) else (none)) else (some (bt102.1, bt102.2.1, bt102.2.2.1, bt108.2.1, bt108.2.2))))))
set_option maxHeartbeats 8000000 in
set_option maxRecDepth 100000 in
theorem spec_l1Cur_anyLog.calls (k : Nat) (g : Nat) (s0_0 : List Int) (s0_1 : Int) (s0_2 : Int) (r1 : ByteArray) (r2 : ByteArray) (r3 : Int) (r4 : Int) (r5 : Int) (w0 w : World) (hI : IsS51 w0 w g s0_0 s0_1 s0_2) (hB : Below w0.heap.size w0 w) (h : spec_l1Cur_anyLog.f k s0_0 s0_1 s0_2 = some (r1, r2, r3, r4, r5)) :
  Calls Tryd.prog 41 #[.pointer (some ⟨g, 0, none⟩)] w fun e w' => e = .returned (.agg #[.string r1, .string r2, .int .i64 r3]) ∧ IsS51 w0 w' g s0_0 r4 r5 ∧ Below w0.heap.size w0 w' ∧ KeepBut w w' g none := by
 (have hu32 := Tryd.underlying32); (have HI0 := Aside0.mk hI); (have HK := Aside0.mk (KeepBut.refl w g none)); (have HL := Aside0.mk hB.size); clear hI; (have HW0 := Aside0.mk hB.size); (have HB := Aside0.mk hB); clear hB; (unfold spec_l1Cur_anyLog.f at h); (have H := h); clear h; (replace H := obS H); (obtain ⟨⟨t102, t103, t104, t105, t106⟩, A2, H⟩ := H); (replace H : ((spec_l1Cur_pick.f s0_0 t105 t106 24).bind fun bt108 => (if bt108.1 = 0 then (some (t102, t103, wrap64 (t104 + 1), bt108.2.1, bt108.2.2)) else (if bt108.1 = 1 then ((spec_l1Cur_spoilt.f s0_0 bt108.2.1 bt108.2.2 t103 (⟨#[35, 64, 10, 48, 49]⟩ : ByteArray)).bind fun bt111 => (some (t102, bt111.1, t104, bt111.2.1, bt111.2.2))) else (if bt108.1 = 2 then (if t102.size + t103.size ≤ 9223372036854775807 then (some (t102 ++ t103, t103, t104, bt108.2.1, bt108.2.2)) else (none)) else (some (t102, t103, t104, bt108.2.1, bt108.2.2)))))) = some (r1, r2, r3, r4, r5) := H); (replace H := obS H); (obtain ⟨⟨t108, t109, t110⟩, A3, H⟩ := H); (replace H : (if t108 = 0 then (some (t102, t103, wrap64 (t104 + 1), t109, t110)) else (if t108 = 1 then ((spec_l1Cur_spoilt.f s0_0 t109 t110 t103 (⟨#[35, 64, 10, 48, 49]⟩ : ByteArray)).bind fun bt111 => (some (t102, bt111.1, t104, bt111.2.1, bt111.2.2))) else (if t108 = 2 then (if t102.size + t103.size ≤ 9223372036854775807 then (some (t102 ++ t103, t103, t104, t109, t110)) else (none)) else (some (t102, t103, t104, t109, t110))))) = some (r1, r2, r3, r4, r5) := H); (by_cases c4 : t108 = 0)
 ·rw [if_pos c4] at H
  (have c4b0 : (t108 == 0) = true := beq_iff_eq.mpr c4); (have c4b1 : (t108 != 0) = false := bne_eq_false_iff_eq.mpr c4); clear c4; (simp only [Option.some.injEq, Prod.mk.injEq] at H); (obtain ⟨rfl, rfl, rfl, rfl, rfl⟩ := H); (go_enter Tryd.func41, Tryd.ntmps41)
  go_wp2_with (first | ((with_reducible refine gate_dst (N := 2) rfl ?_); refine box_event ?hg (N := 2) ?hd (cs := #[.string (⟨#[]⟩ : ByteArray), .string (⟨#[]⟩ : ByteArray), .int .i64 0]) (t := 32) ?hr ?_; (case hd => rfl); (case hg => rfl); (case hr => first | (go_simp; done) | (go_simp; rfl)); intro gb101 hg w5 hbox hb; have n0_ := Aside0.mk (IsS51.below (by repeat (first | (with_reducible first | exact HI0.out | apply IsS51.alloc | apply IsS51.drewN | apply IsS51.drew | apply IsS51.set_1 | apply IsS51.set_2) | exact HI0.out)) hb); have n1_ := Aside0.mk (KeepBut.trans (by repeat (first | (with_reducible first | exact HK.out | apply KeepBut.set_ | apply keep_drewN | apply keep_drew | apply keep_alloc) | exact HK.out)) (KeepBut.of_below hb g none) (.inl rfl)); have n2_ := Aside0.mk (below_step (by repeat (first | (with_reducible first | exact HB.out | apply bA | apply bN | apply bD | refine below_set ?_ (IsS51.ge HI0.out)) | exact HB.out)) hb); have n3_ := Aside0.mk (hbox); have n4_ := Aside0.mk ((by rw [hg]; exact (keep_size (w := w) (g := g) (row := none) (by repeat (first | (with_reducible first | exact HK.out | apply KeepBut.set_ | apply keep_drewN | apply keep_drew | apply keep_alloc) | exact HK.out))) : w.heap.size ≤ gb101)); have n5_ := Aside0.mk ((Nat.le_trans HW0.out (by rw [hg]; exact (keep_size (w := w) (g := g) (row := none) (by repeat (first | (with_reducible first | exact HK.out | apply KeepBut.set_ | apply keep_drewN | apply keep_drew | apply keep_alloc) | exact HK.out))) : w.heap.size ≤ gb101) : w0.heap.size ≤ gb101)); have n6_ := Aside0.mk ((by rw [hg]; exact Nat.ne_of_lt (IsS51.lt (show IsS51 w0 _ g s0_0 s0_1 s0_2 from by repeat (first | (with_reducible first | exact HI0.out | apply IsS51.alloc | apply IsS51.drewN | apply IsS51.drew | apply IsS51.set_1 | apply IsS51.set_2) | exact HI0.out))) : g ≠ gb101)); have n7_ := Aside0.mk (Ne.symm n6_.out); clear HI0 HK HB; have HI0 := n0_; have HK := n1_; have HB := n2_; have BK101 := n3_; have GW101 := n4_; have GE101 := n5_; have NB0_101 := n6_; have NB101_0 := n7_; clear n0_ n1_ n2_ n3_ n4_ n5_ n6_ n7_ hb hbox hg) | ((with_reducible refine gate_callee (f := 34) rfl ?_); refine gL (some 5) Tryd.func34 #[.pointer (some ⟨g, 0, none⟩)] ?_; (with_reducible refine (spec_l1Cur_log.calls k g s0_0 s0_1 s0_2 t102 t103 t104 t105 t106 w0 _ ?side1 ?side2 A2.out).mono ?_); (case side1 => repeat (first | (with_reducible first | exact HI0.out | apply IsS51.alloc | apply IsS51.drewN | apply IsS51.drew | apply IsS51.set_1 | apply IsS51.set_2 | refine IsS51.far ?_ NB0_101.out _) | exact HI0.out)); (case side2 => repeat (first | (with_reducible first | exact HB.out | apply bA | apply bN | apply bD | refine below_set ?_ (IsS51.ge HI0.out) | refine below_set ?_ GE101.out) | exact HB.out)); rintro e w6 ⟨rfl, hi, hb, hk⟩; refine ⟨_, rfl, ?_⟩; have n0_ := Aside0.mk (KeepBut.blk hk (g' := gb101) (o := .cells #[.string (⟨#[]⟩ : ByteArray), .string (⟨#[]⟩ : ByteArray), .int .i64 0] 32 (0, 0)) (kI BK101) NB101_0.out (by simp)); have n1_ := Aside0.mk (KeepBut.trans (by repeat (first | (with_reducible first | exact HK.out | apply KeepBut.set_ | apply keep_drewN | apply keep_drew | apply keep_alloc | refine keep_far ?_ GW101.out _) | exact HK.out)) hk (.inl rfl)); have n2_ := Aside0.mk (hb); have n3_ := Aside0.mk (hi); clear BK101 HK HB HI0; have BK101 := n0_; have HK := n1_; have HB := n2_; have HI0 := n3_; clear n0_ n1_ n2_ n3_; (try clear hb); (try clear hb2); (try clear hk); (try clear hi)) | ((with_reducible refine gate_dst (N := 3) rfl ?_); refine box_event ?hg (N := 3) ?hd (cs := #[.string (⟨#[]⟩ : ByteArray), .string (⟨#[]⟩ : ByteArray), .int .i64 0]) (t := 32) ?hr ?_; (case hd => rfl); (case hg => rfl); (case hr => first | (go_simp; done) | (go_simp; rfl)); intro gb107 hg w7 hbox hb; have n0_ := Aside0.mk (IsS51.below (by repeat (first | (with_reducible first | exact HI0.out | apply IsS51.alloc | apply IsS51.drewN | apply IsS51.drew | apply IsS51.set_1 | apply IsS51.set_2 | refine IsS51.far ?_ NB0_101.out _) | exact HI0.out)) hb); have n1_ := Aside0.mk (kbI hb BK101); have n2_ := Aside0.mk (KeepBut.trans (by repeat (first | (with_reducible first | exact HK.out | apply KeepBut.set_ | apply keep_drewN | apply keep_drew | apply keep_alloc | refine keep_far ?_ GW101.out _) | exact HK.out)) (KeepBut.of_below hb g none) (.inl rfl)); have n3_ := Aside0.mk (below_step (by repeat (first | (with_reducible first | exact HB.out | apply bA | apply bN | apply bD | refine below_set ?_ (IsS51.ge HI0.out) | refine below_set ?_ GE101.out) | exact HB.out)) hb); have n4_ := Aside0.mk (hbox); have n5_ := Aside0.mk ((by rw [hg]; exact (keep_size (w := w) (g := g) (row := none) (by repeat (first | (with_reducible first | exact HK.out | apply KeepBut.set_ | apply keep_drewN | apply keep_drew | apply keep_alloc | refine keep_far ?_ GW101.out _) | exact HK.out))) : w.heap.size ≤ gb107)); have n6_ := Aside0.mk ((Nat.le_trans HW0.out (by rw [hg]; exact (keep_size (w := w) (g := g) (row := none) (by repeat (first | (with_reducible first | exact HK.out | apply KeepBut.set_ | apply keep_drewN | apply keep_drew | apply keep_alloc | refine keep_far ?_ GW101.out _) | exact HK.out))) : w.heap.size ≤ gb107) : w0.heap.size ≤ gb107)); have n7_ := Aside0.mk ((by rw [hg]; exact Nat.ne_of_lt (blk_lt (kI BK101)) : gb101 ≠ gb107)); have n8_ := Aside0.mk (Ne.symm n7_.out); have n9_ := Aside0.mk ((by rw [hg]; exact Nat.ne_of_lt (IsS51.lt (show IsS51 w0 _ g s0_0 t105 t106 from by repeat (first | (with_reducible first | exact HI0.out | apply IsS51.alloc | apply IsS51.drewN | apply IsS51.drew | apply IsS51.set_1 | apply IsS51.set_2 | refine IsS51.far ?_ NB0_101.out _) | exact HI0.out))) : g ≠ gb107)); have n10_ := Aside0.mk (Ne.symm n9_.out); clear HI0 BK101 HK HB; have HI0 := n0_; have BK101 := n1_; have HK := n2_; have HB := n3_; have BK107 := n4_; have GW107 := n5_; have GE107 := n6_; have NB101_107 := n7_; have NB107_101 := n8_; have NB0_107 := n9_; have NB107_0 := n10_; clear n0_ n1_ n2_ n3_ n4_ n5_ n6_ n7_ n8_ n9_ n10_ hb hbox hg; have hnb8 := NB107_101.out; have hnc8 := NB101_107.out; have hnb9 := NB107_0.out; have hnc9 := NB0_107.out; have hcz10_0 := cz BK107.out 0; have hcz10_1 := cz BK107.out 1; have hcz10_2 := cz BK107.out 2; have hfz10_0 := blk_frozen BK107.out 0; have hfz10_1 := blk_frozen BK107.out 1; have hfz10_2 := blk_frozen BK107.out 2) | ((with_reducible refine gate_callee (f := 35) rfl ?_); refine gL (some 7) Tryd.func35 #[.pointer (some ⟨g, 0, none⟩), .int .i64 24] ?_; (with_reducible refine (spec_l1Cur_pick.calls g s0_0 t105 t106 24 t108 t109 t110 w0 _ ?side1 ?side2 A3.out).mono ?_); (case side1 => repeat (first | (with_reducible first | exact HI0.out | apply IsS51.alloc | apply IsS51.drewN | apply IsS51.drew | apply IsS51.set_1 | apply IsS51.set_2 | refine IsS51.far ?_ NB0_101.out _ | refine IsS51.far ?_ NB0_107.out _) | exact HI0.out)); (case side2 => repeat (first | (with_reducible first | exact HB.out | apply bA | apply bN | apply bD | refine below_set ?_ (IsS51.ge HI0.out) | refine below_set ?_ GE101.out | refine below_set ?_ GE107.out) | exact HB.out)); rintro e w11 ⟨rfl, hi, hb, hk⟩; refine ⟨_, rfl, ?_⟩; have n0_ := Aside0.mk (KeepBut.blk hk (g' := gb101) (o := .cells #[.string (⟨#[]⟩ : ByteArray), .string (⟨#[]⟩ : ByteArray), .int .i64 0] 32 (0, 0)) (by (with_reducible repeat (first | refine kN ?_ _ | refine kD ?_ | refine kA ?_ _)); refine blk_far ?_ NB101_107.out _; (with_reducible repeat (first | refine kN ?_ _ | refine kD ?_ | refine kA ?_ _)); refine blk_far ?_ NB101_107.out _; (with_reducible repeat (first | refine kN ?_ _ | refine kD ?_ | refine kA ?_ _)); refine blk_far ?_ NB101_107.out _; (with_reducible repeat (first | refine kN ?_ _ | refine kD ?_ | refine kA ?_ _)); exact BK101.out) NB101_0.out (by simp)); have n1_ := Aside0.mk (KeepBut.blk hk (g' := gb107) (o := .cells #[.string t102, .string t103, .int .i64 t104] 32 (0, 0)) (by (with_reducible repeat (first | refine kN ?_ _ | refine kD ?_ | refine kA ?_ _)); refine blk_put (cs := #[.string t102, .string t103, .int .i64 0]) ?_ 2 _ rfl; (with_reducible repeat (first | refine kN ?_ _ | refine kD ?_ | refine kA ?_ _)); refine blk_put (cs := #[.string t102, .string (⟨#[]⟩ : ByteArray), .int .i64 0]) ?_ 1 _ rfl; (with_reducible repeat (first | refine kN ?_ _ | refine kD ?_ | refine kA ?_ _)); refine blk_put (cs := #[.string (⟨#[]⟩ : ByteArray), .string (⟨#[]⟩ : ByteArray), .int .i64 0]) ?_ 0 _ rfl; (with_reducible repeat (first | refine kN ?_ _ | refine kD ?_ | refine kA ?_ _)); exact BK107.out) NB107_0.out (by simp)); have n2_ := Aside0.mk (KeepBut.trans (by repeat (first | (with_reducible first | exact HK.out | apply KeepBut.set_ | apply keep_drewN | apply keep_drew | apply keep_alloc | refine keep_far ?_ GW101.out _ | refine keep_far ?_ GW107.out _) | exact HK.out)) hk (.inl rfl)); have n3_ := Aside0.mk (hb); have n4_ := Aside0.mk (hi); clear BK101 BK107 HK HB HI0; have BK101 := n0_; have BK107 := n1_; have HK := n2_; have HB := n3_; have HI0 := n4_; clear n0_ n1_ n2_ n3_ n4_; (try clear hb); (try clear hb2); (try clear hk); (try clear hi); have hcz12_0 := cz BK107.out 0; have hcz12_1 := cz BK107.out 1; have hcz12_2 := cz BK107.out 2; have hfz12_0 := blk_frozen BK107.out 0; have hfz12_1 := blk_frozen BK107.out 1; have hfz12_2 := blk_frozen BK107.out 2; have hnb13 := NB101_0.out; have hnc13 := NB0_101.out; have hcz14_0 := cz BK101.out 0; have hcz14_1 := cz BK101.out 1; have hcz14_2 := cz BK101.out 2; have hfz14_0 := blk_frozen BK101.out 0; have hfz14_1 := blk_frozen BK101.out 1; have hfz14_2 := blk_frozen BK101.out 2))
  (refine bodyPost_ret (results_cell_row rfl _ _ gb101 32 #[.string t102, .string t103, .int .i64 (wrap64 (t104 + 1))] (0, 0) _ rfl (by (with_reducible repeat (first | refine kN ?_ _ | refine kD ?_ | refine kA ?_ _)); refine blk_put (cs := #[.string t102, .string t103, .int .i64 0]) ?_ 2 _ rfl; (with_reducible repeat (first | refine kN ?_ _ | refine kD ?_ | refine kA ?_ _)); refine blk_put (cs := #[.string t102, .string (⟨#[]⟩ : ByteArray), .int .i64 0]) ?_ 1 _ rfl; (with_reducible repeat (first | refine kN ?_ _ | refine kD ?_ | refine kA ?_ _)); refine blk_put (cs := #[.string (⟨#[]⟩ : ByteArray), .string (⟨#[]⟩ : ByteArray), .int .i64 0]) ?_ 0 _ rfl; (with_reducible repeat (first | refine kN ?_ _ | refine kD ?_ | refine kA ?_ _)); refine blk_far ?_ NB101_107.out _; (with_reducible repeat (first | refine kN ?_ _ | refine kD ?_ | refine kA ?_ _)); exact BK101.out) Tryd.underlying32 rfl (by kernel_rfl)) rfl ?_); (exact ⟨rfl, by repeat (first | (with_reducible first | exact HI0.out | apply IsS51.alloc | apply IsS51.drewN | apply IsS51.drew | apply IsS51.set_1 | apply IsS51.set_2 | refine IsS51.far ?_ NB0_101.out _ | refine IsS51.far ?_ NB0_107.out _) | exact HI0.out), by repeat (first | (with_reducible first | exact HB.out | apply bA | apply bN | apply bD | refine below_set ?_ (IsS51.ge HI0.out) | refine below_set ?_ GE101.out | refine below_set ?_ GE107.out) | exact HB.out), by repeat (first | (with_reducible first | exact HK.out | apply KeepBut.set_ | apply keep_drewN | apply keep_drew | apply keep_alloc | refine keep_far ?_ GW101.out _ | refine keep_far ?_ GW107.out _) | exact HK.out)⟩)
 ·rw [if_neg c4] at H
  (have c4b0 : (t108 == 0) = false := beq_eq_false_iff_ne.mpr c4); (have c4b1 : (t108 != 0) = true := bne_iff_ne.mpr c4); (by_cases c15 : t108 = 1)
  ·rw [if_pos c15] at H
   (have c15b0 : (t108 == 1) = true := beq_iff_eq.mpr c15); (have c15b1 : (t108 != 1) = false := bne_eq_false_iff_eq.mpr c15); clear c15; (replace H := obS H); (obtain ⟨⟨t111, t112, t113⟩, A16, H⟩ := H); (replace H : (some (t102, t111, t104, t112, t113)) = some (r1, r2, r3, r4, r5) := H); (simp only [Option.some.injEq, Prod.mk.injEq] at H); (obtain ⟨rfl, rfl, rfl, rfl, rfl⟩ := H); (go_enter Tryd.func41, Tryd.ntmps41)
   go_wp2_with (first | ((with_reducible refine gate_dst (N := 2) rfl ?_); refine box_event ?hg (N := 2) ?hd (cs := #[.string (⟨#[]⟩ : ByteArray), .string (⟨#[]⟩ : ByteArray), .int .i64 0]) (t := 32) ?hr ?_; (case hd => rfl); (case hg => rfl); (case hr => first | (go_simp; done) | (go_simp; rfl)); intro gb101 hg w17 hbox hb; have n0_ := Aside0.mk (IsS51.below (by repeat (first | (with_reducible first | exact HI0.out | apply IsS51.alloc | apply IsS51.drewN | apply IsS51.drew | apply IsS51.set_1 | apply IsS51.set_2) | exact HI0.out)) hb); have n1_ := Aside0.mk (KeepBut.trans (by repeat (first | (with_reducible first | exact HK.out | apply KeepBut.set_ | apply keep_drewN | apply keep_drew | apply keep_alloc) | exact HK.out)) (KeepBut.of_below hb g none) (.inl rfl)); have n2_ := Aside0.mk (below_step (by repeat (first | (with_reducible first | exact HB.out | apply bA | apply bN | apply bD | refine below_set ?_ (IsS51.ge HI0.out)) | exact HB.out)) hb); have n3_ := Aside0.mk (hbox); have n4_ := Aside0.mk ((by rw [hg]; exact (keep_size (w := w) (g := g) (row := none) (by repeat (first | (with_reducible first | exact HK.out | apply KeepBut.set_ | apply keep_drewN | apply keep_drew | apply keep_alloc) | exact HK.out))) : w.heap.size ≤ gb101)); have n5_ := Aside0.mk ((Nat.le_trans HW0.out (by rw [hg]; exact (keep_size (w := w) (g := g) (row := none) (by repeat (first | (with_reducible first | exact HK.out | apply KeepBut.set_ | apply keep_drewN | apply keep_drew | apply keep_alloc) | exact HK.out))) : w.heap.size ≤ gb101) : w0.heap.size ≤ gb101)); have n6_ := Aside0.mk ((by rw [hg]; exact Nat.ne_of_lt (IsS51.lt (show IsS51 w0 _ g s0_0 s0_1 s0_2 from by repeat (first | (with_reducible first | exact HI0.out | apply IsS51.alloc | apply IsS51.drewN | apply IsS51.drew | apply IsS51.set_1 | apply IsS51.set_2) | exact HI0.out))) : g ≠ gb101)); have n7_ := Aside0.mk (Ne.symm n6_.out); clear HI0 HK HB; have HI0 := n0_; have HK := n1_; have HB := n2_; have BK101 := n3_; have GW101 := n4_; have GE101 := n5_; have NB0_101 := n6_; have NB101_0 := n7_; clear n0_ n1_ n2_ n3_ n4_ n5_ n6_ n7_ hb hbox hg) | ((with_reducible refine gate_callee (f := 34) rfl ?_); refine gL (some 5) Tryd.func34 #[.pointer (some ⟨g, 0, none⟩)] ?_; (with_reducible refine (spec_l1Cur_log.calls k g s0_0 s0_1 s0_2 t102 t103 t104 t105 t106 w0 _ ?side1 ?side2 A2.out).mono ?_); (case side1 => repeat (first | (with_reducible first | exact HI0.out | apply IsS51.alloc | apply IsS51.drewN | apply IsS51.drew | apply IsS51.set_1 | apply IsS51.set_2 | refine IsS51.far ?_ NB0_101.out _) | exact HI0.out)); (case side2 => repeat (first | (with_reducible first | exact HB.out | apply bA | apply bN | apply bD | refine below_set ?_ (IsS51.ge HI0.out) | refine below_set ?_ GE101.out) | exact HB.out)); rintro e w18 ⟨rfl, hi, hb, hk⟩; refine ⟨_, rfl, ?_⟩; have n0_ := Aside0.mk (KeepBut.blk hk (g' := gb101) (o := .cells #[.string (⟨#[]⟩ : ByteArray), .string (⟨#[]⟩ : ByteArray), .int .i64 0] 32 (0, 0)) (kI BK101) NB101_0.out (by simp)); have n1_ := Aside0.mk (KeepBut.trans (by repeat (first | (with_reducible first | exact HK.out | apply KeepBut.set_ | apply keep_drewN | apply keep_drew | apply keep_alloc | refine keep_far ?_ GW101.out _) | exact HK.out)) hk (.inl rfl)); have n2_ := Aside0.mk (hb); have n3_ := Aside0.mk (hi); clear BK101 HK HB HI0; have BK101 := n0_; have HK := n1_; have HB := n2_; have HI0 := n3_; clear n0_ n1_ n2_ n3_; (try clear hb); (try clear hb2); (try clear hk); (try clear hi)) | ((with_reducible refine gate_dst (N := 3) rfl ?_); refine box_event ?hg (N := 3) ?hd (cs := #[.string (⟨#[]⟩ : ByteArray), .string (⟨#[]⟩ : ByteArray), .int .i64 0]) (t := 32) ?hr ?_; (case hd => rfl); (case hg => rfl); (case hr => first | (go_simp; done) | (go_simp; rfl)); intro gb107 hg w19 hbox hb; have n0_ := Aside0.mk (IsS51.below (by repeat (first | (with_reducible first | exact HI0.out | apply IsS51.alloc | apply IsS51.drewN | apply IsS51.drew | apply IsS51.set_1 | apply IsS51.set_2 | refine IsS51.far ?_ NB0_101.out _) | exact HI0.out)) hb); have n1_ := Aside0.mk (kbI hb BK101); have n2_ := Aside0.mk (KeepBut.trans (by repeat (first | (with_reducible first | exact HK.out | apply KeepBut.set_ | apply keep_drewN | apply keep_drew | apply keep_alloc | refine keep_far ?_ GW101.out _) | exact HK.out)) (KeepBut.of_below hb g none) (.inl rfl)); have n3_ := Aside0.mk (below_step (by repeat (first | (with_reducible first | exact HB.out | apply bA | apply bN | apply bD | refine below_set ?_ (IsS51.ge HI0.out) | refine below_set ?_ GE101.out) | exact HB.out)) hb); have n4_ := Aside0.mk (hbox); have n5_ := Aside0.mk ((by rw [hg]; exact (keep_size (w := w) (g := g) (row := none) (by repeat (first | (with_reducible first | exact HK.out | apply KeepBut.set_ | apply keep_drewN | apply keep_drew | apply keep_alloc | refine keep_far ?_ GW101.out _) | exact HK.out))) : w.heap.size ≤ gb107)); have n6_ := Aside0.mk ((Nat.le_trans HW0.out (by rw [hg]; exact (keep_size (w := w) (g := g) (row := none) (by repeat (first | (with_reducible first | exact HK.out | apply KeepBut.set_ | apply keep_drewN | apply keep_drew | apply keep_alloc | refine keep_far ?_ GW101.out _) | exact HK.out))) : w.heap.size ≤ gb107) : w0.heap.size ≤ gb107)); have n7_ := Aside0.mk ((by rw [hg]; exact Nat.ne_of_lt (blk_lt (kI BK101)) : gb101 ≠ gb107)); have n8_ := Aside0.mk (Ne.symm n7_.out); have n9_ := Aside0.mk ((by rw [hg]; exact Nat.ne_of_lt (IsS51.lt (show IsS51 w0 _ g s0_0 t105 t106 from by repeat (first | (with_reducible first | exact HI0.out | apply IsS51.alloc | apply IsS51.drewN | apply IsS51.drew | apply IsS51.set_1 | apply IsS51.set_2 | refine IsS51.far ?_ NB0_101.out _) | exact HI0.out))) : g ≠ gb107)); have n10_ := Aside0.mk (Ne.symm n9_.out); clear HI0 BK101 HK HB; have HI0 := n0_; have BK101 := n1_; have HK := n2_; have HB := n3_; have BK107 := n4_; have GW107 := n5_; have GE107 := n6_; have NB101_107 := n7_; have NB107_101 := n8_; have NB0_107 := n9_; have NB107_0 := n10_; clear n0_ n1_ n2_ n3_ n4_ n5_ n6_ n7_ n8_ n9_ n10_ hb hbox hg; have hnb20 := NB107_101.out; have hnc20 := NB101_107.out; have hnb21 := NB107_0.out; have hnc21 := NB0_107.out; have hcz22_0 := cz BK107.out 0; have hcz22_1 := cz BK107.out 1; have hcz22_2 := cz BK107.out 2; have hfz22_0 := blk_frozen BK107.out 0; have hfz22_1 := blk_frozen BK107.out 1; have hfz22_2 := blk_frozen BK107.out 2) | ((with_reducible refine gate_callee (f := 35) rfl ?_); refine gL (some 7) Tryd.func35 #[.pointer (some ⟨g, 0, none⟩), .int .i64 24] ?_; (with_reducible refine (spec_l1Cur_pick.calls g s0_0 t105 t106 24 t108 t109 t110 w0 _ ?side1 ?side2 A3.out).mono ?_); (case side1 => repeat (first | (with_reducible first | exact HI0.out | apply IsS51.alloc | apply IsS51.drewN | apply IsS51.drew | apply IsS51.set_1 | apply IsS51.set_2 | refine IsS51.far ?_ NB0_101.out _ | refine IsS51.far ?_ NB0_107.out _) | exact HI0.out)); (case side2 => repeat (first | (with_reducible first | exact HB.out | apply bA | apply bN | apply bD | refine below_set ?_ (IsS51.ge HI0.out) | refine below_set ?_ GE101.out | refine below_set ?_ GE107.out) | exact HB.out)); rintro e w23 ⟨rfl, hi, hb, hk⟩; refine ⟨_, rfl, ?_⟩; have n0_ := Aside0.mk (KeepBut.blk hk (g' := gb101) (o := .cells #[.string (⟨#[]⟩ : ByteArray), .string (⟨#[]⟩ : ByteArray), .int .i64 0] 32 (0, 0)) (by (with_reducible repeat (first | refine kN ?_ _ | refine kD ?_ | refine kA ?_ _)); refine blk_far ?_ NB101_107.out _; (with_reducible repeat (first | refine kN ?_ _ | refine kD ?_ | refine kA ?_ _)); refine blk_far ?_ NB101_107.out _; (with_reducible repeat (first | refine kN ?_ _ | refine kD ?_ | refine kA ?_ _)); refine blk_far ?_ NB101_107.out _; (with_reducible repeat (first | refine kN ?_ _ | refine kD ?_ | refine kA ?_ _)); exact BK101.out) NB101_0.out (by simp)); have n1_ := Aside0.mk (KeepBut.blk hk (g' := gb107) (o := .cells #[.string t102, .string t103, .int .i64 t104] 32 (0, 0)) (by (with_reducible repeat (first | refine kN ?_ _ | refine kD ?_ | refine kA ?_ _)); refine blk_put (cs := #[.string t102, .string t103, .int .i64 0]) ?_ 2 _ rfl; (with_reducible repeat (first | refine kN ?_ _ | refine kD ?_ | refine kA ?_ _)); refine blk_put (cs := #[.string t102, .string (⟨#[]⟩ : ByteArray), .int .i64 0]) ?_ 1 _ rfl; (with_reducible repeat (first | refine kN ?_ _ | refine kD ?_ | refine kA ?_ _)); refine blk_put (cs := #[.string (⟨#[]⟩ : ByteArray), .string (⟨#[]⟩ : ByteArray), .int .i64 0]) ?_ 0 _ rfl; (with_reducible repeat (first | refine kN ?_ _ | refine kD ?_ | refine kA ?_ _)); exact BK107.out) NB107_0.out (by simp)); have n2_ := Aside0.mk (KeepBut.trans (by repeat (first | (with_reducible first | exact HK.out | apply KeepBut.set_ | apply keep_drewN | apply keep_drew | apply keep_alloc | refine keep_far ?_ GW101.out _ | refine keep_far ?_ GW107.out _) | exact HK.out)) hk (.inl rfl)); have n3_ := Aside0.mk (hb); have n4_ := Aside0.mk (hi); clear BK101 BK107 HK HB HI0; have BK101 := n0_; have BK107 := n1_; have HK := n2_; have HB := n3_; have HI0 := n4_; clear n0_ n1_ n2_ n3_ n4_; (try clear hb); (try clear hb2); (try clear hk); (try clear hi); have hcz24_0 := cz BK107.out 0; have hcz24_1 := cz BK107.out 1; have hcz24_2 := cz BK107.out 2; have hfz24_0 := blk_frozen BK107.out 0; have hfz24_1 := blk_frozen BK107.out 1; have hfz24_2 := blk_frozen BK107.out 2) | ((with_reducible refine gate_callee (f := 36) rfl ?_); refine gL (some 19) Tryd.func36 #[.pointer (some ⟨g, 0, none⟩), .string t103, .string (⟨#[35, 64, 10, 48, 49]⟩ : ByteArray)] ?_; (with_reducible refine (spec_l1Cur_spoilt.calls g s0_0 t109 t110 t103 (⟨#[35, 64, 10, 48, 49]⟩ : ByteArray) t111 t112 t113 w0 _ ?side1 ?side2 A16.out).mono ?_); (case side1 => repeat (first | (with_reducible first | exact HI0.out | apply IsS51.alloc | apply IsS51.drewN | apply IsS51.drew | apply IsS51.set_1 | apply IsS51.set_2 | refine IsS51.far ?_ NB0_101.out _ | refine IsS51.far ?_ NB0_107.out _) | exact HI0.out)); (case side2 => repeat (first | (with_reducible first | exact HB.out | apply bA | apply bN | apply bD | refine below_set ?_ (IsS51.ge HI0.out) | refine below_set ?_ GE101.out | refine below_set ?_ GE107.out) | exact HB.out)); rintro e w25 ⟨rfl, hi, hb, hk⟩; refine ⟨_, rfl, ?_⟩; have n0_ := Aside0.mk (KeepBut.blk hk (g' := gb101) (o := .cells #[.string (⟨#[]⟩ : ByteArray), .string (⟨#[]⟩ : ByteArray), .int .i64 0] 32 (0, 0)) (kI BK101) NB101_0.out (by simp)); have n1_ := Aside0.mk (KeepBut.blk hk (g' := gb107) (o := .cells #[.string t102, .string t103, .int .i64 t104] 32 (0, 0)) (kI BK107) NB107_0.out (by simp)); have n2_ := Aside0.mk (KeepBut.trans (by repeat (first | (with_reducible first | exact HK.out | apply KeepBut.set_ | apply keep_drewN | apply keep_drew | apply keep_alloc | refine keep_far ?_ GW101.out _ | refine keep_far ?_ GW107.out _) | exact HK.out)) hk (.inl rfl)); have n3_ := Aside0.mk (hb); have n4_ := Aside0.mk (hi); clear BK101 BK107 HK HB HI0; have BK101 := n0_; have BK107 := n1_; have HK := n2_; have HB := n3_; have HI0 := n4_; clear n0_ n1_ n2_ n3_ n4_; (try clear hb); (try clear hb2); (try clear hk); (try clear hi); have hcz26_0 := cz BK107.out 0; have hcz26_1 := cz BK107.out 1; have hcz26_2 := cz BK107.out 2; have hfz26_0 := blk_frozen BK107.out 0; have hfz26_1 := blk_frozen BK107.out 1; have hfz26_2 := blk_frozen BK107.out 2; have hnb27 := NB101_0.out; have hnc27 := NB0_101.out; have hcz28_0 := cz BK101.out 0; have hcz28_1 := cz BK101.out 1; have hcz28_2 := cz BK101.out 2; have hfz28_0 := blk_frozen BK101.out 0; have hfz28_1 := blk_frozen BK101.out 1; have hfz28_2 := blk_frozen BK101.out 2))
   (refine bodyPost_ret (results_cell_row rfl _ _ gb101 32 #[.string t102, .string t111, .int .i64 t104] (0, 0) _ rfl (by (with_reducible repeat (first | refine kN ?_ _ | refine kD ?_ | refine kA ?_ _)); refine blk_put (cs := #[.string t102, .string t111, .int .i64 0]) ?_ 2 _ rfl; (with_reducible repeat (first | refine kN ?_ _ | refine kD ?_ | refine kA ?_ _)); refine blk_put (cs := #[.string t102, .string (⟨#[]⟩ : ByteArray), .int .i64 0]) ?_ 1 _ rfl; (with_reducible repeat (first | refine kN ?_ _ | refine kD ?_ | refine kA ?_ _)); refine blk_put (cs := #[.string (⟨#[]⟩ : ByteArray), .string (⟨#[]⟩ : ByteArray), .int .i64 0]) ?_ 0 _ rfl; (with_reducible repeat (first | refine kN ?_ _ | refine kD ?_ | refine kA ?_ _)); refine blk_far ?_ NB101_107.out _; (with_reducible repeat (first | refine kN ?_ _ | refine kD ?_ | refine kA ?_ _)); exact BK101.out) Tryd.underlying32 rfl (by kernel_rfl)) rfl ?_); (exact ⟨rfl, by repeat (first | (with_reducible first | exact HI0.out | apply IsS51.alloc | apply IsS51.drewN | apply IsS51.drew | apply IsS51.set_1 | apply IsS51.set_2 | refine IsS51.far ?_ NB0_101.out _ | refine IsS51.far ?_ NB0_107.out _) | exact HI0.out), by repeat (first | (with_reducible first | exact HB.out | apply bA | apply bN | apply bD | refine below_set ?_ (IsS51.ge HI0.out) | refine below_set ?_ GE101.out | refine below_set ?_ GE107.out) | exact HB.out), by repeat (first | (with_reducible first | exact HK.out | apply KeepBut.set_ | apply keep_drewN | apply keep_drew | apply keep_alloc | refine keep_far ?_ GW101.out _ | refine keep_far ?_ GW107.out _) | exact HK.out)⟩)
  ·rw [if_neg c15] at H
   (have c15b0 : (t108 == 1) = false := beq_eq_false_iff_ne.mpr c15); (have c15b1 : (t108 != 1) = true := bne_iff_ne.mpr c15); (by_cases c29 : t108 = 2)
   ·rw [if_pos c29] at H
    (have c29b0 : (t108 == 2) = true := beq_iff_eq.mpr c29); (have c29b1 : (t108 != 2) = false := bne_eq_false_iff_eq.mpr c29); clear c29; (by_cases c30 : t102.size + t103.size ≤ 9223372036854775807)
    ·rw [if_pos c30] at H
     (have c30b0 := eq_true c30); (have c30b1 := decide_eq_true c30); (try have c30b2 : (9223372036854775807 < t102.size + t103.size) = False := eq_false (Nat.not_lt.2 c30)); (simp only [Option.some.injEq, Prod.mk.injEq] at H); (obtain ⟨rfl, rfl, rfl, rfl, rfl⟩ := H); (go_enter Tryd.func41, Tryd.ntmps41)
     go_wp2_with (first | ((with_reducible refine gate_dst (N := 2) rfl ?_); refine box_event ?hg (N := 2) ?hd (cs := #[.string (⟨#[]⟩ : ByteArray), .string (⟨#[]⟩ : ByteArray), .int .i64 0]) (t := 32) ?hr ?_; (case hd => rfl); (case hg => rfl); (case hr => first | (go_simp; done) | (go_simp; rfl)); intro gb101 hg w31 hbox hb; have n0_ := Aside0.mk (IsS51.below (by repeat (first | (with_reducible first | exact HI0.out | apply IsS51.alloc | apply IsS51.drewN | apply IsS51.drew | apply IsS51.set_1 | apply IsS51.set_2) | exact HI0.out)) hb); have n1_ := Aside0.mk (KeepBut.trans (by repeat (first | (with_reducible first | exact HK.out | apply KeepBut.set_ | apply keep_drewN | apply keep_drew | apply keep_alloc) | exact HK.out)) (KeepBut.of_below hb g none) (.inl rfl)); have n2_ := Aside0.mk (below_step (by repeat (first | (with_reducible first | exact HB.out | apply bA | apply bN | apply bD | refine below_set ?_ (IsS51.ge HI0.out)) | exact HB.out)) hb); have n3_ := Aside0.mk (hbox); have n4_ := Aside0.mk ((by rw [hg]; exact (keep_size (w := w) (g := g) (row := none) (by repeat (first | (with_reducible first | exact HK.out | apply KeepBut.set_ | apply keep_drewN | apply keep_drew | apply keep_alloc) | exact HK.out))) : w.heap.size ≤ gb101)); have n5_ := Aside0.mk ((Nat.le_trans HW0.out (by rw [hg]; exact (keep_size (w := w) (g := g) (row := none) (by repeat (first | (with_reducible first | exact HK.out | apply KeepBut.set_ | apply keep_drewN | apply keep_drew | apply keep_alloc) | exact HK.out))) : w.heap.size ≤ gb101) : w0.heap.size ≤ gb101)); have n6_ := Aside0.mk ((by rw [hg]; exact Nat.ne_of_lt (IsS51.lt (show IsS51 w0 _ g s0_0 s0_1 s0_2 from by repeat (first | (with_reducible first | exact HI0.out | apply IsS51.alloc | apply IsS51.drewN | apply IsS51.drew | apply IsS51.set_1 | apply IsS51.set_2) | exact HI0.out))) : g ≠ gb101)); have n7_ := Aside0.mk (Ne.symm n6_.out); clear HI0 HK HB; have HI0 := n0_; have HK := n1_; have HB := n2_; have BK101 := n3_; have GW101 := n4_; have GE101 := n5_; have NB0_101 := n6_; have NB101_0 := n7_; clear n0_ n1_ n2_ n3_ n4_ n5_ n6_ n7_ hb hbox hg) | ((with_reducible refine gate_callee (f := 34) rfl ?_); refine gL (some 5) Tryd.func34 #[.pointer (some ⟨g, 0, none⟩)] ?_; (with_reducible refine (spec_l1Cur_log.calls k g s0_0 s0_1 s0_2 t102 t103 t104 t105 t106 w0 _ ?side1 ?side2 A2.out).mono ?_); (case side1 => repeat (first | (with_reducible first | exact HI0.out | apply IsS51.alloc | apply IsS51.drewN | apply IsS51.drew | apply IsS51.set_1 | apply IsS51.set_2 | refine IsS51.far ?_ NB0_101.out _) | exact HI0.out)); (case side2 => repeat (first | (with_reducible first | exact HB.out | apply bA | apply bN | apply bD | refine below_set ?_ (IsS51.ge HI0.out) | refine below_set ?_ GE101.out) | exact HB.out)); rintro e w32 ⟨rfl, hi, hb, hk⟩; refine ⟨_, rfl, ?_⟩; have n0_ := Aside0.mk (KeepBut.blk hk (g' := gb101) (o := .cells #[.string (⟨#[]⟩ : ByteArray), .string (⟨#[]⟩ : ByteArray), .int .i64 0] 32 (0, 0)) (kI BK101) NB101_0.out (by simp)); have n1_ := Aside0.mk (KeepBut.trans (by repeat (first | (with_reducible first | exact HK.out | apply KeepBut.set_ | apply keep_drewN | apply keep_drew | apply keep_alloc | refine keep_far ?_ GW101.out _) | exact HK.out)) hk (.inl rfl)); have n2_ := Aside0.mk (hb); have n3_ := Aside0.mk (hi); clear BK101 HK HB HI0; have BK101 := n0_; have HK := n1_; have HB := n2_; have HI0 := n3_; clear n0_ n1_ n2_ n3_; (try clear hb); (try clear hb2); (try clear hk); (try clear hi)) | ((with_reducible refine gate_dst (N := 3) rfl ?_); refine box_event ?hg (N := 3) ?hd (cs := #[.string (⟨#[]⟩ : ByteArray), .string (⟨#[]⟩ : ByteArray), .int .i64 0]) (t := 32) ?hr ?_; (case hd => rfl); (case hg => rfl); (case hr => first | (go_simp; done) | (go_simp; rfl)); intro gb107 hg w33 hbox hb; have n0_ := Aside0.mk (IsS51.below (by repeat (first | (with_reducible first | exact HI0.out | apply IsS51.alloc | apply IsS51.drewN | apply IsS51.drew | apply IsS51.set_1 | apply IsS51.set_2 | refine IsS51.far ?_ NB0_101.out _) | exact HI0.out)) hb); have n1_ := Aside0.mk (kbI hb BK101); have n2_ := Aside0.mk (KeepBut.trans (by repeat (first | (with_reducible first | exact HK.out | apply KeepBut.set_ | apply keep_drewN | apply keep_drew | apply keep_alloc | refine keep_far ?_ GW101.out _) | exact HK.out)) (KeepBut.of_below hb g none) (.inl rfl)); have n3_ := Aside0.mk (below_step (by repeat (first | (with_reducible first | exact HB.out | apply bA | apply bN | apply bD | refine below_set ?_ (IsS51.ge HI0.out) | refine below_set ?_ GE101.out) | exact HB.out)) hb); have n4_ := Aside0.mk (hbox); have n5_ := Aside0.mk ((by rw [hg]; exact (keep_size (w := w) (g := g) (row := none) (by repeat (first | (with_reducible first | exact HK.out | apply KeepBut.set_ | apply keep_drewN | apply keep_drew | apply keep_alloc | refine keep_far ?_ GW101.out _) | exact HK.out))) : w.heap.size ≤ gb107)); have n6_ := Aside0.mk ((Nat.le_trans HW0.out (by rw [hg]; exact (keep_size (w := w) (g := g) (row := none) (by repeat (first | (with_reducible first | exact HK.out | apply KeepBut.set_ | apply keep_drewN | apply keep_drew | apply keep_alloc | refine keep_far ?_ GW101.out _) | exact HK.out))) : w.heap.size ≤ gb107) : w0.heap.size ≤ gb107)); have n7_ := Aside0.mk ((by rw [hg]; exact Nat.ne_of_lt (blk_lt (kI BK101)) : gb101 ≠ gb107)); have n8_ := Aside0.mk (Ne.symm n7_.out); have n9_ := Aside0.mk ((by rw [hg]; exact Nat.ne_of_lt (IsS51.lt (show IsS51 w0 _ g s0_0 t105 t106 from by repeat (first | (with_reducible first | exact HI0.out | apply IsS51.alloc | apply IsS51.drewN | apply IsS51.drew | apply IsS51.set_1 | apply IsS51.set_2 | refine IsS51.far ?_ NB0_101.out _) | exact HI0.out))) : g ≠ gb107)); have n10_ := Aside0.mk (Ne.symm n9_.out); clear HI0 BK101 HK HB; have HI0 := n0_; have BK101 := n1_; have HK := n2_; have HB := n3_; have BK107 := n4_; have GW107 := n5_; have GE107 := n6_; have NB101_107 := n7_; have NB107_101 := n8_; have NB0_107 := n9_; have NB107_0 := n10_; clear n0_ n1_ n2_ n3_ n4_ n5_ n6_ n7_ n8_ n9_ n10_ hb hbox hg; have hnb34 := NB107_101.out; have hnc34 := NB101_107.out; have hnb35 := NB107_0.out; have hnc35 := NB0_107.out; have hcz36_0 := cz BK107.out 0; have hcz36_1 := cz BK107.out 1; have hcz36_2 := cz BK107.out 2; have hfz36_0 := blk_frozen BK107.out 0; have hfz36_1 := blk_frozen BK107.out 1; have hfz36_2 := blk_frozen BK107.out 2) | ((with_reducible refine gate_callee (f := 35) rfl ?_); refine gL (some 7) Tryd.func35 #[.pointer (some ⟨g, 0, none⟩), .int .i64 24] ?_; (with_reducible refine (spec_l1Cur_pick.calls g s0_0 t105 t106 24 t108 t109 t110 w0 _ ?side1 ?side2 A3.out).mono ?_); (case side1 => repeat (first | (with_reducible first | exact HI0.out | apply IsS51.alloc | apply IsS51.drewN | apply IsS51.drew | apply IsS51.set_1 | apply IsS51.set_2 | refine IsS51.far ?_ NB0_101.out _ | refine IsS51.far ?_ NB0_107.out _) | exact HI0.out)); (case side2 => repeat (first | (with_reducible first | exact HB.out | apply bA | apply bN | apply bD | refine below_set ?_ (IsS51.ge HI0.out) | refine below_set ?_ GE101.out | refine below_set ?_ GE107.out) | exact HB.out)); rintro e w37 ⟨rfl, hi, hb, hk⟩; refine ⟨_, rfl, ?_⟩; have n0_ := Aside0.mk (KeepBut.blk hk (g' := gb101) (o := .cells #[.string (⟨#[]⟩ : ByteArray), .string (⟨#[]⟩ : ByteArray), .int .i64 0] 32 (0, 0)) (by (with_reducible repeat (first | refine kN ?_ _ | refine kD ?_ | refine kA ?_ _)); refine blk_far ?_ NB101_107.out _; (with_reducible repeat (first | refine kN ?_ _ | refine kD ?_ | refine kA ?_ _)); refine blk_far ?_ NB101_107.out _; (with_reducible repeat (first | refine kN ?_ _ | refine kD ?_ | refine kA ?_ _)); refine blk_far ?_ NB101_107.out _; (with_reducible repeat (first | refine kN ?_ _ | refine kD ?_ | refine kA ?_ _)); exact BK101.out) NB101_0.out (by simp)); have n1_ := Aside0.mk (KeepBut.blk hk (g' := gb107) (o := .cells #[.string t102, .string t103, .int .i64 t104] 32 (0, 0)) (by (with_reducible repeat (first | refine kN ?_ _ | refine kD ?_ | refine kA ?_ _)); refine blk_put (cs := #[.string t102, .string t103, .int .i64 0]) ?_ 2 _ rfl; (with_reducible repeat (first | refine kN ?_ _ | refine kD ?_ | refine kA ?_ _)); refine blk_put (cs := #[.string t102, .string (⟨#[]⟩ : ByteArray), .int .i64 0]) ?_ 1 _ rfl; (with_reducible repeat (first | refine kN ?_ _ | refine kD ?_ | refine kA ?_ _)); refine blk_put (cs := #[.string (⟨#[]⟩ : ByteArray), .string (⟨#[]⟩ : ByteArray), .int .i64 0]) ?_ 0 _ rfl; (with_reducible repeat (first | refine kN ?_ _ | refine kD ?_ | refine kA ?_ _)); exact BK107.out) NB107_0.out (by simp)); have n2_ := Aside0.mk (KeepBut.trans (by repeat (first | (with_reducible first | exact HK.out | apply KeepBut.set_ | apply keep_drewN | apply keep_drew | apply keep_alloc | refine keep_far ?_ GW101.out _ | refine keep_far ?_ GW107.out _) | exact HK.out)) hk (.inl rfl)); have n3_ := Aside0.mk (hb); have n4_ := Aside0.mk (hi); clear BK101 BK107 HK HB HI0; have BK101 := n0_; have BK107 := n1_; have HK := n2_; have HB := n3_; have HI0 := n4_; clear n0_ n1_ n2_ n3_ n4_; (try clear hb); (try clear hb2); (try clear hk); (try clear hi); have hcz38_0 := cz BK107.out 0; have hcz38_1 := cz BK107.out 1; have hcz38_2 := cz BK107.out 2; have hfz38_0 := blk_frozen BK107.out 0; have hfz38_1 := blk_frozen BK107.out 1; have hfz38_2 := blk_frozen BK107.out 2; have hnb39 := NB101_0.out; have hnc39 := NB0_101.out; have hcz40_0 := cz BK101.out 0; have hcz40_1 := cz BK101.out 1; have hcz40_2 := cz BK101.out 2; have hfz40_0 := blk_frozen BK101.out 0; have hfz40_1 := blk_frozen BK101.out 1; have hfz40_2 := blk_frozen BK101.out 2))
     (refine bodyPost_ret (results_cell_row rfl _ _ gb101 32 #[.string (t102 ++ t103), .string t103, .int .i64 t104] (0, 0) _ rfl (by (with_reducible repeat (first | refine kN ?_ _ | refine kD ?_ | refine kA ?_ _)); refine blk_put (cs := #[.string (t102 ++ t103), .string t103, .int .i64 0]) ?_ 2 _ rfl; (with_reducible repeat (first | refine kN ?_ _ | refine kD ?_ | refine kA ?_ _)); refine blk_put (cs := #[.string (t102 ++ t103), .string (⟨#[]⟩ : ByteArray), .int .i64 0]) ?_ 1 _ rfl; (with_reducible repeat (first | refine kN ?_ _ | refine kD ?_ | refine kA ?_ _)); refine blk_put (cs := #[.string (⟨#[]⟩ : ByteArray), .string (⟨#[]⟩ : ByteArray), .int .i64 0]) ?_ 0 _ rfl; (with_reducible repeat (first | refine kN ?_ _ | refine kD ?_ | refine kA ?_ _)); refine blk_far ?_ NB101_107.out _; (with_reducible repeat (first | refine kN ?_ _ | refine kD ?_ | refine kA ?_ _)); exact BK101.out) Tryd.underlying32 rfl (by kernel_rfl)) rfl ?_); (exact ⟨rfl, by repeat (first | (with_reducible first | exact HI0.out | apply IsS51.alloc | apply IsS51.drewN | apply IsS51.drew | apply IsS51.set_1 | apply IsS51.set_2 | refine IsS51.far ?_ NB0_101.out _ | refine IsS51.far ?_ NB0_107.out _) | exact HI0.out), by repeat (first | (with_reducible first | exact HB.out | apply bA | apply bN | apply bD | refine below_set ?_ (IsS51.ge HI0.out) | refine below_set ?_ GE101.out | refine below_set ?_ GE107.out) | exact HB.out), by repeat (first | (with_reducible first | exact HK.out | apply KeepBut.set_ | apply keep_drewN | apply keep_drew | apply keep_alloc | refine keep_far ?_ GW101.out _ | refine keep_far ?_ GW107.out _) | exact HK.out)⟩)
    ·rw [if_neg c30] at H
     exact absurd H (by simp)
   ·rw [if_neg c29] at H
    (have c29b0 : (t108 == 2) = false := beq_eq_false_iff_ne.mpr c29); (have c29b1 : (t108 != 2) = true := bne_iff_ne.mpr c29); (simp only [Option.some.injEq, Prod.mk.injEq] at H); (obtain ⟨rfl, rfl, rfl, rfl, rfl⟩ := H); (go_enter Tryd.func41, Tryd.ntmps41)
    go_wp2_with (first | ((with_reducible refine gate_dst (N := 2) rfl ?_); refine box_event ?hg (N := 2) ?hd (cs := #[.string (⟨#[]⟩ : ByteArray), .string (⟨#[]⟩ : ByteArray), .int .i64 0]) (t := 32) ?hr ?_; (case hd => rfl); (case hg => rfl); (case hr => first | (go_simp; done) | (go_simp; rfl)); intro gb101 hg w41 hbox hb; have n0_ := Aside0.mk (IsS51.below (by repeat (first | (with_reducible first | exact HI0.out | apply IsS51.alloc | apply IsS51.drewN | apply IsS51.drew | apply IsS51.set_1 | apply IsS51.set_2) | exact HI0.out)) hb); have n1_ := Aside0.mk (KeepBut.trans (by repeat (first | (with_reducible first | exact HK.out | apply KeepBut.set_ | apply keep_drewN | apply keep_drew | apply keep_alloc) | exact HK.out)) (KeepBut.of_below hb g none) (.inl rfl)); have n2_ := Aside0.mk (below_step (by repeat (first | (with_reducible first | exact HB.out | apply bA | apply bN | apply bD | refine below_set ?_ (IsS51.ge HI0.out)) | exact HB.out)) hb); have n3_ := Aside0.mk (hbox); have n4_ := Aside0.mk ((by rw [hg]; exact (keep_size (w := w) (g := g) (row := none) (by repeat (first | (with_reducible first | exact HK.out | apply KeepBut.set_ | apply keep_drewN | apply keep_drew | apply keep_alloc) | exact HK.out))) : w.heap.size ≤ gb101)); have n5_ := Aside0.mk ((Nat.le_trans HW0.out (by rw [hg]; exact (keep_size (w := w) (g := g) (row := none) (by repeat (first | (with_reducible first | exact HK.out | apply KeepBut.set_ | apply keep_drewN | apply keep_drew | apply keep_alloc) | exact HK.out))) : w.heap.size ≤ gb101) : w0.heap.size ≤ gb101)); have n6_ := Aside0.mk ((by rw [hg]; exact Nat.ne_of_lt (IsS51.lt (show IsS51 w0 _ g s0_0 s0_1 s0_2 from by repeat (first | (with_reducible first | exact HI0.out | apply IsS51.alloc | apply IsS51.drewN | apply IsS51.drew | apply IsS51.set_1 | apply IsS51.set_2) | exact HI0.out))) : g ≠ gb101)); have n7_ := Aside0.mk (Ne.symm n6_.out); clear HI0 HK HB; have HI0 := n0_; have HK := n1_; have HB := n2_; have BK101 := n3_; have GW101 := n4_; have GE101 := n5_; have NB0_101 := n6_; have NB101_0 := n7_; clear n0_ n1_ n2_ n3_ n4_ n5_ n6_ n7_ hb hbox hg) | ((with_reducible refine gate_callee (f := 34) rfl ?_); refine gL (some 5) Tryd.func34 #[.pointer (some ⟨g, 0, none⟩)] ?_; (with_reducible refine (spec_l1Cur_log.calls k g s0_0 s0_1 s0_2 t102 t103 t104 t105 t106 w0 _ ?side1 ?side2 A2.out).mono ?_); (case side1 => repeat (first | (with_reducible first | exact HI0.out | apply IsS51.alloc | apply IsS51.drewN | apply IsS51.drew | apply IsS51.set_1 | apply IsS51.set_2 | refine IsS51.far ?_ NB0_101.out _) | exact HI0.out)); (case side2 => repeat (first | (with_reducible first | exact HB.out | apply bA | apply bN | apply bD | refine below_set ?_ (IsS51.ge HI0.out) | refine below_set ?_ GE101.out) | exact HB.out)); rintro e w42 ⟨rfl, hi, hb, hk⟩; refine ⟨_, rfl, ?_⟩; have n0_ := Aside0.mk (KeepBut.blk hk (g' := gb101) (o := .cells #[.string (⟨#[]⟩ : ByteArray), .string (⟨#[]⟩ : ByteArray), .int .i64 0] 32 (0, 0)) (kI BK101) NB101_0.out (by simp)); have n1_ := Aside0.mk (KeepBut.trans (by repeat (first | (with_reducible first | exact HK.out | apply KeepBut.set_ | apply keep_drewN | apply keep_drew | apply keep_alloc | refine keep_far ?_ GW101.out _) | exact HK.out)) hk (.inl rfl)); have n2_ := Aside0.mk (hb); have n3_ := Aside0.mk (hi); clear BK101 HK HB HI0; have BK101 := n0_; have HK := n1_; have HB := n2_; have HI0 := n3_; clear n0_ n1_ n2_ n3_; (try clear hb); (try clear hb2); (try clear hk); (try clear hi)) | ((with_reducible refine gate_dst (N := 3) rfl ?_); refine box_event ?hg (N := 3) ?hd (cs := #[.string (⟨#[]⟩ : ByteArray), .string (⟨#[]⟩ : ByteArray), .int .i64 0]) (t := 32) ?hr ?_; (case hd => rfl); (case hg => rfl); (case hr => first | (go_simp; done) | (go_simp; rfl)); intro gb107 hg w43 hbox hb; have n0_ := Aside0.mk (IsS51.below (by repeat (first | (with_reducible first | exact HI0.out | apply IsS51.alloc | apply IsS51.drewN | apply IsS51.drew | apply IsS51.set_1 | apply IsS51.set_2 | refine IsS51.far ?_ NB0_101.out _) | exact HI0.out)) hb); have n1_ := Aside0.mk (kbI hb BK101); have n2_ := Aside0.mk (KeepBut.trans (by repeat (first | (with_reducible first | exact HK.out | apply KeepBut.set_ | apply keep_drewN | apply keep_drew | apply keep_alloc | refine keep_far ?_ GW101.out _) | exact HK.out)) (KeepBut.of_below hb g none) (.inl rfl)); have n3_ := Aside0.mk (below_step (by repeat (first | (with_reducible first | exact HB.out | apply bA | apply bN | apply bD | refine below_set ?_ (IsS51.ge HI0.out) | refine below_set ?_ GE101.out) | exact HB.out)) hb); have n4_ := Aside0.mk (hbox); have n5_ := Aside0.mk ((by rw [hg]; exact (keep_size (w := w) (g := g) (row := none) (by repeat (first | (with_reducible first | exact HK.out | apply KeepBut.set_ | apply keep_drewN | apply keep_drew | apply keep_alloc | refine keep_far ?_ GW101.out _) | exact HK.out))) : w.heap.size ≤ gb107)); have n6_ := Aside0.mk ((Nat.le_trans HW0.out (by rw [hg]; exact (keep_size (w := w) (g := g) (row := none) (by repeat (first | (with_reducible first | exact HK.out | apply KeepBut.set_ | apply keep_drewN | apply keep_drew | apply keep_alloc | refine keep_far ?_ GW101.out _) | exact HK.out))) : w.heap.size ≤ gb107) : w0.heap.size ≤ gb107)); have n7_ := Aside0.mk ((by rw [hg]; exact Nat.ne_of_lt (blk_lt (kI BK101)) : gb101 ≠ gb107)); have n8_ := Aside0.mk (Ne.symm n7_.out); have n9_ := Aside0.mk ((by rw [hg]; exact Nat.ne_of_lt (IsS51.lt (show IsS51 w0 _ g s0_0 t105 t106 from by repeat (first | (with_reducible first | exact HI0.out | apply IsS51.alloc | apply IsS51.drewN | apply IsS51.drew | apply IsS51.set_1 | apply IsS51.set_2 | refine IsS51.far ?_ NB0_101.out _) | exact HI0.out))) : g ≠ gb107)); have n10_ := Aside0.mk (Ne.symm n9_.out); clear HI0 BK101 HK HB; have HI0 := n0_; have BK101 := n1_; have HK := n2_; have HB := n3_; have BK107 := n4_; have GW107 := n5_; have GE107 := n6_; have NB101_107 := n7_; have NB107_101 := n8_; have NB0_107 := n9_; have NB107_0 := n10_; clear n0_ n1_ n2_ n3_ n4_ n5_ n6_ n7_ n8_ n9_ n10_ hb hbox hg; have hnb44 := NB107_101.out; have hnc44 := NB101_107.out; have hnb45 := NB107_0.out; have hnc45 := NB0_107.out; have hcz46_0 := cz BK107.out 0; have hcz46_1 := cz BK107.out 1; have hcz46_2 := cz BK107.out 2; have hfz46_0 := blk_frozen BK107.out 0; have hfz46_1 := blk_frozen BK107.out 1; have hfz46_2 := blk_frozen BK107.out 2) | ((with_reducible refine gate_callee (f := 35) rfl ?_); refine gL (some 7) Tryd.func35 #[.pointer (some ⟨g, 0, none⟩), .int .i64 24] ?_; (with_reducible refine (spec_l1Cur_pick.calls g s0_0 t105 t106 24 t108 t109 t110 w0 _ ?side1 ?side2 A3.out).mono ?_); (case side1 => repeat (first | (with_reducible first | exact HI0.out | apply IsS51.alloc | apply IsS51.drewN | apply IsS51.drew | apply IsS51.set_1 | apply IsS51.set_2 | refine IsS51.far ?_ NB0_101.out _ | refine IsS51.far ?_ NB0_107.out _) | exact HI0.out)); (case side2 => repeat (first | (with_reducible first | exact HB.out | apply bA | apply bN | apply bD | refine below_set ?_ (IsS51.ge HI0.out) | refine below_set ?_ GE101.out | refine below_set ?_ GE107.out) | exact HB.out)); rintro e w47 ⟨rfl, hi, hb, hk⟩; refine ⟨_, rfl, ?_⟩; have n0_ := Aside0.mk (KeepBut.blk hk (g' := gb101) (o := .cells #[.string (⟨#[]⟩ : ByteArray), .string (⟨#[]⟩ : ByteArray), .int .i64 0] 32 (0, 0)) (by (with_reducible repeat (first | refine kN ?_ _ | refine kD ?_ | refine kA ?_ _)); refine blk_far ?_ NB101_107.out _; (with_reducible repeat (first | refine kN ?_ _ | refine kD ?_ | refine kA ?_ _)); refine blk_far ?_ NB101_107.out _; (with_reducible repeat (first | refine kN ?_ _ | refine kD ?_ | refine kA ?_ _)); refine blk_far ?_ NB101_107.out _; (with_reducible repeat (first | refine kN ?_ _ | refine kD ?_ | refine kA ?_ _)); exact BK101.out) NB101_0.out (by simp)); have n1_ := Aside0.mk (KeepBut.blk hk (g' := gb107) (o := .cells #[.string t102, .string t103, .int .i64 t104] 32 (0, 0)) (by (with_reducible repeat (first | refine kN ?_ _ | refine kD ?_ | refine kA ?_ _)); refine blk_put (cs := #[.string t102, .string t103, .int .i64 0]) ?_ 2 _ rfl; (with_reducible repeat (first | refine kN ?_ _ | refine kD ?_ | refine kA ?_ _)); refine blk_put (cs := #[.string t102, .string (⟨#[]⟩ : ByteArray), .int .i64 0]) ?_ 1 _ rfl; (with_reducible repeat (first | refine kN ?_ _ | refine kD ?_ | refine kA ?_ _)); refine blk_put (cs := #[.string (⟨#[]⟩ : ByteArray), .string (⟨#[]⟩ : ByteArray), .int .i64 0]) ?_ 0 _ rfl; (with_reducible repeat (first | refine kN ?_ _ | refine kD ?_ | refine kA ?_ _)); exact BK107.out) NB107_0.out (by simp)); have n2_ := Aside0.mk (KeepBut.trans (by repeat (first | (with_reducible first | exact HK.out | apply KeepBut.set_ | apply keep_drewN | apply keep_drew | apply keep_alloc | refine keep_far ?_ GW101.out _ | refine keep_far ?_ GW107.out _) | exact HK.out)) hk (.inl rfl)); have n3_ := Aside0.mk (hb); have n4_ := Aside0.mk (hi); clear BK101 BK107 HK HB HI0; have BK101 := n0_; have BK107 := n1_; have HK := n2_; have HB := n3_; have HI0 := n4_; clear n0_ n1_ n2_ n3_ n4_; (try clear hb); (try clear hb2); (try clear hk); (try clear hi); have hcz48_0 := cz BK107.out 0; have hcz48_1 := cz BK107.out 1; have hcz48_2 := cz BK107.out 2; have hfz48_0 := blk_frozen BK107.out 0; have hfz48_1 := blk_frozen BK107.out 1; have hfz48_2 := blk_frozen BK107.out 2; have hnb49 := NB101_0.out; have hnc49 := NB0_101.out; have hcz50_0 := cz BK101.out 0; have hcz50_1 := cz BK101.out 1; have hcz50_2 := cz BK101.out 2; have hfz50_0 := blk_frozen BK101.out 0; have hfz50_1 := blk_frozen BK101.out 1; have hfz50_2 := blk_frozen BK101.out 2))
    (refine bodyPost_ret (results_cell_row rfl _ _ gb101 32 #[.string t102, .string t103, .int .i64 t104] (0, 0) _ rfl (by (with_reducible repeat (first | refine kN ?_ _ | refine kD ?_ | refine kA ?_ _)); refine blk_put (cs := #[.string t102, .string t103, .int .i64 0]) ?_ 2 _ rfl; (with_reducible repeat (first | refine kN ?_ _ | refine kD ?_ | refine kA ?_ _)); refine blk_put (cs := #[.string t102, .string (⟨#[]⟩ : ByteArray), .int .i64 0]) ?_ 1 _ rfl; (with_reducible repeat (first | refine kN ?_ _ | refine kD ?_ | refine kA ?_ _)); refine blk_put (cs := #[.string (⟨#[]⟩ : ByteArray), .string (⟨#[]⟩ : ByteArray), .int .i64 0]) ?_ 0 _ rfl; (with_reducible repeat (first | refine kN ?_ _ | refine kD ?_ | refine kA ?_ _)); exact BK101.out) Tryd.underlying32 rfl (by kernel_rfl)) rfl ?_); (exact ⟨rfl, by repeat (first | (with_reducible first | exact HI0.out | apply IsS51.alloc | apply IsS51.drewN | apply IsS51.drew | apply IsS51.set_1 | apply IsS51.set_2 | refine IsS51.far ?_ NB0_101.out _ | refine IsS51.far ?_ NB0_107.out _) | exact HI0.out), by repeat (first | (with_reducible first | exact HB.out | apply bA | apply bN | apply bD | refine below_set ?_ (IsS51.ge HI0.out) | refine below_set ?_ GE101.out | refine below_set ?_ GE107.out) | exact HB.out), by repeat (first | (with_reducible first | exact HK.out | apply KeepBut.set_ | apply keep_drewN | apply keep_drew | apply keep_alloc | refine keep_far ?_ GW101.out _ | refine keep_far ?_ GW107.out _) | exact HK.out)⟩)

end Go.Proofs.YtkdibcifamlciaaDoor.X
set_option linter.unusedVariables false
set_option linter.unusedSimpArgs false
namespace Go.Proofs.YtkdibcifamlciaaDoor.X
open Go.RowKit Go.Proofs.YtkdibcifamlciaaDoorW.PrintWords Go.Proofs.YtkdibcifamlciaaDoor.E
theorem rep3 : (strOfNums (List.replicate 3 0)).size ≤ 12 := by
  unfold strOfNums
  first | decide | simp
theorem logRecord_tot {l : List Int} {a : Int} (s : Int) (h : Cu l a) (hb : a ≤ 999900) : ∃ c r a' s', spec_l1Cur_logRecord.f l a s = some (c, r, a', s') ∧ c.size ≤ 12 ∧ r.size ≤ 12 ∧ Cu l a' ∧ (a ≤ a' ∧ a' ≤ a + 8) := by
  unfold spec_l1Cur_logRecord.f
  obtain ⟨v1, a1, s1, e1, m1, c1, b1⟩ := of_tot s [(⟨#[99, 111, 117, 110, 116]⟩ : ByteArray), (⟨#[115, 111, 114, 116, 32, 109, 101, 114, 103, 101]⟩ : ByteArray), (⟨#[120]⟩ : ByteArray), (⟨#[115, 101, 108, 101, 99, 116, 32, 50]⟩ : ByteArray), (⟨#[48, 32, 49]⟩ : ByteArray)] (by decide) h (by omega)
  obtain ⟨v2, a2, s2, e2, m2, c2, b2⟩ := of_tot s1 [(⟨#[]⟩ : ByteArray), (⟨#[51]⟩ : ByteArray), (⟨#[63]⟩ : ByteArray), (⟨#[97, 64, 98]⟩ : ByteArray), (⟨#[51, 32, 49, 32, 50]⟩ : ByteArray)] (by decide) c1 (by omega)
  obtain ⟨v3, a3, s3, e3, n3, c3, b3⟩ := pick_in s2 24 (by omega) c2 (by omega)
  have z1 : v1.size ≤ 12 := by
    simp only [List.mem_cons, List.mem_nil_iff, or_false] at m1
    rcases m1 with rfl | rfl | rfl | rfl | rfl <;> decide
  have z2 : v2.size ≤ 12 := by
    simp only [List.mem_cons, List.mem_nil_iff, or_false] at m2
    rcases m2 with rfl | rfl | rfl | rfl | rfl <;> decide
  rw [e1, Option.bind_some]
  dsimp only
  rw [e2, Option.bind_some]
  dsimp only
  rw [e3, Option.bind_some]
  dsimp only
  by_cases d0 : v3 = 0
  · obtain ⟨v4, a4, s4, e4, m4, c4, b4⟩ := of_tot s3 [(⟨#[]⟩ : ByteArray), (⟨#[97, 64, 98]⟩ : ByteArray), (⟨#[97, 35]⟩ : ByteArray), (⟨#[10]⟩ : ByteArray), strOfNums (List.replicate 3 0)] (by decide) c3 (by omega)
    have z4 : v4.size ≤ 12 := by
      simp only [List.mem_cons, List.mem_nil_iff, or_false] at m4
      rcases m4 with rfl | rfl | rfl | rfl | rfl
      · decide
      · decide
      · decide
      · decide
      · exact rep3
    rw [if_pos d0, if_pos (by omega), e4, Option.bind_some]
    exact ⟨_, _, _, _, rfl, z4, z2, c4, by dsimp only; omega, by dsimp only; omega⟩
  rw [if_neg d0]
  by_cases d1 : v3 = 1
  · obtain ⟨v4, a4, s4, e4, m4, c4, b4⟩ := of_tot s3 [(⟨#[35]⟩ : ByteArray), (⟨#[10]⟩ : ByteArray), (⟨#[127]⟩ : ByteArray)] (by decide) c3 (by omega)
    have z4 : v4.size ≤ 12 := by
      simp only [List.mem_cons, List.mem_nil_iff, or_false] at m4
      rcases m4 with rfl | rfl | rfl <;> decide
    rw [if_pos d1, e4, Option.bind_some]
    exact ⟨_, _, _, _, rfl, z1, z4, c4, by dsimp only; omega, by dsimp only; omega⟩
  rw [if_neg d1]
  exact ⟨_, _, _, _, rfl, z1, z2, c3, by omega, by omega⟩
theorem append_tot (D P : ByteArray) (n : Int) (s r : ByteArray) (hz : D.size + P.size ≤ 4194304) (hs : s.size ≤ 1000) (hr : r.size ≤ 1000) : ∃ P' n' co, Ev (fun k => spec_AppendRecord.f k D P n s r) (D, P', n', co) ∧ P'.size ≤ P.size + 425 := by
  obtain ⟨v, h, _, c⟩ := append_cases D P n s r hz (by omega) (by omega)
  rcases c with rfl | rfl | ⟨L, g, hrec, hn, rfl⟩
  · exact ⟨_, _, _, h, by omega⟩
  · exact ⟨_, _, _, h, by omega⟩
  · have := lnN_size n s r hn hrec
    exact ⟨_, _, _, h, by rw [ByteArray.size_append]; omega⟩
theorem sync_tot (D P : ByteArray) (n : Int) (hz : D.size + P.size ≤ 4194304) : ∃ D' n' o, Ev (fun k => spec_SyncLog.f k D P n) (D', nilB, n', o) ∧ D'.size ≤ D.size + P.size := by
  rcases sync_cases D P n hz with ⟨L, g, h, _⟩ | ⟨_, h, _⟩
  · exact ⟨_, _, _, h, by rw [ByteArray.size_append]; omega⟩
  · have hnz : (nilB).size = 0 := rfl
    exact ⟨_, _, _, h, by omega⟩
theorem log_tot {l : List Int} (m : Nat) : ∀ (a s : Int) (D P : ByteArray) (n : Int), m ≤ 10 → Cu l a → a + 20 * m ≤ 999000 → D.size + P.size ≤ 425 * (10 - m) → ∃ D' P' n' a' s', Ev (fun k => spec_l1Cur_log.l0 k (m : Int) l a s D P n) (D', P', n', a', s') ∧ D'.size + P'.size ≤ 4250 ∧ Cu l a' ∧ (a ≤ a' ∧ a' ≤ a + 20 * m) := by
  induction m with
  | zero =>
    intro a s D P n hm hc ha hz
    exact ⟨_, _, _, _, _, Ev.step (fun k => rfl) (ev_neg (by omega) (ev_now rfl)), by omega, hc, by omega, by omega⟩
  | succ m ih =>
    intro a s D P n hm hc ha hz
    obtain ⟨c, r, a1, s1, e1, z1, z2, c1, b1⟩ := logRecord_tot s hc (by omega)
    obtain ⟨P1, n1, co, h1, hp1⟩ := append_tot D P n c r (by omega) (by omega) (by omega)
    obtain ⟨b, a2, s2, e2, c2, b2⟩ := one_tot s1 4 c1 (by omega)
    have hw : wrap64 (((m + 1 : Nat) : Int) - 1) = (m : Int) := by rw [wrap_id (by omega) (by omega)]; omega
    cases b
    · obtain ⟨D', P', n', a', s', h, hz', c', b'⟩ := ih a2 s2 D P1 n1 (by omega) c2 (by omega) (by omega)
      refine ⟨D', P', n', a', s', Ev.step (fun k => rfl) (ev_pos (by omega) (ev_bind0 e1 (Ev.bind h1 (ev_bind0 e2 (ev_neg (by simp) ?_))))), hz', c', by omega, by omega⟩
      rw [hw]
      exact h
    · obtain ⟨D2, n2, o, h2, hp2⟩ := sync_tot D P1 n1 (by omega)
      have hnz : (nilB).size = 0 := rfl
      obtain ⟨D', P', n', a', s', h, hz', c', b'⟩ := ih a2 s2 D2 nilB n2 (by omega) c2 (by omega) (by omega)
      refine ⟨D', P', n', a', s', Ev.step (fun k => rfl) (ev_pos (by omega) (ev_bind0 e1 (Ev.bind h1 (ev_bind0 e2 (ev_pos rfl (Ev.bind h2 ?_)))))), hz', c', by omega, by omega⟩
      rw [hw]
      exact h
theorem logF_tot {l : List Int} {a : Int} (s : Int) (h : Cu l a) (hb : a ≤ 900000) : ∃ D P n a' s', Ev (fun k => spec_l1Cur_log.f k l a s) (D, P, n, a', s') ∧ D.size + P.size ≤ 4250 ∧ Cu l a' ∧ (a ≤ a' ∧ a' ≤ a + 300) := by
  obtain ⟨v, a1, s1, e1, h0, c1, b1⟩ := pick_in s 7 (by omega) h (by omega)
  obtain ⟨m, rfl⟩ : ∃ m : Nat, v = (m : Int) := ⟨v.toNat, by omega⟩
  have hnz : (nilB).size = 0 := rfl
  obtain ⟨D, P, n, a', s', h1, h2, h3, h4⟩ := log_tot (l := l) m a1 s1 nilB nilB 0 (by omega) c1 (by omega) (by omega)
  exact ⟨D, P, n, a', s', ev_bind0 e1 h1, h2, h3, by omega, by omega⟩
/-- The cursor at the start. -/
theorem cu_start {l : List Int} (h : l.length ≤ 9223372036854775807 ∧ ∀ y ∈ l, (Lit.int .u8 y).wf = true) : Cu l 0 := by
  refine ⟨h.1, fun y hy => ?_, by omega, by omega⟩
  have := h.2 y hy
  simp only [Lit.wf, Bool.and_eq_true, decide_eq_true_eq] at this
  exact this
end Go.Proofs.YtkdibcifamlciaaDoor.X
namespace Go.Proofs.YtkdibcifamlciaaDoor.X
open Go.RowKit Go.Proofs.YtkdibcifamlciaaDoorW.PrintWords Go.Proofs.YtkdibcifamlciaaDoorW.PrintLast Go.Proofs.YtkdibcifamlciaaDoorW.PrintMore Go.Proofs.YtkdibcifamlciaaDoor.E
attribute [local go_sem] max2_int min2_int max_two min_two max_three min_three max_four min_four   -- for this text's walks alone
set_option linter.unusedVariables false
set_option linter.unusedSimpArgs false
attribute [-simp] ByteArray.size_append ByteArray.size_extract
attribute [-go_sem] ByteArray.size_append'

/-! ### impl_CrashLog: function 23 -/
/-- What lies in the row that a conversion of a text makes. -/
theorem impl_bw_frozen (w : World) (e : TypeId) (s : ByteArray) (j : Nat) (hj : j < s.size) : (Lib.bytesWorld w e s).frozen? ⟨w.heap.size, j, none⟩ = false := by
 (have hz : s.size ≤ (Lib.bytesCells w e s).size := by unfold Lib.bytesCells; rw [Array.size_append, Array.size_map]; exact Nat.le_add_right _ _); (simp [World.frozen?, Lib.bytesWorld_at_new]); (omega)
theorem impl_bw_below (w : World) (e : TypeId) (s : ByteArray) : Below w.heap.size w (Lib.bytesWorld w e s) := Joins.below_bytesWorld _ _ _ _ (Nat.le_refl _)
/-- The last byte of a row of bytes turned around. -/
def impl_tornB (s : ByteArray) : ByteArray := ⟨(s.data.toList.set (s.size - 1) (255 - s.data.toList.getD (s.size - 1) 0)).toArray⟩
theorem impl_add0 (b j : Nat) : (⟨b, 0, none⟩ : Addr).add j = ⟨b, j, none⟩ := by unfold Addr.add; split <;> simp_all
theorem impl_conv_plain (w : World) (s : ByteArray) (cap : Nat) : (convert 22 9 (.slice (some ⟨w.heap.size, 0, none⟩) s.size cap)).run Tryd.prog (Lib.bytesWorld w 5 s) = .ok (.string s) (Lib.bytesWorld w 5 s) := by
 have h := run_convert_bytes_back (P := Tryd.prog) (Lib.bytesWorld w 5 s) 22 9 5 ⟨w.heap.size, 0, none⟩ cap s.data.toList Tryd.underlying22 Tryd.underlying5 Tryd.underlying9 (fun j hj => by
  rw [impl_add0, Lib.bytesWorld_cell _ _ _ _ (by rw [Array.length_toList] at hj; exact hj), List.getD_eq_getElem?_getD, List.getElem?_eq_getElem hj, Option.getD_some])
 (rw [Array.length_toList] at h); (exact h)
theorem impl_turn (b : UInt8) : ((255 - b : UInt8).toNat : Int) = 255 - (b.toNat : Int) := by
 (have := b.toNat_lt); (rw [UInt8.toNat_sub]); (have : (255 : UInt8).toNat = 255 := rfl); (omega)
theorem impl_conv_torn (w : World) (s : ByteArray) (cap : Nat) (h0 : 0 < s.size) (bv : Int) (hbv : bv = ((s.data.toList.getD (s.size - 1) 0).toNat : Int)) : (convert 22 9 (.slice (some ⟨w.heap.size, 0, none⟩) s.size cap)).run Tryd.prog ((Lib.bytesWorld w 5 s).setCell ⟨w.heap.size, s.size - 1, none⟩ (.int .u8 (255 - bv))) = .ok (.string (impl_tornB s)) ((Lib.bytesWorld w 5 s).setCell ⟨w.heap.size, s.size - 1, none⟩ (.int .u8 (255 - bv))) := by
 have hsz : s.data.toList.length = s.size := Array.length_toList
 have h := run_convert_bytes_back (P := Tryd.prog) ((Lib.bytesWorld w 5 s).setCell ⟨w.heap.size, s.size - 1, none⟩ (.int .u8 (255 - bv))) 22 9 5 ⟨w.heap.size, 0, none⟩ cap (s.data.toList.set (s.size - 1) (255 - s.data.toList.getD (s.size - 1) 0)) Tryd.underlying22 Tryd.underlying5 Tryd.underlying9 (fun j hj => by
  (rw [List.length_set, hsz] at hj); (rw [impl_add0]); (by_cases e : j = s.size - 1); (· subst e; (rw [List.getElem_set_self, impl_turn, ← hbv]); (exact World.cell?_setCell_same' _ _ _ (by rw [Lib.bytesWorld_cell _ _ _ _ hj]; rfl))); (· (rw [World.cell?_setCell_other _ _ _ _ (by intro e2; injection e2 with _ e3; omega), Lib.bytesWorld_cell _ _ _ _ hj, List.getElem_set_ne (by omega), List.getD_eq_getElem?_getD, List.getElem?_eq_getElem (by omega), Option.getD_some])))
 (rw [List.length_set, hsz] at h); (exact h)
theorem impl_torn_size (s : ByteArray) : (impl_tornB s).size = s.size := by
 (show (s.data.toList.set _ _).toArray.size = s.size); (rw [List.size_toArray, List.length_set, Array.length_toList]); rfl
def impl_CrashLog.f (k : Nat) (a0_0 : ByteArray) (a0_1 : ByteArray) (a0_2 : Int) (a1 : Int) (a2 : Bool) : Option (ByteArray × Bool) := (impl_IsValidLog.f k a0_0 a0_1 a0_2).bind fun t => (if t = true then (if 0 ≤ a1 ∧ a1 ≤ (a0_1.size : Int) then (if a0_0.size + a0_1.size ≤ 4398046511104 then some (a0_0 ++ (if a2 = true ∧ 0 < a1 then impl_tornB (a0_1.extract 0 a1.toNat) else a0_1.extract 0 a1.toNat), true) else none) else some (⟨#[]⟩, false)) else some (⟨#[]⟩, false))
theorem impl_in_eq (a l h : Int) : impl_within.f a l h = some (decide (l ≤ a ∧ a ≤ h)) := by
 (unfold impl_within.f); (by_cases c1 : l ≤ a <;> by_cases c2 : a ≤ h <;> simp [*] <;> omega)
set_option maxHeartbeats 4000000 in
set_option maxRecDepth 100000 in
theorem impl_CrashLog.calls (k : Nat) (a0_0 : ByteArray) (a0_1 : ByteArray) (a0_2 : Int) (a1 : Int) (a2 : Bool) (r1 : ByteArray) (r2 : Bool) (w : World) (hG : GT w) (h : impl_CrashLog.f k a0_0 a0_1 a0_2 a1 a2 = some (r1, r2)) :
  Calls Tryd.prog 23 #[.agg #[.string a0_0, .string a0_1, .int .i64 a0_2], .int .i64 a1, .bool a2] w fun e w' => e = .returned (.tuple #[.string r1, .bool r2]) ∧ Below w.heap.size w w' := by
 (have hu27 := Tryd.underlying32); (have HG := Aside0.mk hG); clear hG; (have HB := Aside0.mk (Below.refl w.heap.size w)); (unfold impl_CrashLog.f at h); (have H := h); clear h; (replace H := obS H; obtain ⟨t101, A3, H⟩ := H); (by_cases c4 : t101 = true)
 ·subst c4
  (rw [if_pos rfl] at H); (by_cases c5 : 0 ≤ a1 ∧ a1 ≤ (a0_1.size : Int))
  ·rw [if_pos c5] at H
   by_cases c6 : a0_0.size + a0_1.size ≤ 4398046511104
   case neg => rw [if_neg c6] at H; exact absurd H (by simp)
   (rw [if_pos c6] at H); (simp only [Option.some.injEq, Prod.mk.injEq] at H); (obtain ⟨HQ, rfl⟩ := H); (have HH := Aside0.mk HQ); clear HQ; (obtain ⟨p1, q1⟩ := c5); (have A4 : impl_within.f a1 0 (a0_1.size : Int) = some true := by rw [impl_in_eq, decide_eq_true ⟨p1, q1⟩]); (have HA4 := Aside0.mk A4); clear A4; (have hs : (a0_1.extract 0 a1.toNat).size = a1.toNat := by rw [ByteArray.size_extract]; omega); (have hcv := fun (w : World) => Lib.run_convert_string_bytes (P := Tryd.prog) w 9 22 5 (a0_1.extract 0 a1.toNat) Tryd.underlying9 Tryd.underlying22 Tryd.underlying5); (have HSZ := Aside0.mk hs); (by_cases ct : a2 = true ∧ 0 < a1); (· (rw [if_pos ct] at HH); (obtain rfl := HH.out); (obtain ⟨rfl, ht0⟩ := ct); (have hgt : decide (a1 > 0) = true := decide_eq_true ht0); (have hz1 : ¬ 9223372036854775807 < a0_0.size + (impl_tornB (a0_1.extract 0 a1.toNat)).size := by rw [impl_torn_size, hs]; omega); (have hgt2 : decide (0 < a1) = true := decide_eq_true ht0); (go_enter Tryd.func23, Tryd.ntmps23); (go_wp2_with (first | (go_at_call 14; (refine (impl_IsValidLog.calls k a0_0 a0_1 a0_2 true _ (GT.below HG.out (by repeat (first | exact HB.out | apply bA | apply bN | apply bD))) A3.out).mono ?_; rintro e w6 ⟨rfl, hb⟩; have HB6 := Aside0.mk (below_step (by repeat (first | exact HB.out | apply bA | apply bN | apply bD)) hb); have g0 : w6.cell? ⟨w.heap.size, 0, none⟩ = some (.string a0_0) := (hb.cell (p := ⟨w.heap.size, 0, none⟩) (by simp)).trans (by simp); have g1 : w6.cell? ⟨w.heap.size, 1, none⟩ = some (.string a0_1) := (hb.cell (p := ⟨w.heap.size, 1, none⟩) (by simp)).trans (by simp); have S6 := Aside0.mk (Nat.lt_of_lt_of_le (by simp : w.heap.size < _) hb.size); clear hb)) | (go_at_call 28; (refine (impl_within.calls a1 0 (a0_1.size : Int) true _ HA4.out).mono ?_; rintro e w7 ⟨rfl, hdr⟩; have hb7 : Below w6.heap.size w6 w7 := (by obtain ⟨nd, e⟩ := hdr; rw [e]; exact pw_below_drewN (Below.refl _ _) nd); clear hdr; replace g0 := (hb7.cell (p := ⟨w.heap.size, 0, none⟩) S6.out).trans g0; replace g1 := (hb7.cell (p := ⟨w.heap.size, 1, none⟩) S6.out).trans g1; have S7 := Aside0.mk (Nat.lt_of_lt_of_le S6.out hb7.size); have HB7 := Aside0.mk (below_step HB6.out hb7); clear hb7; have b0 := (Lib.bytesWorld_old w7 5 (a0_1.extract 0 a1.toNat) ⟨w.heap.size, 0, none⟩ S7.out).trans g0; obtain ⟨bv, hbv⟩ : ∃ bv : Int, bv = (((a0_1.extract 0 a1.toNat).data.toList.getD (a1.toNat - 1) 0).toNat : Int) := ⟨_, rfl⟩; have b2 : 0 < a1 → (Lib.bytesWorld w7 5 (a0_1.extract 0 a1.toNat)).cell? ⟨w7.heap.size, a1.toNat - 1, none⟩ = some (.int .u8 bv) := (fun h0 => by rw [hbv]; exact Lib.bytesWorld_cell _ _ _ _ (by rw [hs]; omega)); have b3 : 0 < a1 → (Lib.bytesWorld w7 5 (a0_1.extract 0 a1.toNat)).frozen? ⟨w7.heap.size, a1.toNat - 1, none⟩ = false := (fun h0 => impl_bw_frozen _ _ _ _ (by rw [hs]; omega)); have v0 : 0 ≤ bv := (by omega); have v1 : bv ≤ 255 := (by rw [hbv]; have := ((a0_1.extract 0 a1.toNat).data.toList.getD (a1.toNat - 1) 0).toNat_lt; omega); have hne : ¬ w7.heap.size = w.heap.size := (by have := S7.out; omega); have n2 : ((Lib.bytesWorld w7 5 (a0_1.extract 0 a1.toNat)).setCell ⟨w7.heap.size, a1.toNat - 1, none⟩ (.int .u8 (255 - bv))).cell? ⟨w.heap.size, 0, none⟩ = some (.string a0_0) := (World.cell?_setCell_other _ _ _ _ (by intro e2; injection e2 with e3; exact hne e3)).trans b0; have hcb := impl_conv_torn w7 (a0_1.extract 0 a1.toNat) (grownCap w7 a1.toNat 0 5) (by rw [hs]; omega) bv (by rw [hs]; exact hbv); rw [hs] at hcb; replace b2 := b2 ht0; replace b3 := b3 ht0; clear hbv)))); (go_ret2); (refine ⟨rfl, ?_⟩); (exact (HB7.out.trans ((impl_bw_below _ _ _).mono HB7.out.size)).setCell (by have := S7.out; show w.heap.size ≤ w7.heap.size; omega) _))
   ·rw [if_neg ct] at HH
    (obtain rfl := HH.out); (have hz1 : ¬ 9223372036854775807 < a0_0.size + (a0_1.extract 0 a1.toNat).size := by rw [hs]; omega); (have hz2 : ¬ 9223372036854775807 < a0_0.size + a1.toNat := by omega)
    have hcond : a2 = false ∨ (a2 = true ∧ a1 = 0) := by
     (cases a2); (· (exact .inl rfl)); (· (exact .inr ⟨rfl, by have : ¬ 0 < a1 := fun h => ct ⟨rfl, h⟩; omega⟩))
    (rcases hcond with rfl | ⟨rfl, ha⟩); (· (go_enter Tryd.func23, Tryd.ntmps23); (go_wp2_with (first | (go_at_call 14; (refine (impl_IsValidLog.calls k a0_0 a0_1 a0_2 true _ (GT.below HG.out (by repeat (first | exact HB.out | apply bA | apply bN | apply bD))) A3.out).mono ?_; rintro e w6 ⟨rfl, hb⟩; have HB6 := Aside0.mk (below_step (by repeat (first | exact HB.out | apply bA | apply bN | apply bD)) hb); have g0 : w6.cell? ⟨w.heap.size, 0, none⟩ = some (.string a0_0) := (hb.cell (p := ⟨w.heap.size, 0, none⟩) (by simp)).trans (by simp); have g1 : w6.cell? ⟨w.heap.size, 1, none⟩ = some (.string a0_1) := (hb.cell (p := ⟨w.heap.size, 1, none⟩) (by simp)).trans (by simp); have S6 := Aside0.mk (Nat.lt_of_lt_of_le (by simp : w.heap.size < _) hb.size); clear hb)) | (go_at_call 28; (refine (impl_within.calls a1 0 (a0_1.size : Int) true _ HA4.out).mono ?_; rintro e w7 ⟨rfl, hdr⟩; have hb7 : Below w6.heap.size w6 w7 := (by obtain ⟨nd, e⟩ := hdr; rw [e]; exact pw_below_drewN (Below.refl _ _) nd); clear hdr; replace g0 := (hb7.cell (p := ⟨w.heap.size, 0, none⟩) S6.out).trans g0; replace g1 := (hb7.cell (p := ⟨w.heap.size, 1, none⟩) S6.out).trans g1; have S7 := Aside0.mk (Nat.lt_of_lt_of_le S6.out hb7.size); have HB7 := Aside0.mk (below_step HB6.out hb7); clear hb7; have b0 := (Lib.bytesWorld_old w7 5 (a0_1.extract 0 a1.toNat) ⟨w.heap.size, 0, none⟩ S7.out).trans g0; obtain ⟨bv, hbv⟩ : ∃ bv : Int, bv = (((a0_1.extract 0 a1.toNat).data.toList.getD (a1.toNat - 1) 0).toNat : Int) := ⟨_, rfl⟩; have b2 : 0 < a1 → (Lib.bytesWorld w7 5 (a0_1.extract 0 a1.toNat)).cell? ⟨w7.heap.size, a1.toNat - 1, none⟩ = some (.int .u8 bv) := (fun h0 => by rw [hbv]; exact Lib.bytesWorld_cell _ _ _ _ (by rw [hs]; omega)); have b3 : 0 < a1 → (Lib.bytesWorld w7 5 (a0_1.extract 0 a1.toNat)).frozen? ⟨w7.heap.size, a1.toNat - 1, none⟩ = false := (fun h0 => impl_bw_frozen _ _ _ _ (by rw [hs]; omega)); have v0 : 0 ≤ bv := (by omega); have v1 : bv ≤ 255 := (by rw [hbv]; have := ((a0_1.extract 0 a1.toNat).data.toList.getD (a1.toNat - 1) 0).toNat_lt; omega); have hcb := impl_conv_plain w7 (a0_1.extract 0 a1.toNat) (grownCap w7 a1.toNat 0 5); rw [hs] at hcb; clear hbv b2 b3)))); (go_ret2); (refine ⟨rfl, ?_⟩); (exact HB7.out.trans ((impl_bw_below _ _ _).mono HB7.out.size))); (· (have hgt : decide (a1 > 0) = false := decide_eq_false (by omega)); (have hgt2 : decide (0 < a1) = false := decide_eq_false (by omega)); (have hgt3 : ¬ 0 < a1 := by omega); clear ha; (go_enter Tryd.func23, Tryd.ntmps23); (go_wp2_with (first | (go_at_call 14; (refine (impl_IsValidLog.calls k a0_0 a0_1 a0_2 true _ (GT.below HG.out (by repeat (first | exact HB.out | apply bA | apply bN | apply bD))) A3.out).mono ?_; rintro e w6 ⟨rfl, hb⟩; have HB6 := Aside0.mk (below_step (by repeat (first | exact HB.out | apply bA | apply bN | apply bD)) hb); have g0 : w6.cell? ⟨w.heap.size, 0, none⟩ = some (.string a0_0) := (hb.cell (p := ⟨w.heap.size, 0, none⟩) (by simp)).trans (by simp); have g1 : w6.cell? ⟨w.heap.size, 1, none⟩ = some (.string a0_1) := (hb.cell (p := ⟨w.heap.size, 1, none⟩) (by simp)).trans (by simp); have S6 := Aside0.mk (Nat.lt_of_lt_of_le (by simp : w.heap.size < _) hb.size); clear hb)) | (go_at_call 28; (refine (impl_within.calls a1 0 (a0_1.size : Int) true _ HA4.out).mono ?_; rintro e w7 ⟨rfl, hdr⟩; have hb7 : Below w6.heap.size w6 w7 := (by obtain ⟨nd, e⟩ := hdr; rw [e]; exact pw_below_drewN (Below.refl _ _) nd); clear hdr; replace g0 := (hb7.cell (p := ⟨w.heap.size, 0, none⟩) S6.out).trans g0; replace g1 := (hb7.cell (p := ⟨w.heap.size, 1, none⟩) S6.out).trans g1; have S7 := Aside0.mk (Nat.lt_of_lt_of_le S6.out hb7.size); have HB7 := Aside0.mk (below_step HB6.out hb7); clear hb7; have b0 := (Lib.bytesWorld_old w7 5 (a0_1.extract 0 a1.toNat) ⟨w.heap.size, 0, none⟩ S7.out).trans g0; obtain ⟨bv, hbv⟩ : ∃ bv : Int, bv = (((a0_1.extract 0 a1.toNat).data.toList.getD (a1.toNat - 1) 0).toNat : Int) := ⟨_, rfl⟩; have b2 : 0 < a1 → (Lib.bytesWorld w7 5 (a0_1.extract 0 a1.toNat)).cell? ⟨w7.heap.size, a1.toNat - 1, none⟩ = some (.int .u8 bv) := (fun h0 => by rw [hbv]; exact Lib.bytesWorld_cell _ _ _ _ (by rw [hs]; omega)); have b3 : 0 < a1 → (Lib.bytesWorld w7 5 (a0_1.extract 0 a1.toNat)).frozen? ⟨w7.heap.size, a1.toNat - 1, none⟩ = false := (fun h0 => impl_bw_frozen _ _ _ _ (by rw [hs]; omega)); have v0 : 0 ≤ bv := (by omega); have v1 : bv ≤ 255 := (by rw [hbv]; have := ((a0_1.extract 0 a1.toNat).data.toList.getD (a1.toNat - 1) 0).toNat_lt; omega); have hcb := impl_conv_plain w7 (a0_1.extract 0 a1.toNat) (grownCap w7 a1.toNat 0 5); rw [hs] at hcb; clear hbv b2 b3)))); (go_ret2); (refine ⟨rfl, ?_⟩); (exact HB7.out.trans ((impl_bw_below _ _ _).mono HB7.out.size)))
  ·rw [if_neg c5] at H
   (simp only [Option.some.injEq, Prod.mk.injEq] at H); (obtain ⟨rfl, rfl⟩ := H); (have A4 : impl_within.f a1 0 (a0_1.size : Int) = some false := by rw [impl_in_eq, decide_eq_false c5]); (have HA4 := Aside0.mk A4); clear A4 c5; (go_enter Tryd.func23, Tryd.ntmps23); (go_wp2_with (first | (go_at_call 14; (refine (impl_IsValidLog.calls k a0_0 a0_1 a0_2 true _ (GT.below HG.out (by repeat (first | exact HB.out | apply bA | apply bN | apply bD))) A3.out).mono ?_; rintro e w6 ⟨rfl, hb⟩; have HB6 := Aside0.mk (below_step (by repeat (first | exact HB.out | apply bA | apply bN | apply bD)) hb); have g0 : w6.cell? ⟨w.heap.size, 0, none⟩ = some (.string a0_0) := (hb.cell (p := ⟨w.heap.size, 0, none⟩) (by simp)).trans (by simp); have g1 : w6.cell? ⟨w.heap.size, 1, none⟩ = some (.string a0_1) := (hb.cell (p := ⟨w.heap.size, 1, none⟩) (by simp)).trans (by simp); have S6 := Aside0.mk (Nat.lt_of_lt_of_le (by simp : w.heap.size < _) hb.size); clear hb)) | (go_at_call 28; (refine (impl_within.calls a1 0 (a0_1.size : Int) false _ HA4.out).mono ?_; rintro e w7 ⟨rfl, hdr⟩; have hb7 : Below w6.heap.size w6 w7 := (by obtain ⟨nd, e⟩ := hdr; rw [e]; exact pw_below_drewN (Below.refl _ _) nd); clear hdr; replace g0 := (hb7.cell (p := ⟨w.heap.size, 0, none⟩) S6.out).trans g0; replace g1 := (hb7.cell (p := ⟨w.heap.size, 1, none⟩) S6.out).trans g1; have S7 := Aside0.mk (Nat.lt_of_lt_of_le S6.out hb7.size); have HB7 := Aside0.mk (below_step HB6.out hb7))))); (go_ret2); (exact ⟨rfl, HB7.out⟩)
 ·replace c4 := Bool.eq_false_iff.mpr c4
  subst c4; (rw [if_neg (show ¬ (false = true) by decide)] at H); (simp only [Option.some.injEq, Prod.mk.injEq] at H); (obtain ⟨rfl, rfl⟩ := H); (go_enter Tryd.func23, Tryd.ntmps23); (go_wp2_with ((go_at_call 14; (refine (impl_IsValidLog.calls k a0_0 a0_1 a0_2 false _ (GT.below HG.out (by repeat (first | exact HB.out | apply bA | apply bN | apply bD))) A3.out).mono ?_; rintro e w6 ⟨rfl, hb⟩; have HB6 := Aside0.mk (below_step (by repeat (first | exact HB.out | apply bA | apply bN | apply bD)) hb); have g0 : w6.cell? ⟨w.heap.size, 0, none⟩ = some (.string a0_0) := (hb.cell (p := ⟨w.heap.size, 0, none⟩) (by simp)).trans (by simp); have g1 : w6.cell? ⟨w.heap.size, 1, none⟩ = some (.string a0_1) := (hb.cell (p := ⟨w.heap.size, 1, none⟩) (by simp)).trans (by simp); have S6 := Aside0.mk (Nat.lt_of_lt_of_le (by simp : w.heap.size < _) hb.size); clear hb)))); (go_ret2); (exact ⟨rfl, HB6.out⟩)
/-! ### spec_CrashLog: function 24 -/
/-- What lies in the row that a conversion of a text makes. -/
theorem spec_bw_frozen (w : World) (e : TypeId) (s : ByteArray) (j : Nat) (hj : j < s.size) : (Lib.bytesWorld w e s).frozen? ⟨w.heap.size, j, none⟩ = false := by
 (have hz : s.size ≤ (Lib.bytesCells w e s).size := by unfold Lib.bytesCells; rw [Array.size_append, Array.size_map]; exact Nat.le_add_right _ _); (simp [World.frozen?, Lib.bytesWorld_at_new]); (omega)
theorem spec_bw_below (w : World) (e : TypeId) (s : ByteArray) : Below w.heap.size w (Lib.bytesWorld w e s) := Joins.below_bytesWorld _ _ _ _ (Nat.le_refl _)
/-- The last byte of a row of bytes turned around. -/
def spec_tornB (s : ByteArray) : ByteArray := ⟨(s.data.toList.set (s.size - 1) (255 - s.data.toList.getD (s.size - 1) 0)).toArray⟩
theorem spec_add0 (b j : Nat) : (⟨b, 0, none⟩ : Addr).add j = ⟨b, j, none⟩ := by unfold Addr.add; split <;> simp_all
theorem spec_conv_plain (w : World) (s : ByteArray) (cap : Nat) : (convert 22 9 (.slice (some ⟨w.heap.size, 0, none⟩) s.size cap)).run Tryd.prog (Lib.bytesWorld w 5 s) = .ok (.string s) (Lib.bytesWorld w 5 s) := by
 have h := run_convert_bytes_back (P := Tryd.prog) (Lib.bytesWorld w 5 s) 22 9 5 ⟨w.heap.size, 0, none⟩ cap s.data.toList Tryd.underlying22 Tryd.underlying5 Tryd.underlying9 (fun j hj => by
  rw [spec_add0, Lib.bytesWorld_cell _ _ _ _ (by rw [Array.length_toList] at hj; exact hj), List.getD_eq_getElem?_getD, List.getElem?_eq_getElem hj, Option.getD_some])
 (rw [Array.length_toList] at h); (exact h)
theorem spec_turn (b : UInt8) : ((255 - b : UInt8).toNat : Int) = 255 - (b.toNat : Int) := by
 (have := b.toNat_lt); (rw [UInt8.toNat_sub]); (have : (255 : UInt8).toNat = 255 := rfl); (omega)
theorem spec_conv_torn (w : World) (s : ByteArray) (cap : Nat) (h0 : 0 < s.size) (bv : Int) (hbv : bv = ((s.data.toList.getD (s.size - 1) 0).toNat : Int)) : (convert 22 9 (.slice (some ⟨w.heap.size, 0, none⟩) s.size cap)).run Tryd.prog ((Lib.bytesWorld w 5 s).setCell ⟨w.heap.size, s.size - 1, none⟩ (.int .u8 (255 - bv))) = .ok (.string (spec_tornB s)) ((Lib.bytesWorld w 5 s).setCell ⟨w.heap.size, s.size - 1, none⟩ (.int .u8 (255 - bv))) := by
 have hsz : s.data.toList.length = s.size := Array.length_toList
 have h := run_convert_bytes_back (P := Tryd.prog) ((Lib.bytesWorld w 5 s).setCell ⟨w.heap.size, s.size - 1, none⟩ (.int .u8 (255 - bv))) 22 9 5 ⟨w.heap.size, 0, none⟩ cap (s.data.toList.set (s.size - 1) (255 - s.data.toList.getD (s.size - 1) 0)) Tryd.underlying22 Tryd.underlying5 Tryd.underlying9 (fun j hj => by
  (rw [List.length_set, hsz] at hj); (rw [spec_add0]); (by_cases e : j = s.size - 1); (· subst e; (rw [List.getElem_set_self, spec_turn, ← hbv]); (exact World.cell?_setCell_same' _ _ _ (by rw [Lib.bytesWorld_cell _ _ _ _ hj]; rfl))); (· (rw [World.cell?_setCell_other _ _ _ _ (by intro e2; injection e2 with _ e3; omega), Lib.bytesWorld_cell _ _ _ _ hj, List.getElem_set_ne (by omega), List.getD_eq_getElem?_getD, List.getElem?_eq_getElem (by omega), Option.getD_some])))
 (rw [List.length_set, hsz] at h); (exact h)
theorem spec_torn_size (s : ByteArray) : (spec_tornB s).size = s.size := by
 (show (s.data.toList.set _ _).toArray.size = s.size); (rw [List.size_toArray, List.length_set, Array.length_toList]); rfl
def spec_CrashLog.f (k : Nat) (a0_0 : ByteArray) (a0_1 : ByteArray) (a0_2 : Int) (a1 : Int) (a2 : Bool) : Option (ByteArray × Bool) := (spec_l27Log.f k a0_0 a0_1 a0_2).bind fun t => (if t = true then (if 0 ≤ a1 ∧ a1 ≤ (a0_1.size : Int) then (if a0_0.size + a0_1.size ≤ 4398046511104 then some (a0_0 ++ (if a2 = true ∧ 0 < a1 then spec_tornB (a0_1.extract 0 a1.toNat) else a0_1.extract 0 a1.toNat), true) else none) else some (⟨#[]⟩, false)) else some (⟨#[]⟩, false))
theorem spec_in_eq (a l h : Int) : spec_l1In.f a l h = some (decide (l ≤ a ∧ a ≤ h)) := by
 (unfold spec_l1In.f); (by_cases c1 : l ≤ a <;> by_cases c2 : a ≤ h <;> simp [*] <;> omega)
set_option maxHeartbeats 4000000 in
set_option maxRecDepth 100000 in
theorem spec_CrashLog.calls (k : Nat) (a0_0 : ByteArray) (a0_1 : ByteArray) (a0_2 : Int) (a1 : Int) (a2 : Bool) (r1 : ByteArray) (r2 : Bool) (w : World) (h : spec_CrashLog.f k a0_0 a0_1 a0_2 a1 a2 = some (r1, r2)) :
  Calls Tryd.prog 24 #[.agg #[.string a0_0, .string a0_1, .int .i64 a0_2], .int .i64 a1, .bool a2] w fun e w' => e = .returned (.tuple #[.string r1, .bool r2]) ∧ Below w.heap.size w w' := by
 (have hu27 := Tryd.underlying32); (have HB := Aside0.mk (Below.refl w.heap.size w)); (unfold spec_CrashLog.f at h); (have H := h); clear h; (replace H := obS H; obtain ⟨t101, A3, H⟩ := H); (by_cases c4 : t101 = true)
 ·subst c4
  (rw [if_pos rfl] at H); (by_cases c5 : 0 ≤ a1 ∧ a1 ≤ (a0_1.size : Int))
  ·rw [if_pos c5] at H
   by_cases c6 : a0_0.size + a0_1.size ≤ 4398046511104
   case neg => rw [if_neg c6] at H; exact absurd H (by simp)
   (rw [if_pos c6] at H); (simp only [Option.some.injEq, Prod.mk.injEq] at H); (obtain ⟨HQ, rfl⟩ := H); (have HH := Aside0.mk HQ); clear HQ; (obtain ⟨p1, q1⟩ := c5); (have A4 : spec_l1In.f a1 0 (a0_1.size : Int) = some true := by rw [spec_in_eq, decide_eq_true ⟨p1, q1⟩]); (have HA4 := Aside0.mk A4); clear A4; (have hs : (a0_1.extract 0 a1.toNat).size = a1.toNat := by rw [ByteArray.size_extract]; omega); (have hcv := fun (w : World) => Lib.run_convert_string_bytes (P := Tryd.prog) w 9 22 5 (a0_1.extract 0 a1.toNat) Tryd.underlying9 Tryd.underlying22 Tryd.underlying5); (have HSZ := Aside0.mk hs); (by_cases ct : a2 = true ∧ 0 < a1); (· (rw [if_pos ct] at HH); (obtain rfl := HH.out); (obtain ⟨rfl, ht0⟩ := ct); (have hgt : decide (a1 > 0) = true := decide_eq_true ht0); (have hz1 : ¬ 9223372036854775807 < a0_0.size + (spec_tornB (a0_1.extract 0 a1.toNat)).size := by rw [spec_torn_size, hs]; omega); (have hgt2 : decide (0 < a1) = true := decide_eq_true ht0); (go_enter Tryd.func24, Tryd.ntmps24); (go_wp2_with (first | (go_at_call 42; (refine (spec_l27Log.calls k a0_0 a0_1 a0_2 true _ A3.out).mono ?_; rintro e w6 ⟨rfl, hb⟩; have HB6 := Aside0.mk (below_step (by repeat (first | exact HB.out | apply bA | apply bN | apply bD)) hb); have g0 : w6.cell? ⟨w.heap.size, 0, none⟩ = some (.string a0_0) := (hb.cell (p := ⟨w.heap.size, 0, none⟩) (by simp)).trans (by simp); have g1 : w6.cell? ⟨w.heap.size, 1, none⟩ = some (.string a0_1) := (hb.cell (p := ⟨w.heap.size, 1, none⟩) (by simp)).trans (by simp); have S6 := Aside0.mk (Nat.lt_of_lt_of_le (by simp : w.heap.size < _) hb.size); clear hb)) | (go_at_call 31; (refine (spec_l1In.calls a1 0 (a0_1.size : Int) true _ HA4.out).mono ?_; rintro e w7 ⟨rfl, hdr⟩; have hb7 : Below w6.heap.size w6 w7 := (by obtain ⟨nd, e⟩ := hdr; rw [e]; exact pw_below_drewN (Below.refl _ _) nd); clear hdr; replace g0 := (hb7.cell (p := ⟨w.heap.size, 0, none⟩) S6.out).trans g0; replace g1 := (hb7.cell (p := ⟨w.heap.size, 1, none⟩) S6.out).trans g1; have S7 := Aside0.mk (Nat.lt_of_lt_of_le S6.out hb7.size); have HB7 := Aside0.mk (below_step HB6.out hb7); clear hb7; have b0 := (Lib.bytesWorld_old w7 5 (a0_1.extract 0 a1.toNat) ⟨w.heap.size, 0, none⟩ S7.out).trans g0; obtain ⟨bv, hbv⟩ : ∃ bv : Int, bv = (((a0_1.extract 0 a1.toNat).data.toList.getD (a1.toNat - 1) 0).toNat : Int) := ⟨_, rfl⟩; have b2 : 0 < a1 → (Lib.bytesWorld w7 5 (a0_1.extract 0 a1.toNat)).cell? ⟨w7.heap.size, a1.toNat - 1, none⟩ = some (.int .u8 bv) := (fun h0 => by rw [hbv]; exact Lib.bytesWorld_cell _ _ _ _ (by rw [hs]; omega)); have b3 : 0 < a1 → (Lib.bytesWorld w7 5 (a0_1.extract 0 a1.toNat)).frozen? ⟨w7.heap.size, a1.toNat - 1, none⟩ = false := (fun h0 => spec_bw_frozen _ _ _ _ (by rw [hs]; omega)); have v0 : 0 ≤ bv := (by omega); have v1 : bv ≤ 255 := (by rw [hbv]; have := ((a0_1.extract 0 a1.toNat).data.toList.getD (a1.toNat - 1) 0).toNat_lt; omega); have hne : ¬ w7.heap.size = w.heap.size := (by have := S7.out; omega); have n2 : ((Lib.bytesWorld w7 5 (a0_1.extract 0 a1.toNat)).setCell ⟨w7.heap.size, a1.toNat - 1, none⟩ (.int .u8 (255 - bv))).cell? ⟨w.heap.size, 0, none⟩ = some (.string a0_0) := (World.cell?_setCell_other _ _ _ _ (by intro e2; injection e2 with e3; exact hne e3)).trans b0; have hcb := spec_conv_torn w7 (a0_1.extract 0 a1.toNat) (grownCap w7 a1.toNat 0 5) (by rw [hs]; omega) bv (by rw [hs]; exact hbv); rw [hs] at hcb; replace b2 := b2 ht0; replace b3 := b3 ht0; clear hbv)))); (go_ret2); (refine ⟨rfl, ?_⟩); (exact (HB7.out.trans ((spec_bw_below _ _ _).mono HB7.out.size)).setCell (by have := S7.out; show w.heap.size ≤ w7.heap.size; omega) _))
   ·rw [if_neg ct] at HH
    (obtain rfl := HH.out); (have hz1 : ¬ 9223372036854775807 < a0_0.size + (a0_1.extract 0 a1.toNat).size := by rw [hs]; omega); (have hz2 : ¬ 9223372036854775807 < a0_0.size + a1.toNat := by omega)
    have hcond : a2 = false ∨ (a2 = true ∧ a1 = 0) := by
     (cases a2); (· (exact .inl rfl)); (· (exact .inr ⟨rfl, by have : ¬ 0 < a1 := fun h => ct ⟨rfl, h⟩; omega⟩))
    (rcases hcond with rfl | ⟨rfl, ha⟩); (· (go_enter Tryd.func24, Tryd.ntmps24); (go_wp2_with (first | (go_at_call 42; (refine (spec_l27Log.calls k a0_0 a0_1 a0_2 true _ A3.out).mono ?_; rintro e w6 ⟨rfl, hb⟩; have HB6 := Aside0.mk (below_step (by repeat (first | exact HB.out | apply bA | apply bN | apply bD)) hb); have g0 : w6.cell? ⟨w.heap.size, 0, none⟩ = some (.string a0_0) := (hb.cell (p := ⟨w.heap.size, 0, none⟩) (by simp)).trans (by simp); have g1 : w6.cell? ⟨w.heap.size, 1, none⟩ = some (.string a0_1) := (hb.cell (p := ⟨w.heap.size, 1, none⟩) (by simp)).trans (by simp); have S6 := Aside0.mk (Nat.lt_of_lt_of_le (by simp : w.heap.size < _) hb.size); clear hb)) | (go_at_call 31; (refine (spec_l1In.calls a1 0 (a0_1.size : Int) true _ HA4.out).mono ?_; rintro e w7 ⟨rfl, hdr⟩; have hb7 : Below w6.heap.size w6 w7 := (by obtain ⟨nd, e⟩ := hdr; rw [e]; exact pw_below_drewN (Below.refl _ _) nd); clear hdr; replace g0 := (hb7.cell (p := ⟨w.heap.size, 0, none⟩) S6.out).trans g0; replace g1 := (hb7.cell (p := ⟨w.heap.size, 1, none⟩) S6.out).trans g1; have S7 := Aside0.mk (Nat.lt_of_lt_of_le S6.out hb7.size); have HB7 := Aside0.mk (below_step HB6.out hb7); clear hb7; have b0 := (Lib.bytesWorld_old w7 5 (a0_1.extract 0 a1.toNat) ⟨w.heap.size, 0, none⟩ S7.out).trans g0; obtain ⟨bv, hbv⟩ : ∃ bv : Int, bv = (((a0_1.extract 0 a1.toNat).data.toList.getD (a1.toNat - 1) 0).toNat : Int) := ⟨_, rfl⟩; have b2 : 0 < a1 → (Lib.bytesWorld w7 5 (a0_1.extract 0 a1.toNat)).cell? ⟨w7.heap.size, a1.toNat - 1, none⟩ = some (.int .u8 bv) := (fun h0 => by rw [hbv]; exact Lib.bytesWorld_cell _ _ _ _ (by rw [hs]; omega)); have b3 : 0 < a1 → (Lib.bytesWorld w7 5 (a0_1.extract 0 a1.toNat)).frozen? ⟨w7.heap.size, a1.toNat - 1, none⟩ = false := (fun h0 => spec_bw_frozen _ _ _ _ (by rw [hs]; omega)); have v0 : 0 ≤ bv := (by omega); have v1 : bv ≤ 255 := (by rw [hbv]; have := ((a0_1.extract 0 a1.toNat).data.toList.getD (a1.toNat - 1) 0).toNat_lt; omega); have hcb := spec_conv_plain w7 (a0_1.extract 0 a1.toNat) (grownCap w7 a1.toNat 0 5); rw [hs] at hcb; clear hbv b2 b3)))); (go_ret2); (refine ⟨rfl, ?_⟩); (exact HB7.out.trans ((spec_bw_below _ _ _).mono HB7.out.size))); (· (have hgt : decide (a1 > 0) = false := decide_eq_false (by omega)); (have hgt2 : decide (0 < a1) = false := decide_eq_false (by omega)); (have hgt3 : ¬ 0 < a1 := by omega); clear ha; (go_enter Tryd.func24, Tryd.ntmps24); (go_wp2_with (first | (go_at_call 42; (refine (spec_l27Log.calls k a0_0 a0_1 a0_2 true _ A3.out).mono ?_; rintro e w6 ⟨rfl, hb⟩; have HB6 := Aside0.mk (below_step (by repeat (first | exact HB.out | apply bA | apply bN | apply bD)) hb); have g0 : w6.cell? ⟨w.heap.size, 0, none⟩ = some (.string a0_0) := (hb.cell (p := ⟨w.heap.size, 0, none⟩) (by simp)).trans (by simp); have g1 : w6.cell? ⟨w.heap.size, 1, none⟩ = some (.string a0_1) := (hb.cell (p := ⟨w.heap.size, 1, none⟩) (by simp)).trans (by simp); have S6 := Aside0.mk (Nat.lt_of_lt_of_le (by simp : w.heap.size < _) hb.size); clear hb)) | (go_at_call 31; (refine (spec_l1In.calls a1 0 (a0_1.size : Int) true _ HA4.out).mono ?_; rintro e w7 ⟨rfl, hdr⟩; have hb7 : Below w6.heap.size w6 w7 := (by obtain ⟨nd, e⟩ := hdr; rw [e]; exact pw_below_drewN (Below.refl _ _) nd); clear hdr; replace g0 := (hb7.cell (p := ⟨w.heap.size, 0, none⟩) S6.out).trans g0; replace g1 := (hb7.cell (p := ⟨w.heap.size, 1, none⟩) S6.out).trans g1; have S7 := Aside0.mk (Nat.lt_of_lt_of_le S6.out hb7.size); have HB7 := Aside0.mk (below_step HB6.out hb7); clear hb7; have b0 := (Lib.bytesWorld_old w7 5 (a0_1.extract 0 a1.toNat) ⟨w.heap.size, 0, none⟩ S7.out).trans g0; obtain ⟨bv, hbv⟩ : ∃ bv : Int, bv = (((a0_1.extract 0 a1.toNat).data.toList.getD (a1.toNat - 1) 0).toNat : Int) := ⟨_, rfl⟩; have b2 : 0 < a1 → (Lib.bytesWorld w7 5 (a0_1.extract 0 a1.toNat)).cell? ⟨w7.heap.size, a1.toNat - 1, none⟩ = some (.int .u8 bv) := (fun h0 => by rw [hbv]; exact Lib.bytesWorld_cell _ _ _ _ (by rw [hs]; omega)); have b3 : 0 < a1 → (Lib.bytesWorld w7 5 (a0_1.extract 0 a1.toNat)).frozen? ⟨w7.heap.size, a1.toNat - 1, none⟩ = false := (fun h0 => spec_bw_frozen _ _ _ _ (by rw [hs]; omega)); have v0 : 0 ≤ bv := (by omega); have v1 : bv ≤ 255 := (by rw [hbv]; have := ((a0_1.extract 0 a1.toNat).data.toList.getD (a1.toNat - 1) 0).toNat_lt; omega); have hcb := spec_conv_plain w7 (a0_1.extract 0 a1.toNat) (grownCap w7 a1.toNat 0 5); rw [hs] at hcb; clear hbv b2 b3)))); (go_ret2); (refine ⟨rfl, ?_⟩); (exact HB7.out.trans ((spec_bw_below _ _ _).mono HB7.out.size)))
  ·rw [if_neg c5] at H
   (simp only [Option.some.injEq, Prod.mk.injEq] at H); (obtain ⟨rfl, rfl⟩ := H); (have A4 : spec_l1In.f a1 0 (a0_1.size : Int) = some false := by rw [spec_in_eq, decide_eq_false c5]); (have HA4 := Aside0.mk A4); clear A4 c5; (go_enter Tryd.func24, Tryd.ntmps24); (go_wp2_with (first | (go_at_call 42; (refine (spec_l27Log.calls k a0_0 a0_1 a0_2 true _ A3.out).mono ?_; rintro e w6 ⟨rfl, hb⟩; have HB6 := Aside0.mk (below_step (by repeat (first | exact HB.out | apply bA | apply bN | apply bD)) hb); have g0 : w6.cell? ⟨w.heap.size, 0, none⟩ = some (.string a0_0) := (hb.cell (p := ⟨w.heap.size, 0, none⟩) (by simp)).trans (by simp); have g1 : w6.cell? ⟨w.heap.size, 1, none⟩ = some (.string a0_1) := (hb.cell (p := ⟨w.heap.size, 1, none⟩) (by simp)).trans (by simp); have S6 := Aside0.mk (Nat.lt_of_lt_of_le (by simp : w.heap.size < _) hb.size); clear hb)) | (go_at_call 31; (refine (spec_l1In.calls a1 0 (a0_1.size : Int) false _ HA4.out).mono ?_; rintro e w7 ⟨rfl, hdr⟩; have hb7 : Below w6.heap.size w6 w7 := (by obtain ⟨nd, e⟩ := hdr; rw [e]; exact pw_below_drewN (Below.refl _ _) nd); clear hdr; replace g0 := (hb7.cell (p := ⟨w.heap.size, 0, none⟩) S6.out).trans g0; replace g1 := (hb7.cell (p := ⟨w.heap.size, 1, none⟩) S6.out).trans g1; have S7 := Aside0.mk (Nat.lt_of_lt_of_le S6.out hb7.size); have HB7 := Aside0.mk (below_step HB6.out hb7))))); (go_ret2); (exact ⟨rfl, HB7.out⟩)
 ·replace c4 := Bool.eq_false_iff.mpr c4
  subst c4; (rw [if_neg (show ¬ (false = true) by decide)] at H); (simp only [Option.some.injEq, Prod.mk.injEq] at H); (obtain ⟨rfl, rfl⟩ := H); (go_enter Tryd.func24, Tryd.ntmps24); (go_wp2_with ((go_at_call 42; (refine (spec_l27Log.calls k a0_0 a0_1 a0_2 false _ A3.out).mono ?_; rintro e w6 ⟨rfl, hb⟩; have HB6 := Aside0.mk (below_step (by repeat (first | exact HB.out | apply bA | apply bN | apply bD)) hb); have g0 : w6.cell? ⟨w.heap.size, 0, none⟩ = some (.string a0_0) := (hb.cell (p := ⟨w.heap.size, 0, none⟩) (by simp)).trans (by simp); have g1 : w6.cell? ⟨w.heap.size, 1, none⟩ = some (.string a0_1) := (hb.cell (p := ⟨w.heap.size, 1, none⟩) (by simp)).trans (by simp); have S6 := Aside0.mk (Nat.lt_of_lt_of_le (by simp : w.heap.size < _) hb.size); clear hb)))); (go_ret2); (exact ⟨rfl, HB6.out⟩)

end Go.Proofs.YtkdibcifamlciaaDoor.X
set_option linter.unusedVariables false
set_option linter.unusedSimpArgs false
namespace Go.Proofs.YtkdibcifamlciaaDoor.X
open Go.RowKit Go.Proofs.YtkdibcifamlciaaDoorW.PrintWords Go.Proofs.YtkdibcifamlciaaDoor.E
/-- A line's bytes are small. -/
def low (l : List UInt8) : Prop := ∀ c ∈ l, c.toNat ≤ 127 ∧ 32 ≤ c.toNat
theorem low_app {a b : List UInt8} : low (a ++ b) ↔ low a ∧ low b := by
  unfold low
  constructor
  · exact fun h => ⟨fun c hc => h c (List.mem_append_left _ hc), fun c hc => h c (List.mem_append_right _ hc)⟩
  · rintro ⟨h1, h2⟩ c hc
    rcases List.mem_append.1 hc with h | h
    · exact h1 c h
    · exact h2 c h
theorem low_dig : ∀ (u : Nat), low (Lib.decDigits u) := by
  have d10 : ∀ i : Fin 10, (UInt8.ofNat (48 + i.val)).toNat ≤ 127 ∧ 32 ≤ (UInt8.ofNat (48 + i.val)).toNat := by decide
  intro u
  induction u using Nat.strongRecOn with
  | _ u ih =>
    by_cases h : u < 10
    · rw [Lib.decDigits_one h]
      intro c hc
      rw [List.mem_singleton.1 hc]
      exact d10 ⟨u, h⟩
    · rw [Lib.decDigits, dif_neg h]
      refine low_app.2 ⟨ih (u / 10) (by omega), fun c hc => ?_⟩
      rw [List.mem_singleton.1 hc]
      exact d10 ⟨u % 10, by omega⟩
theorem low_num (v : Int) : low (numB v).data.toList := by
  unfold numB
  show low (Lib.itoa v)
  unfold Lib.itoa
  split
  · intro c hc
    rcases List.mem_cons.1 hc with rfl | h
    · decide
    · exact low_dig _ c h
  · exact low_dig _
theorem low_log (s : ByteArray) (h : logB s = true) : low s.data.toList := by
  intro c hm
  obtain ⟨i, hi, e⟩ := List.getElem_of_mem hm
  have hl : s.data.toList.length = s.size := by rw [Array.length_toList]; rfl
  have := all_range.1 h i (by omega)
  simp only [logAt, decide_eq_true_eq] at this
  rw [bt_get s i hi, e] at this
  omega
theorem low_enc {k : Int} {a c r : ByteArray} (h : Enc k a c r) : low a.data.toList := by
  obtain ⟨_, hr, rfl⟩ := h
  obtain ⟨_, h1, h2, _⟩ := recB_iff hr
  have one : ∀ x : UInt8, x.toNat ≤ 127 ∧ 32 ≤ x.toNat → low (⟨#[x]⟩ : ByteArray).data.toList := fun x hx y hy => by rw [List.mem_singleton.1 hy]; exact hx
  unfold sealB lineB
  simp only [ba_app]
  exact low_app.2 ⟨low_app.2 ⟨low_app.2 ⟨low_app.2 ⟨low_app.2 ⟨low_app.2 ⟨low_num _, one 32 (by decide)⟩, low_log _ h1⟩, one 64 (by decide)⟩, low_log _ h2⟩, one 35 (by decide)⟩, low_num _⟩
theorem low_nob {a : ByteArray} (h : low a.data.toList) : nob 10 a := fun hm => absurd (h _ hm).2 (by decide)
theorem enc_of {k : Int} {c r : ByteArray} (hk : 0 ≤ k ∧ k ≤ 59) (h : recB c r = true) : Enc k (sealB (lineB k c r)) c r := ⟨hk, h, rfl⟩
/-- A record's line, read. -/
theorem parse_line (k : Nat) (c r : ByteArray) (hk : k ≤ 59) (h : recB c r = true) : Parse k (lnN (k : Int) c r) [(⟨c, r⟩ : LR)] nilB := by
  have he := enc_of (k := (k : Int)) ⟨by omega, by omega⟩ h
  refine ⟨sealB (lineB k c r), nilB, ?_, low_nob (low_enc he), he, rfl, stop_nil _⟩
  apply ba_list
  unfold lnN cat
  rw [ba_app, ba_app, ba_app]
  simp
  rfl
end Go.Proofs.YtkdibcifamlciaaDoor.X
set_option linter.unusedVariables false
set_option linter.unusedSimpArgs false
namespace Go.Proofs.YtkdibcifamlciaaDoor.Pure
open Go.RowKit Go.Proofs.YtkdibcifamlciaaDoor.X Go.Proofs.YtkdibcifamlciaaDoorW.PrintWords Go.Proofs.YtkdibcifamlciaaDoor.E
theorem specEnc_ev (k : Int) (s r : ByteArray) (hs : s.size ≤ 9223372036854775807) (hr : r.size ≤ 9223372036854775807) : Ev (fun q => spec_EncodeRecord.f q k s r) (encE k s r) := by
  unfold spec_EncodeRecord.f encE encOk
  refine ev_bind0 (l1In_eq _ _ _) ?_
  refine ev_ite (fun c => ?_) (fun c => ev_now ?_)
  · refine Ev.bind (l27Good_ev s r hs hr) ?_
    have c' := of_decide_eq_true c
    refine ev_ite (fun d => ?_) (fun d => ev_now ?_)
    · rw [if_pos (by rw [c, d]; rfl)]
      obtain ⟨hs1, hls, hlr, hr1⟩ := recB_iff d
      exact Ev.bind (l27Line_ev k s r c'.1 c'.2 hs1.2 hr1) (ev_now rfl)
    · rw [if_neg (by rw [c]; simpa using d)]
  · rw [if_neg (by rw [Bool.not_eq_true] at c; rw [c]; simp)]
theorem num_zero (k : Nat) (hk : k ≤ 59) (h : numB (k : Int) = numB 0) : k = 0 := by
  have d10 : ∀ i : Fin 10, UInt8.ofNat (48 + i.val) = UInt8.ofNat (48 + 0) → i.val = 0 := by decide
  have e : Lib.itoa (k : Int) = Lib.itoa 0 := by
    have := congrArg (fun x => x.data.toList) h
    unfold numB at this
    simpa using this
  have e0 : Lib.itoa 0 = [UInt8.ofNat (48 + 0)] := by
    rw [Lib.itoa, if_neg (by omega)]
    exact Lib.decDigits_one (by omega)
  rw [e0, Lib.itoa, if_neg (by omega), Int.toNat_natCast] at e
  by_cases hu : k < 10
  · rw [Lib.decDigits_one hu] at e
    exact d10 ⟨k, hu⟩ (List.cons.inj e).1
  · rw [Lib.decDigits_two hu (by omega)] at e
    exact absurd (congrArg List.length e) (by simp)
/-- A record's line of another number is no record's line at the start. -/
theorem parse_other (k : Nat) (c r : ByteArray) (hk : k ≤ 59) (h0 : k ≠ 0) (h : recB c r = true) : Parse 0 (lnN (k : Int) c r) [] (lnN (k : Int) c r) := by
  have he := enc_of (k := (k : Int)) ⟨by omega, by omega⟩ h
  refine ⟨rfl, fun a b e ha c' r' he' => ?_⟩
  have el : lnN (k : Int) c r = cat (sealB (lineB k c r)) 10 nilB := by
    apply ba_list
    unfold lnN cat
    rw [ba_app, ba_app, ba_app]
    simp
    rfl
  obtain ⟨e1, e2⟩ := split_uniq (el.symm.trans e) (low_nob (low_enc he)) ha
  subst e1
  rw [seal_cat] at he'
  have e3 := enc_line he' (enc_nob he)
  rw [line_cat, line_cat] at e3
  have e4 := (split_uniq e3 (num_no (by decide) k (by omega) (by omega)) (num_no (by decide) _ he'.1.1 he'.1.2)).1
  exact h0 (num_zero k hk e4)
theorem among_tot {l : List Int} {a : Int} (s : Int) (ts : List Int) (ht : 1 ≤ ts.length) (h : Cu l a) (hb : a ≤ 999990) : ∃ v a' s', spec_l1Cur_among.f l a s ts = some (v, a', s') ∧ v ∈ ts ∧ Cu l a' ∧ (a ≤ a' ∧ a' ≤ a + 2) := by
  obtain ⟨v, a', s', e, h0, h1, h2⟩ := pick_in s (ts.length : Int) (by omega) h hb
  unfold spec_l1Cur_among.f
  rw [e, Option.bind_some, if_pos h0.1, if_pos h0.2]
  refine ⟨_, _, _, rfl, ?_, h1, h2⟩
  dsimp only
  obtain ⟨i, rfl⟩ : ∃ i : Nat, v = (i : Int) := ⟨v.toNat, by omega⟩
  rw [rd_nat, getD_in (by omega)]
  exact List.getElem_mem _
theorem drawEnc_tot {l : List Int} (h : Cu l 0) : ∃ k c r, spec_DrawEncodeRecord.f l = some (k, c, r) ∧ c.size ≤ 12 ∧ r.size ≤ 12 := by
  obtain ⟨v, a1, s1, e1, hm, c1, b1⟩ := among_tot 0 [0, 1, 12, 59, 60, (-1)] (by simp) h (by omega)
  obtain ⟨c, r, a2, s2, e2, z1, z2, c2, b2⟩ := logRecord_tot s1 c1 (by omega)
  unfold spec_DrawEncodeRecord.f
  rw [e1, Option.bind_some]
  dsimp only
  rw [e2, Option.bind_some]
  exact ⟨_, _, _, rfl, z1, z2⟩
theorem rep_size (n : Nat) : (strOfNums (List.replicate n 0)).size = n := by
  unfold strOfNums
  simp
  exact Array.size_replicate
theorem drawJ_tot {l : List Int} {a : Int} (s : Int) (x : ByteArray) (h : Cu l a) (hb : a ≤ 990000) (hx : x.size ≤ 30001) : ∃ t, Ev (fun q => spec_DrawRecoverLog.j0 q x l a s) t ∧ t.size ≤ 30001 := by
  obtain ⟨b, a1, s1, e1, c1, b1⟩ := one_tot s 40 h (by omega)
  cases b
  · exact ⟨x, Ev.step (fun k => rfl) (ev_bind0 e1 (ev_neg (by simp) (ev_now rfl))), hx⟩
  · obtain ⟨v, a2, s2, e2, h0, c2, b2⟩ := pick_in s1 2 (by omega) c1 (by omega)
    have hw : wrap64 (30000 + v) = 30000 + v := wrap_id (by omega) (by omega)
    refine ⟨strOfNums (List.replicate (30000 + v).toNat 0), Ev.step (fun k => rfl) (ev_bind0 e1 (ev_pos rfl (ev_bind0 e2 ?_))), by rw [rep_size]; omega⟩
    dsimp only
    rw [hw]
    exact ev_pos (by omega) (ev_pos (by omega) (ev_now rfl))
theorem drawRec_tot {l : List Int} (h : Cu l 0) : ∃ t, Ev (fun q => spec_DrawRecoverLog.f q l) t ∧ t.size ≤ 30001 := by
  obtain ⟨D, P, n, a1, s1, h1, z1, c1, b1⟩ := logF_tot 0 h (by omega)
  obtain ⟨v, a2, s2, e2, h0, c2, b2⟩ := pick_in s1 4 (by omega) c1 (by omega)
  have hz : (D ++ P).size = D.size + P.size := ByteArray.size_append
  unfold spec_DrawRecoverLog.f
  by_cases d0 : v = 0
  · obtain ⟨t, a3, s3, e3, z3, c3, b3⟩ := spoilt_tot s2 (D ++ P) (⟨#[35, 64, 10, 48, 49]⟩ : ByteArray) (by decide) (by omega) (by decide) c2 (by omega)
    obtain ⟨t', h4, z4⟩ := drawJ_tot s3 t c3 (by omega) (by omega)
    exact ⟨t', Ev.bind h1 (ev_pos (by dsimp only; omega) (ev_bind0 e2 (ev_pos d0 (ev_bind0 e3 h4)))), z4⟩
  by_cases d1 : v = 1
  · obtain ⟨u, a3, s3, e3, hu, c3, b3⟩ := pick_in s2 (wrap64 (((D ++ P).size : Int) + 1)) (by rw [wrap_id (by omega) (by omega)]; omega) c2 (by omega)
    rw [wrap_id (by omega) (by omega)] at hu
    obtain ⟨t', h4, z4⟩ := drawJ_tot s3 ((D ++ P).extract 0 (u : Int).toNat) c3 (by omega) (by rw [ByteArray.size_extract]; omega)
    exact ⟨t', Ev.bind h1 (ev_pos (by dsimp only; omega) (ev_bind0 e2 (ev_neg d0 (ev_pos d1 (ev_bind0 e3 (ev_pos hu.1 (ev_pos (by dsimp only; omega) h4))))))), z4⟩
  by_cases d2 : v = 2
  · obtain ⟨u, a3, s3, e3, hu, c3, b3⟩ := pick_in s2 4 (by omega) c2 (by omega)
    obtain ⟨c, r, a4, s4, e4, zc, zr, c4, b4⟩ := logRecord_tot s3 c3 (by omega)
    have hl := l27Line_ev u c r (by omega) (by omega) (by omega) (by omega)
    have hsz : (sealB (lineB u c r) ++ (⟨#[10]⟩ : ByteArray)).size ≤ 425 := by
      have a := line_size u c r (by omega) (by omega) (by omega) (by omega)
      have b := sum_size (lineB u c r)
      unfold sealB
      rw [ByteArray.size_append, ByteArray.size_append, ByteArray.size_append, szl, szl]
      omega
    generalize sealB (lineB u c r) ++ (⟨#[10]⟩ : ByteArray) = ln at hl hsz
    have hz2 : ((D ++ P) ++ ln).size = (D ++ P).size + ln.size := ByteArray.size_append
    obtain ⟨t', h5, z5⟩ := drawJ_tot s4 ((D ++ P) ++ ln) c4 (by omega) (by omega)
    exact ⟨t', Ev.bind h1 (ev_pos (by dsimp only; omega) (ev_bind0 e2 (ev_neg d0 (ev_neg d1 (ev_pos d2 (ev_bind0 e3 (ev_bind0 e4 (Ev.bind hl (ev_pos (by dsimp only; omega) h5))))))))), z5⟩
  · obtain ⟨t', h4, z4⟩ := drawJ_tot s2 (D ++ P) c2 (by omega) (by omega)
    exact ⟨t', Ev.bind h1 (ev_pos (by dsimp only; omega) (ev_bind0 e2 (ev_neg d0 (ev_neg d1 (ev_neg d2 h4))))), z4⟩
theorem rec_both (t : ByteArray) (hz : t.size ≤ 4194304) : ∃ D P : ByteArray, ∃ n z : Int, ∃ b : Bool, Ev (fun k => impl_RecoverLog.f k t) (D, P, n, z, b) ∧ Ev (fun k => spec_RecoverLog.f k t) (D, P, n, z, b) ∧ (b = true → P = nilB ∧ ∃ L, GoodL D nilB n L) ∧ D.size + P.size ≤ 30000 := by
  by_cases h30 : (t.size : Int) > 30000
  · refine ⟨nilB, nilB, 0, 0, false, ?_, ?_, fun h => absurd h (by simp), by decide⟩
    · unfold impl_RecoverLog.f; exact ev_pos h30 (ev_now rfl)
    · unfold spec_RecoverLog.f; exact ev_pos h30 (ev_now rfl)
  · obtain ⟨L, u, h⟩ := parse_ex t.size t 0 (Nat.le_refl _)
    refine ⟨_, _, _, _, _, implRec_ev2 t L u h h30, specRec_ev2 t L u h h30, fun _ => ⟨rfl, L, good_recover h (by omega)⟩, ?_⟩
    have hnz : (nilB).size = 0 := rfl
    rw [ByteArray.size_extract]
    omega
theorem fin_ev (x5 D P : ByteArray) (n : Int) (x6 b y : Bool) (hy : y = false) (hg : b = true → P = nilB ∧ ∃ L, GoodL D nilB n L) (hz : D.size + P.size ≤ 30000) (hx : x6 = false → x5 = nilB) : Ev (fun k => laws_FnLogLines.j1 k x5 x6 b y D P n) true := by
  have hb : ∃ v, Ev (fun k => impl_SyncLog.f k D P n) v := by
    rcases sync_cases D P n (by omega) with ⟨_, _, _, h⟩ | ⟨_, _, h⟩
    · exact ⟨_, h⟩
    · exact ⟨_, h⟩
  cases b
  · obtain ⟨v, hv⟩ := hb
    exact Ev.step (fun k => rfl) (ev_neg (by rw [hy]; simp) (Ev.bind hv (ev_neg (by simp) (ev_now rfl))))
  · obtain ⟨rfl, L, G⟩ := hg rfl
    have hsync : Ev (fun k => impl_SyncLog.f k D nilB n) (D, nilB, n, true) := by
      have hD : D ++ nilB = D := ba_list (by rw [ba_app]; simp)
      rcases sync_cases D nilB n (by omega) with ⟨_, _, _, h⟩ | ⟨h, _⟩
      · rw [hD] at h; exact h
      · exact absurd G (h _)
    have hvalid : Ev (fun k => impl_IsValidLog.f k D nilB n) true := by
      obtain ⟨b, L, h1, h2, h2', h3, h4⟩ := valid_iff D nilB n (by omega)
      obtain ⟨rfl, rfl⟩ := h4 _ G
      exact h2
    refine Ev.step (fun k => rfl) (ev_neg (by rw [hy]; simp) (Ev.bind hsync (ev_pos rfl (ev_pos rfl (ev_pos (by simp) (Ev.bind hvalid (ev_pos rfl ?_)))))))
    cases x6
    · refine ev_neg (by simp) (ev_now ?_)
      rw [hx rfl, Lib.toList_data]
      rfl
    · exact ev_pos rfl (ev_now rfl)
theorem mid_ev (k : Int) (c r D P : ByteArray) (n : Int) (b y : Bool) (hy : y = false) (hg : b = true → P = nilB ∧ ∃ L, GoodL D nilB n L) (hz : D.size + P.size ≤ 30000) : Ev (fun q => laws_FnLogLines.j0 q k (encE k c r).1 (encE k c r).2 b y D P n) true := by
  by_cases ok : encOk k c r = true
  · have hE : encE k c r = (lnN k c r, true) := by unfold encE lnN; rw [if_pos ok]
    rw [hE]
    unfold encOk at ok
    rw [Bool.and_eq_true] at ok
    obtain ⟨hk, hr⟩ := ok
    have hk := of_decide_eq_true hk
    obtain ⟨m, rfl⟩ : ∃ m : Nat, k = (m : Int) := ⟨k.toNat, by omega⟩
    have hls := lnN_size (m : Int) c r hk hr
    by_cases m0 : m = 0
    · subst m0
      have hp := parse_line 0 c r (by omega) hr
      have hpz := parse_size _ 0 _ _ hp
      have hrec := implRec_ev2 _ _ _ hp (by omega)
      have hs0 : 0 < sizeL 0 [(⟨c, r⟩ : LR)] := by
        show 0 < lsz 0 (⟨c, r⟩ : LR) + 0
        unfold lsz
        omega
      generalize sizeL 0 [(⟨c, r⟩ : LR)] = z at hrec hs0
      refine Ev.step (fun k => rfl) (ev_neg (by rw [hy]; simp) (Ev.bind hrec (ev_pos rfl (ev_neg ?_ (ev_pos rfl ?_)))))
      · have : (decide ((z : Int) > 0)) = true := decide_eq_true (by omega)
        dsimp only
        rw [this]
        simp
      · exact fin_ev _ D P n true b _ rfl hg hz (fun h => absurd h (by simp))
    · have hp := parse_other m c r (by omega) m0 hr
      have hrec := implRec_ev2 _ _ _ hp (by omega)
      have hkne : ¬ (m : Int) = 0 := by omega
      have hbe : ((m : Int) == 0) = false := beq_eq_false_iff_ne.2 hkne
      refine Ev.step (fun k => rfl) (ev_neg (by rw [hy]; simp) (Ev.bind hrec (ev_pos rfl (ev_neg ?_ (ev_neg hkne ?_)))))
      · rw [hbe]; simp [sizeL]
      · exact fin_ev _ D P n true b _ rfl hg hz (fun h => absurd h (by simp))
  · have hE : encE k c r = (nilB, false) := by unfold encE; rw [if_neg ok]
    rw [hE]
    have hp : ∃ v, Ev (fun q => impl_RecoverLog.f q nilB) v := by
      obtain ⟨_, _, _, _, _, h, _⟩ := rec_both nilB (by decide)
      exact ⟨_, h⟩
    obtain ⟨v, hv⟩ := hp
    exact Ev.step (fun k => rfl) (ev_neg (by rw [hy]; simp) (Ev.bind hv (ev_neg (by simp) (fin_ev nilB D P n false b _ rfl hg hz (fun _ => rfl)))))
theorem FnLogLines : PureFnLogLines := by
  intro code hcode
  have hcu := cu_start hcode
  unfold laws_FnLogLines.f
  refine ev_get (ev_bind0 (show laws_vBig.f code = some (decide ((code.length : Int) > 65536)) from rfl) ?_)
  by_cases cb : decide ((code.length : Int) > 65536) = true
  · exact ev_pos cb (ev_now rfl)
  refine ev_neg cb ?_
  obtain ⟨k, c, r, hd, hc, hr⟩ := drawEnc_tot hcu
  obtain ⟨t, ht, hz⟩ := drawRec_tot hcu
  obtain ⟨D, P, n, z, b, i1, i2, hg, hs⟩ := rec_both t (by omega)
  refine ev_bind0 hd (Ev.bind (implEnc_ev k c r (by omega) (by omega)) (Ev.bind (specEnc_ev k c r (by omega) (by omega)) (Ev.bind ht (Ev.bind i1 (Ev.bind i2 (ev_pos rfl (ev_neg (by simp) (ev_neg (by simp) (ev_pos rfl ?_)))))))))
  exact mid_ev k c r D P n b _ (by simp) hg hs
end Go.Proofs.YtkdibcifamlciaaDoor.Pure
namespace Go.Proofs.YtkdibcifamlciaaDoor.fnLogLines
open Go.ChangeShapes Go.WideShapes Go.ChangeAt Go.RowKit Go.Joins Go.Proofs.YtkdibcifamlciaaDoorW.PrintWords Go.Proofs.YtkdibcifamlciaaDoor.Open Go.Proofs.YtkdibcifamlciaaDoor.X
open Go.ChangeMaps (open_string shut_string)
set_option linter.unusedVariables false
theorem own : ownKnob Tryd.prog.godebug = none := by kernel_rfl
def laid : List (String × DataW Unit) := [("math/bits.deBruijn32tab", Rows.laid_math_bits_deBruijn32tab), ("math/bits.deBruijn64tab", Rows.laid_math_bits_deBruijn64tab), ("internal/strconv.uint64pow10", Rows.laid_internal_strconv_uint64pow10)]
theorem door_met (os : Os) (args : Array Value) : laidMetH Tryd.prog laid ((World.doorLaid Tryd.prog 24 os).forCall (fun _ _ => 0) ⟨#[], args, []⟩).memory :=
  laidMetH_of_parts3 (fuel := 8) (laidMet_of_run' 8 (by kernel_rfl) (by kernel_rfl)) (by kernel_rfl) (by kernel_rfl)
theorem gTab : Tryd.prog.globalNamed "internal/strconv.uint64pow10" = some 1 := by kernel_rfl
theorem gTabType : (Tryd.prog.globals[1]?).map (·.type) = some 92 := by kernel_rfl
theorem cellsT : Tryd.prog.cellsOf 92 = 20 := by kernel_rfl
theorem cellsE : Tryd.prog.cellsOf 49 = 1 := by kernel_rfl
theorem only : laid.filter (fun x => x.1 == "internal/strconv.uint64pow10") = [("internal/strconv.uint64pow10", Lib.tabData .u64 Lib.pow10Tab)] := by kernel_rfl
theorem table {W : World} (h : laidMetH Tryd.prog laid W) : GT W := by
  have h2 := h.filter (fun x => x.1 == "internal/strconv.uint64pow10")
  rw [only] at h2
  rw [MakeChecks.laidMetH_plain _ _ _ (by kernel_rfl)] at h2
  exact Lib.tabIs_of_head (rest := []) gTab gTabType Tryd.underlying92 Tryd.underlying49 cellsE cellsT h2
theorem laidOut : laidOutB Tryd.prog = true := by kernel_rfl
set_option maxRecDepth 100000 in
theorem lifted (os : Os) (started : os.Started) (H : Type) (enc : TypeId × Value → H) :
    ReturnsInHanded {} Tryd.checked os 3 .any (fun w args => (Rows.fnLogLinesSpec.pre enc Tryd.prog Tryd.f3 [] false w args ∧ laidMetH Tryd.prog laid w) ∧ sizedMet enc Tryd.prog Tryd.f3 (OpenSpec.ofChange Rows.fnLogLinesSpec) false w args)
      (Rows.fnLogLinesSpec.post enc Tryd.prog Tryd.f3 false true false false) := by
  refine returnsInHanded_of_change_and (C := Tryd.checked) (X := fun w _ => laidMetH Tryd.prog laid w) (fun _ _ _ hh h => h.of_heap hh) own started (by kernel_rfl) Tryd.func3
    (ChangeSpec.witness_shaped (enc := enc) (C := Tryd.checked) (os := os) (X := fun w _ => laidMetH Tryd.prog laid w) false (World.doorLaid Tryd.prog 24 os) #[.slice none 0 0] 8 rfl (World.shaped_of_RefB (by kernel_rfl) (by kernel_rfl)) (by kernel_rfl) (by kernel_rfl) (by kernel_rfl) (door_met os _)) ?_
  intro W base args ds gs before hval0 hW hcnd hsz0 hL _
  have hval : ∀ (j : Nat) t v, Tryd.f3.params[j]? = some t → args[j]? = some v → Value.okWide Tryd.prog W .any base t v := hval0
  have hW' := hW
  obtain ⟨p, q, hA0, hV, rfl, hfz, hnd⟩ := hW
  have hA : DataW.TrodAll enc Tryd.prog W 0 (fun _ => true) true Tryd.f3.params.toList args.toList ds p := hA0
  rw [Tryd.params3] at hA hval
  obtain ⟨v0, vs0, d0, ds0, p0, q0, hargs, rfl, rfl, h0, r0⟩ := trodAll_cons hA
  obtain ⟨rfl, rfl, rfl⟩ := trodAll_nil r0
  obtain rfl : args = #[v0] := by cases args; simp_all
  obtain ⟨rfl, rfl⟩ := trodVars_none hV
  have kk0 := h0
  have lt0 : ∀ x ∈ p0, x.block < W.heap.size := by obtain ⟨m, hm⟩ := kk0; exact DataW.trod_lt m _ _ _ hm
  obtain ⟨A0, c0, a0, rfl, hc0, hr0, g0⟩ := arg_slice op22 (okWide_slice Tryd.underlying22 (hval 0 22 v0 rfl rfl)) h0
  clear hA0 hval0 hsz0
  obtain ⟨k, hk⟩ := Pure.FnLogLines a0 g0
  refine (X.laws_FnLogLines.calls k _ _ a0 true W hr0 hc0 (table hL) hk (Aside0.mk rfl)).mono ?_
  rintro e W' ⟨he, bel0⟩
  have bel : Below W.heap.size W W' := by first | exact bel0 | exact bel0.below
  subst he
  exact ⟨_, rfl, _, _, _, [], _, [], hW', trodAll_mk1 (shut_bool Tryd.underlying4 _), (trodAll_cons_mk (Below.trod laidOut (by kernel_rfl) (of_decide_eq_true (by kernel_rfl)) kk0 bel lt0) trodAll_mk0), rfl, bel.frame _, fun h => by cases h⟩
theorem over : Rows.fnLogLinesRow.holds Tryd.pinned (OpenSpec.ofChange Rows.fnLogLinesSpec) :=
  OpenClaim.holds_of_wide 3 Tryd.f3 rfl rfl rfl rfl rfl rfl rfl ⟨rfl, rfl, rfl, rfl, rfl⟩ rfl rfl rfl rfl rfl (by kernel_rfl) Tryd.func3 (by kernel_rfl)
    (of_decide_eq_true (by kernel_rfl)) (by unfold Func.isWrapper; first | (rw [if_pos (by decide +kernel)]; kernel_rfl) | (rw [if_neg (by decide +kernel)]; exact ⟨rfl, rfl⟩))
    (fun os started H enc _ => lifted os started H enc)
theorem proved : Rows.FnLogLinesSaid := over
#print axioms proved
theorem plain (f : FuncId) (fn : Func) (hf : Tryd.pinned.checked.prog.funcNamed "loop.example/g00876/laws.FnLogLines" = some f) (hfn : Tryd.pinned.checked.prog.funcs[f]? = some fn) :
    false = Tryd.pinned.checked.prog.looks [] ∧ ∀ (j : Nat) t, fn.params[j]? = some t → Tryd.pinned.checked.prog.wantsStandIn t = false := by
  obtain rfl : f = 3 := Option.some.inj ((show Tryd.prog.funcNamed "loop.example/g00876/laws.FnLogLines" = some 3 by kernel_rfl).symm.trans hf) |>.symm
  obtain rfl : fn = Tryd.f3 := (Option.some.inj (Tryd.func3.symm.trans hfn)).symm
  refine ⟨by kernel_rfl, fun j t ht => ?_⟩
  rw [Tryd.params3] at ht
  have hm := Array.mem_of_getElem? ht
  simp only [List.mem_toArray, List.mem_cons, List.not_mem_nil, or_false] at hm
  rcases hm with rfl
  exact (show Tryd.prog.wantsStandIn 22 = false by kernel_rfl)
theorem card : Rows.FnLogLinesCardSaid :=
  Claim7.holds_tied_plain_at .later [] _ _ _ _ proved (fun _ h => by cases h) (by kernel_rfl) (fun _ h => by cases h) fnLogLines_row_tie rfl ⟨rfl, rfl⟩ (by kernel_rfl) rfl plain (by kernel_rfl)
#print axioms card
end Go.Proofs.YtkdibcifamlciaaDoor.fnLogLines
namespace Go.Proofs.YtkdibcifamlciaaDoor
/-- The row, under a short name, for the claim. -/
theorem fnLogLines_holds : Rows.FnLogLinesSaid := fnLogLines.proved
/-- The card, under a short name. -/
theorem fnLogLinesCard_holds : Rows.FnLogLinesCardSaid := fnLogLines.card
end Go.Proofs.YtkdibcifamlciaaDoor
