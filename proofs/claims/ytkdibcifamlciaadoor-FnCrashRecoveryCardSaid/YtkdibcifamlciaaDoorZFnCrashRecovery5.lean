/- For every row of bytes the law FnCrashRecovery answers true. No condition beyond what a reading tells.
This file (part 5 of 5) holds what the proof needs: plain functions with rounds and contracts written by programs of this work over the translation, and the lemmas. -/
import Derived.Test.YtkdibcifamlciaaDoorZFnCrashRecovery4
import Derived.Test.YtkdibcifamlciaaDoorZFnCrashRecovery2
import Derived.Test.YtkdibcifamlciaaDoorZFnCrashRecovery3
import Derived.Test.YtkdibcifamlciaaDoorTie
import Derived.Test.YtkdibcifamlciaaDoorCards
import Derived.Test.YtkdibcifamlciaaDoorRows
import Derived.WalkKit
import Derived.ProofKit
import Derived.OpenShut
import Derived.ShutString
import Derived.ChangeOld
import Derived.Below
import Derived.SizedLaws
import Derived.Lib.SmallJoins
import Derived.LaidMore
import Derived.Stop.Joined
import Derived.Stop.LaidErr
import Derived.Lib.LaidTab
import Derived.Lib.ItoaNum
import Derived.LaidSub
import Derived.Handed
import Derived.SevenTiedAt
set_option linter.unusedVariables false
set_option linter.unusedSimpArgs false
namespace Go.Proofs.YtkdibcifamlciaaDoor.X
open Go.RowKit Go.Proofs.YtkdibcifamlciaaDoorW.PrintWords Go.Proofs.YtkdibcifamlciaaDoor.E
def Stop (k : Nat) (t : ByteArray) : Prop := ∀ a b, t = cat a 10 b → nob 10 a → ∀ c r, ¬ Enc (k : Int) a c r
def Parse : Nat → ByteArray → List S25 → ByteArray → Prop
  | k, s, [], t => s = t ∧ Stop k t
  | k, s, e :: L, t => ∃ a b, s = cat a 10 b ∧ nob 10 a ∧ Enc (k : Int) a e.f0 e.f1 ∧ Parse (k + 1) b L t
theorem parse_ex : ∀ (n : Nat) (s : ByteArray) (k : Nat), s.size ≤ n → ∃ L t, Parse k s L t := by
  intro n
  induction n with
  | zero =>
    intro s k hs
    refine ⟨[], s, rfl, fun a b e _ => ?_⟩
    rw [e, cat_size] at hs; omega
  | succ n ih =>
    intro s k hs
    rcases split_or 10 s with h | ⟨a, b, rfl, ha⟩
    · exact ⟨[], s, rfl, fun a b e _ => absurd h (by rw [e]; exact not_nob _ _ _)⟩
    by_cases hE : ∃ c r, Enc (k : Int) a c r
    · obtain ⟨c, r, hE⟩ := hE
      rw [cat_size] at hs
      obtain ⟨L, t, h⟩ := ih b (k + 1) (by omega)
      exact ⟨⟨c, r⟩ :: L, t, a, b, rfl, ha, hE, h⟩
    · refine ⟨[], cat a 10 b, rfl, fun a' b' e ha' c r h => hE ⟨c, r, ?_⟩⟩
      rw [(split_uniq e ha ha').1]; exact h
theorem parse_uniq : ∀ (L L' : List S25) (k : Nat) (s t t' : ByteArray), Parse k s L t → Parse k s L' t' → L = L' ∧ t = t'
  | [], [], k, s, t, t', h, h' => ⟨rfl, h.1.symm.trans h'.1⟩
  | [], e :: L', k, s, t, t', h, h' => by
    obtain ⟨a, b, e1, e2, e3, _⟩ := h'
    exact absurd e3 (h.2 a b (h.1.symm.trans e1) e2 _ _)
  | e :: L, [], k, s, t, t', h, h' => by
    obtain ⟨a, b, e1, e2, e3, _⟩ := h
    exact absurd e3 (h'.2 a b (h'.1.symm.trans e1) e2 _ _)
  | e :: L, e' :: L', k, s, t, t', h, h' => by
    obtain ⟨a, b, e1, e2, e3, e4⟩ := h
    obtain ⟨a', b', f1, f2, f3, f4⟩ := h'
    obtain ⟨rfl, rfl⟩ := split_uniq (e1.symm.trans f1) e2 f2
    obtain ⟨g1, g2⟩ := enc_uniq e3 f3
    obtain ⟨rfl, rfl⟩ := parse_uniq L L' (k + 1) b t t' e4 f4
    obtain ⟨x0, x1⟩ := e
    obtain ⟨y0, y1⟩ := e'
    obtain rfl : x0 = y0 := g1
    obtain rfl : x1 = y1 := g2
    exact ⟨rfl, rfl⟩
def lsz (k : Nat) (e : S25) : Nat := (sealB (lineB (k : Int) e.f0 e.f1)).size + 1
def sizeL : Nat → List S25 → Nat
  | _, [] => 0
  | k, e :: L => lsz k e + sizeL (k + 1) L
def endsL : Nat → Nat → List S25 → List Int
  | _, _, [] => []
  | k, p, e :: L => ((p + lsz k e : Nat) : Int) :: endsL (k + 1) (p + lsz k e) L
theorem enc_lsz {k : Nat} {a : ByteArray} {e : S25} (h : Enc (k : Int) a e.f0 e.f1) : a.size + 1 = lsz k e := by unfold lsz; rw [h.2.2]
theorem enc_small {k : Nat} {a : ByteArray} {e : S25} (h : Enc (k : Int) a e.f0 e.f1) : lsz k e ≤ 425 ∧ k ≤ 59 := by
  obtain ⟨hs, hls, hlr, hr⟩ := recB_iff h.2.1
  have h1 := line_size k e.f0 e.f1 h.1.1 h.1.2 hs.2 hr
  have h2 := sum_size (lineB k e.f0 e.f1)
  have h3 := h.1.2
  refine ⟨?_, by omega⟩
  unfold lsz sealB
  rw [ByteArray.size_append, ByteArray.size_append, szl]
  omega
theorem parse_size : ∀ (L : List S25) (k : Nat) (s t : ByteArray), Parse k s L t → s.size = sizeL k L + t.size
  | [], k, s, t, h => by rw [h.1, sizeL, Nat.zero_add]
  | e :: L, k, s, t, h => by
    obtain ⟨a, b, e1, e2, e3, e4⟩ := h
    have := parse_size L (k + 1) b t e4
    rw [e1, cat_size, sizeL, ← enc_lsz e3]
    omega
theorem parse_len : ∀ (L : List S25) (k : Nat) (s t : ByteArray), Parse k s L t → k ≤ 60 → k + L.length ≤ 60 ∧ sizeL k L ≤ 425 * L.length
  | [], k, s, t, h, hk => ⟨hk, Nat.zero_le _⟩
  | e :: L, k, s, t, h, hk => by
    obtain ⟨a, b, e1, e2, e3, e4⟩ := h
    have h1 := enc_small e3
    have := parse_len L (k + 1) b t e4 (by omega)
    rw [sizeL, List.length_cons]
    omega
theorem ends_len : ∀ (L : List S25) (k p : Nat), (endsL k p L).length = L.length
  | [], _, _ => rfl
  | e :: L, k, p => by rw [endsL, List.length_cons, List.length_cons, ends_len L]
theorem ends_last : ∀ (L : List S25) (k p : Nat), L ≠ [] → (endsL k p L).getD (L.length - 1) 0 = ((p + sizeL k L : Nat) : Int)
  | [], _, _, h => absurd rfl h
  | [e], k, p, _ => rfl
  | e :: e' :: L, k, p, _ => by
    have := ends_last (e' :: L) (k + 1) (p + lsz k e) (by simp)
    rw [endsL, sizeL, ← Nat.add_assoc, ← this]
    rfl
theorem ext_mid (p m b : ByteArray) : ((p ++ m) ++ b).extract p.size (p.size + m.size) = m := by
  apply ba_list
  have h1 := l_len p
  have h2 := l_len m
  rw [ByteArray.data_extract, Array.toList_extract, List.extract_eq_take_drop, ba_app, ba_app, List.append_assoc, List.drop_left' h1, List.take_left' (by omega)]
theorem ext_end (p b : ByteArray) : (p ++ b).extract p.size (p ++ b).size = b := by rw [ByteArray.size_append]; exact ByteArray.extract_append_eq_right rfl rfl
theorem idx10 (x : ByteArray) : strings_IndexByte.f x 10 = some (Lib.indexByte x.data.toList 10) := rfl
theorem impl_loop : ∀ (L : List S25) (k : Nat) (b t : ByteArray), Parse k b L t → ∀ (x pre : ByteArray) (L0 : List S25) (E0 : List Int), x = pre ++ b → x.size ≤ 4194304 → L0.length = k → E0.length ≤ k → k ≤ 60 → Ev (fun q => impl_readRecords.l0 q x L0 E0 (pre.size : Int)) (L0 ++ L, E0 ++ endsL k pre.size L) := by
  have start : ∀ (a b x pre : ByteArray) (L0 : List S25) (E0 : List Int), nob 10 a → x = pre ++ cat a 10 b → x.size ≤ 4194304 → ∀ {o : List S25 × List Int}, Ev (fun q => (impl_decoded.f q (L0.length : Int) (a ++ one 10)).bind fun bt108 => (if bt108.2.2 = true then (if L0.length < 4398046511104 then (if E0.length < 17592186044416 then (impl_readRecords.l0 q x (L0 ++ [(⟨bt108.1, bt108.2.1⟩ : S25)]) (E0 ++ [((pre.size + (a.size + 1) : Nat) : Int)]) ((pre.size + (a.size + 1) : Nat) : Int)) else (none)) else (none)) else (some (L0, E0)))) o → Ev (fun q => impl_readRecords.l0 q x L0 E0 (pre.size : Int)) o := by
    intro a b x pre L0 E0 ha hx hs o h
    have hz : x.size = pre.size + (a.size + 1 + b.size) := by rw [hx, ByteArray.size_append, cat_size]
    have e1 : x.extract pre.size x.size = cat a 10 b := by rw [hx]; exact ext_end _ _
    have w1 : wrap64 ((pre.size : Int) + (a.size : Int)) = (pre.size : Int) + (a.size : Int) := wrap_id (by omega) (by omega)
    have w2 : wrap64 ((pre.size : Int) + (a.size : Int) + 1) = ((pre.size + (a.size + 1) : Nat) : Int) := by rw [wrap_id (by omega) (by omega)]; omega
    have w3 : wrap64 ((a.size : Int) + 1) = ((a.size + 1 : Nat) : Int) := wrap_succ (show a.size < x.size by omega) (by omega)
    have w4 : wrap64 ((pre.size : Int) + ((a.size + 1 : Nat) : Int)) = ((pre.size + (a.size + 1) : Nat) : Int) := by rw [wrap_id (by omega) (by omega)]; omega
    have e2 : x.extract pre.size (pre.size + (a.size + 1)) = a ++ one 10 := by
      rw [hx]
      have := ext_mid pre (a ++ one 10) b
      rw [ByteArray.append_assoc, ByteArray.size_append, one_size] at this
      exact this
    refine Ev.step (fun k => rfl) (ev_pos (by omega) (ev_pos (by omega) ?_))
    rw [Int.toNat_natCast, e1]
    refine ev_bind0 ((idx10 _).trans (congrArg some (idx_yes ha))) (ev_neg (by omega) ?_)
    rw [w1, w2, w3, w4]
    refine ev_pos (by omega) (ev_pos (by omega) ?_)
    rw [Int.toNat_natCast, e2]
    exact h
  intro L
  induction L with
  | nil =>
    intro k b t hP x pre L0 E0 hx hs hL hE hk
    obtain ⟨rfl, hst⟩ := hP
    rw [endsL, List.append_nil, List.append_nil]
    have hz : x.size = pre.size + b.size := by rw [hx, ByteArray.size_append]
    rcases split_or 10 b with h | ⟨a, b', rfl, ha⟩
    · have e1 : x.extract pre.size x.size = b := by rw [hx]; exact ext_end _ _
      refine Ev.step (fun k => rfl) (ev_pos (by omega) (ev_pos (by omega) ?_))
      rw [Int.toNat_natCast, e1]
      exact ev_bind0 ((idx10 _).trans (congrArg some (idx_no h))) (ev_pos (by omega) (ev_now rfl))
    · refine start a b' x pre L0 E0 ha hx hs ?_
      have hz2 := cat_size a 10 b'
      rcases dec_ev (L0.length : Int) a (by omega) with ⟨c, r, he, _⟩ | ⟨_, hv⟩
      · rw [hL] at he
        exact absurd he (hst a b' rfl ha c r)
      · exact Ev.bind hv (ev_neg (by simp) (ev_now rfl))
  | cons e L ih =>
    intro k b t hP x pre L0 E0 hx hs hL hE hk
    obtain ⟨a, b', rfl, ha, he, hP'⟩ := hP
    have hz2 := cat_size a 10 b'
    have hz : x.size = pre.size + (cat a 10 b').size := by rw [hx, ByteArray.size_append]
    have hsm := enc_small he
    refine start a b' x pre L0 E0 ha hx hs ?_
    rcases dec_ev (L0.length : Int) a (by omega) with ⟨c, r, he', hv⟩ | ⟨hno, _⟩
    · rw [hL] at he'
      obtain ⟨rfl, rfl⟩ := enc_uniq he' he
      refine Ev.bind hv (ev_pos rfl (ev_pos (by omega) (ev_pos (by omega) ?_)))
      have h := ih (k + 1) b' t hP' x (pre ++ (a ++ one 10)) (L0 ++ [e]) (E0 ++ [((pre.size + (a.size + 1) : Nat) : Int)]) (by rw [hx]; unfold cat; rw [ByteArray.append_assoc, ByteArray.append_assoc, ByteArray.append_assoc]) hs (by rw [List.length_append, hL]; rfl) (by rw [List.length_append, List.length_singleton]; omega) (by omega)
      have hps : (pre ++ (a ++ one 10)).size = pre.size + (a.size + 1) := by rw [ByteArray.size_append, ByteArray.size_append, one_size]
      rw [hps, List.append_assoc, List.append_assoc] at h
      rw [endsL, ← enc_lsz he]
      exact h
    · rw [hL] at hno
      exact absurd he (hno _ _)
theorem spec_loop : ∀ (L : List S25) (k : Nat) (b t : ByteArray), Parse k b L t → ∀ (x pre : ByteArray) (L0 : List S25), x = pre ++ b → x.size ≤ 4194304 → L0.length = k → k ≤ 60 → Ev (fun q => spec_l27Open.l0 q x L0 (pre.size : Int)) (L0 ++ L, ((pre.size + sizeL k L : Nat) : Int)) := by
  have stop : ∀ (x pre : ByteArray) (L0 : List S25), Ev (fun q => spec_l27Open.j1 q x L0 (pre.size : Int) false) (L0, (pre.size : Int)) := fun x pre L0 => Ev.step (fun k => rfl) (ev_now rfl)
  intro L
  induction L with
  | nil =>
    intro k b t hP x pre L0 hx hs hL hk
    obtain ⟨rfl, hst⟩ := hP
    rw [sizeL, List.append_nil, Nat.add_zero]
    have hz : x.size = pre.size + b.size := by rw [hx, ByteArray.size_append]
    have e1 : x.extract pre.size x.size = b := by rw [hx]; exact ext_end _ _
    refine Ev.step (fun k => rfl) (ev_ite (fun c => ?_) (fun _ => stop _ _ _))
    by_cases h60 : L0.length < 60
    case neg => rw [decide_eq_false (by omega)]; exact stop _ _ _
    refine Ev.step (fun k => rfl) (ev_pos (decide_eq_true (by omega)) (ev_pos (by omega) (ev_pos (by omega) ?_)))
    rw [Int.toNat_natCast, e1]
    rcases split_or 10 b with h | ⟨a, b', rfl, ha⟩
    · obtain ⟨c, r, o, hv⟩ : ∃ c r o, Ev (fun q => spec_l27Read.f q b (L0.length : Int)) (c, r, o) := by
        rcases read_ev (L0.length : Int) (by omega) b (by omega) with ⟨c, r, _, hv⟩ | ⟨_, c, r, hv⟩
        · exact ⟨c, r, _, hv⟩
        · exact ⟨c, r, _, hv⟩
      exact Ev.bind (split_no h (by omega) 10 rfl) (ev_pos (by simp) (Ev.bind hv (ev_pos (by simp) (ev_now rfl))))
    · have hz2 := cat_size a 10 b'
      obtain ⟨y, ys, hsp⟩ := split_yes (b := b') ha (by omega) 10 rfl
      refine Ev.bind hsp (ev_pos (by rw [List.length_cons]; omega) ?_)
      rcases read_ev (L0.length : Int) (by omega) a (by omega) with ⟨c, r, he, _⟩ | ⟨_, c, r, hv⟩
      · rw [hL] at he
        exact absurd he (hst a b' rfl ha c r)
      · exact Ev.bind hv (ev_neg (by rw [List.length_cons, List.length_cons]; omega) (ev_neg (by simp) (ev_now rfl)))
  | cons e L ih =>
    intro k b t hP x pre L0 hx hs hL hk
    obtain ⟨a, b', rfl, ha, he, hP'⟩ := hP
    have hz2 := cat_size a 10 b'
    have hz : x.size = pre.size + (cat a 10 b').size := by rw [hx, ByteArray.size_append]
    have e1 : x.extract pre.size x.size = cat a 10 b' := by rw [hx]; exact ext_end _ _
    have hsm := enc_small he
    have w1 : wrap64 ((pre.size : Int) + (a.size : Int)) = (pre.size : Int) + (a.size : Int) := wrap_id (by omega) (by omega)
    have w2 : wrap64 ((pre.size : Int) + (a.size : Int) + 1) = ((pre.size + (a.size + 1) : Nat) : Int) := by rw [wrap_id (by omega) (by omega)]; omega
    refine Ev.step (fun k => rfl) (ev_pos (by omega) ?_)
    refine Ev.step (fun k => rfl) (ev_pos (decide_eq_true (by omega)) (ev_pos (by omega) (ev_pos (by omega) ?_)))
    rw [Int.toNat_natCast, e1]
    obtain ⟨y, ys, hsp⟩ := split_yes (b := b') ha (by omega) 10 rfl
    have hrd : rdOf ByteArray.empty (a :: y :: ys) 0 = a := rfl
    refine Ev.bind hsp (ev_pos (by rw [List.length_cons]; omega) ?_)
    rw [hrd, w1, w2]
    rcases read_ev (L0.length : Int) (by omega) a (by omega) with ⟨c, r, he', hv⟩ | ⟨hno, _⟩
    · rw [hL] at he'
      obtain ⟨rfl, rfl⟩ := enc_uniq he' he
      refine Ev.bind hv (ev_neg (by rw [List.length_cons, List.length_cons]; omega) (ev_pos rfl (ev_pos (by omega) ?_)))
      have h := ih (k + 1) b' t hP' x (pre ++ (a ++ one 10)) (L0 ++ [e]) (by rw [hx]; unfold cat; rw [ByteArray.append_assoc, ByteArray.append_assoc, ByteArray.append_assoc]) hs (by rw [List.length_append, hL]; rfl) (by omega)
      have hps : (pre ++ (a ++ one 10)).size = pre.size + (a.size + 1) := by rw [ByteArray.size_append, ByteArray.size_append, one_size]
      rw [hps, List.append_assoc, Nat.add_assoc pre.size (a.size + 1)] at h
      rw [sizeL, ← enc_lsz he]
      exact h
    · rw [hL] at hno
      exact absurd he (hno _ _)
theorem nil_app (s : ByteArray) : s = (⟨#[]⟩ : ByteArray) ++ s := ba_list (by rw [ba_app]; rfl)
theorem implRead_ev (s : ByteArray) (L : List S25) (t : ByteArray) (h : Parse 0 s L t) (hs : s.size ≤ 4194304) : Ev (fun q => impl_readRecords.f q s) (L, endsL 0 0 L) := impl_loop L 0 s t h s (⟨#[]⟩ : ByteArray) [] [] (nil_app s) hs rfl (Nat.le_refl _) (by omega)
theorem specOpen_ev (s : ByteArray) (L : List S25) (t : ByteArray) (h : Parse 0 s L t) (hs : s.size ≤ 4194304) : Ev (fun q => spec_l27Open.f q s) (L, (sizeL 0 L : Int)) := by
  have h := spec_loop L 0 s t h s (⟨#[]⟩ : ByteArray) [] (nil_app s) hs rfl (by omega)
  rw [show (⟨#[]⟩ : ByteArray).size = 0 from rfl, Nat.zero_add, List.nil_append] at h
  exact h
end Go.Proofs.YtkdibcifamlciaaDoor.X
set_option linter.unusedVariables false
set_option linter.unusedSimpArgs false
namespace Go.Proofs.YtkdibcifamlciaaDoor.X
open Go.RowKit Go.Proofs.YtkdibcifamlciaaDoorW.PrintWords Go.Proofs.YtkdibcifamlciaaDoor.E
theorem app_cat (a : ByteArray) (c : UInt8) (b P : ByteArray) : cat a c b ++ P = cat a c (b ++ P) := by unfold cat; rw [ByteArray.append_assoc]
theorem stop_nil (k : Nat) : Stop k (⟨#[]⟩ : ByteArray) := by
  intro a b e _
  have := congrArg ByteArray.size e
  rw [cat_size, show (⟨#[]⟩ : ByteArray).size = 0 from rfl] at this
  omega
theorem size_nil {t : ByteArray} (h : t.size = 0) : t = (⟨#[]⟩ : ByteArray) := ba_list (by
  have := l_len t
  rw [List.eq_nil_of_length_eq_zero (by omega : t.data.toList.length = 0)])
theorem parse_app : ∀ (L1 : List S25) (k : Nat) (D P : ByteArray) (L2 : List S25) (t : ByteArray), Parse k D L1 (⟨#[]⟩ : ByteArray) → Parse (k + L1.length) P L2 t → Parse k (D ++ P) (L1 ++ L2) t
  | [], k, D, P, L2, t, h, h' => by rw [h.1, ← nil_app]; exact h'
  | e :: L1, k, D, P, L2, t, h, h' => by
    obtain ⟨a, b, e1, e2, e3, e4⟩ := h
    refine ⟨a, b ++ P, by rw [e1, app_cat], e2, e3, parse_app L1 (k + 1) b P L2 t e4 ?_⟩
    rw [List.length_cons] at h'
    rw [show k + 1 + L1.length = k + (L1.length + 1) by omega]
    exact h'
theorem ends_gt : ∀ (L : List S25) (k p : Nat) (x : Int), x ∈ endsL k p L → (p : Int) < x
  | [], _, _, x, h => nomatch h
  | e :: L, k, p, x, h => by
    rw [endsL] at h
    have hl : 0 < lsz k e := Nat.succ_pos _
    rcases List.mem_cons.1 h with rfl | h
    · omega
    · have := ends_gt L (k + 1) (p + lsz k e) x h
      omega
theorem ends_has : ∀ (L1 L2 : List S25) (k p : Nat), L1 ≠ [] → ((p + sizeL k L1 : Nat) : Int) ∈ endsL k p (L1 ++ L2)
  | [], _, _, _, h => absurd rfl h
  | [e], L2, k, p, _ => by
    rw [List.cons_append, endsL, sizeL, sizeL, Nat.add_zero]
    exact List.mem_cons_self ..
  | e :: e' :: L1, L2, k, p, _ => by
    have := ends_has (e' :: L1) L2 (k + 1) (p + lsz k e) (by simp)
    rw [List.cons_append, endsL, sizeL, ← Nat.add_assoc]
    exact List.mem_cons_of_mem _ this
theorem ends_cut : ∀ (L : List S25) (k p : Nat) (D P t : ByteArray), Parse k (D ++ P) L t → ((p + D.size : Nat) : Int) ∈ endsL k p L → ∃ L1, Parse k D L1 (⟨#[]⟩ : ByteArray)
  | [], _, _, _, _, _, _, h => nomatch h
  | e :: L, k, p, D, P, t, hP, h => by
    obtain ⟨a, b, e1, e2, e3, e4⟩ := hP
    have hz := enc_lsz e3
    have hsp : (a ++ one 10).size = a.size + 1 := by rw [ByteArray.size_append]; rfl
    rw [endsL] at h
    rcases List.mem_cons.1 h with h | h
    · have hD : D = a ++ one 10 := (ba_cut (b := P) (b' := b) e1 (by omega)).1
      refine ⟨[e], a, (⟨#[]⟩ : ByteArray), ?_, e2, e3, rfl, stop_nil _⟩
      rw [hD]; unfold cat; apply ba_list; rw [ba_app (a ++ one 10)]; simp
    · have h1 := ends_gt L (k + 1) (p + lsz k e) _ h
      have hh := ba_halves D (a.size + 1) (by omega)
      have hs1 : (D.extract 0 (a.size + 1)).size = a.size + 1 := by rw [ByteArray.size_extract]; omega
      have hs2 : (D.extract (a.size + 1) D.size).size = D.size - (a.size + 1) := by rw [ByteArray.size_extract]; omega
      have e5 : D.extract 0 (a.size + 1) ++ (D.extract (a.size + 1) D.size ++ P) = (a ++ one 10) ++ b := by
        rw [← ByteArray.append_assoc, ← hh]; exact e1
      obtain ⟨f1, f2⟩ := ba_cut e5 (by omega)
      rw [← f2] at e4
      obtain ⟨L1, hL⟩ := ends_cut L (k + 1) (p + lsz k e) (D.extract (a.size + 1) D.size) P t e4 (by
        rw [hs2, show p + lsz k e + (D.size - (a.size + 1)) = p + D.size by omega]; exact h)
      refine ⟨e :: L1, a, D.extract (a.size + 1) D.size, ?_, e2, e3, hL⟩
      unfold cat
      rw [← f1]; exact hh
def foldG (d : Int) (s : Bool × Int) (e : Int) : Bool × Int := (s.1 || e == d, e)
theorem fold1 (d : Int) : ∀ (r : List Int) (b : Bool) (v : Int), (r.foldl (foldG d) (b, v)).1 = (b || r.any (fun e => e == d))
  | [], b, v => by simp
  | e :: r, b, v => by
    rw [List.foldl_cons, foldG, fold1 d r, List.any_cons, Bool.or_assoc]
theorem fold2 (d : Int) : ∀ (r : List Int) (b : Bool) (v : Int), (r.foldl (foldG d) (b, v)).2 = r.getD (r.length - 1) v
  | [], b, v => rfl
  | [e], b, v => rfl
  | e :: e' :: r, b, v => by
    rw [List.foldl_cons, foldG, fold2 d (e' :: r)]
    show (e' :: r).getD r.length e = (e :: e' :: r).getD (r.length + 1) v
    rw [getD_in (by simp) e, getD_in (by simp) v]
    rfl
theorem readLoop (x4 : ByteArray) (x5 : List S25) (D P : ByteArray) (n : Int) (en : List Int) (hen : en.length ≤ 9223372036854775807) : ∀ (m i : Nat) (b : Bool) (v : Int), en.length - i = m → i ≤ en.length → Ev (fun q => impl_readLog.l0 q x4 x5 b v en (en.length : Int) (i : Int) D P n) (x5, ((en.drop i).foldl (foldG D.size) (b, v)).1 && (decide (((en.drop i).foldl (foldG D.size) (b, v)).2 = (x4.size : Int)) && ((x5.length : Int) == n))) := by
  intro m
  induction m with
  | zero =>
    intro i b v hm hi
    obtain rfl : i = en.length := by omega
    rw [List.drop_length, List.foldl_nil]
    refine Ev.step (fun k => rfl) (ev_neg (by omega) (ev_ite (fun c => ev_ite (fun d => ev_now ?_) (fun d => ev_now ?_)) (fun c => ev_now ?_)))
    · rw [c, decide_eq_true d]; rfl
    · rw [c, decide_eq_false d]; rfl
    · rw [Bool.not_eq_true] at c; rw [c]; rfl
  | succ m ih =>
    intro i b v hm hi
    have hlt : i < en.length := by omega
    have hrd : rd en (i : Int) = en[i] := by rw [rd_nat]; exact getD_in hlt 0
    rw [List.drop_eq_getElem_cons hlt, List.foldl_cons]
    have h1 := ih (i + 1) (b || en[i] == (D.size : Int)) en[i] (by omega) (by omega)
    refine Ev.step (fun k => rfl) (ev_pos (by omega) (ev_pos (by omega) (ev_pos (by omega) ?_)))
    rw [wrap_succ hlt hen, hrd]
    refine ev_ite (fun c => ?_) (fun c => ?_)
    · rw [c, Bool.true_or] at h1
      rw [foldG, c, Bool.true_or]
      exact h1
    · rw [Bool.not_eq_true] at c
      rw [c, Bool.false_or] at h1
      rw [foldG, c, Bool.false_or]
      exact h1
theorem log_ev (D P : ByteArray) (n : Int) (hs : D.size + P.size ≤ 4194304) : ∃ b L, Ev (fun k => spec_l27Log.f k D P n) b ∧ Ev (fun k => impl_readLog.f k D P n) (L, b) ∧ (b = true → Parse 0 (D ++ P) L (⟨#[]⟩ : ByteArray) ∧ (L.length : Int) = n) := by
  obtain ⟨L, t, hL⟩ := parse_ex (D ++ P).size (D ++ P) 0 (Nat.le_refl _)
  obtain ⟨L1, t1, hL1⟩ := parse_ex D.size D 0 (Nat.le_refl _)
  have hz : (D ++ P).size = D.size + P.size := ByteArray.size_append
  have hzL := parse_size L 0 _ t hL
  have hzL1 := parse_size L1 0 _ t1 hL1
  have hn := parse_len L 0 _ t hL (by omega)
  have hel := ends_len L 0 0
  have hw : wrap64 ((D.size : Int) + (P.size : Int)) = (D.size : Int) + (P.size : Int) := wrap_id (by omega) (by omega)
  have himpl : Ev (fun k => impl_readLog.f k D P n) (L, (((D.size : Int) == 0) || (endsL 0 0 L).any (fun e => e == (D.size : Int))) && (decide ((sizeL 0 L : Int) = ((D ++ P).size : Int)) && ((L.length : Int) == n))) := by
    unfold impl_readLog.f
    refine ev_pos (by omega) (Ev.bind (implRead_ev (D ++ P) L t hL (by omega)) ?_)
    have h := readLoop (D ++ P) L D P n (endsL 0 0 L) (by omega) _ 0 ((D.size : Int) == 0) 0 rfl (Nat.zero_le _)
    rw [List.drop_zero, fold1, fold2] at h
    have hl : (endsL 0 0 L).getD ((endsL 0 0 L).length - 1) 0 = (sizeL 0 L : Int) := by
      rcases L with _ | ⟨e, L⟩
      · rfl
      · rw [ends_len, ends_last _ 0 0 (by simp), Nat.zero_add]
    rw [hl] at h
    exact h
  by_cases hA : sizeL 0 L = D.size + P.size
  case neg =>
    refine ⟨false, L, ?_, ?_, fun h => nomatch h⟩
    · unfold spec_l27Log.f
      rw [hw]
      refine ev_ite (fun _ => ev_now rfl) (fun _ => ev_pos (by omega) (Ev.bind (specOpen_ev _ L t hL (by omega)) (Ev.bind (specOpen_ev _ L1 t1 hL1 (by omega)) (ev_neg (by omega) (ev_now rfl)))))
    · refine ev_cast himpl ?_
      rw [decide_eq_false (by omega)]; simp
  have ht : t = (⟨#[]⟩ : ByteArray) := size_nil (by omega)
  subst ht
  have key : sizeL 0 L1 = D.size ↔ (((D.size : Int) == 0) || (endsL 0 0 L).any (fun e => e == (D.size : Int))) = true := by
    rw [Bool.or_eq_true, beq_iff_eq, List.any_eq_true]
    constructor
    · intro h
      have ht1 : t1 = (⟨#[]⟩ : ByteArray) := size_nil (by omega)
      subst ht1
      obtain ⟨L2, t2, hL2⟩ := parse_ex P.size P (0 + L1.length) (Nat.le_refl _)
      have h3 := parse_app L1 0 D P L2 t2 hL1 hL2
      obtain ⟨rfl, _⟩ := parse_uniq _ _ 0 _ _ _ hL h3
      rcases L1 with _ | ⟨e, L1⟩
      · left
        rw [sizeL] at h
        omega
      · right
        have := ends_has (e :: L1) L2 0 0 (by simp)
        rw [h, Nat.zero_add] at this
        exact ⟨_, this, beq_self_eq_true _⟩
    · rintro (h | ⟨x, hx, e⟩)
      · have hD : D.size = 0 := by omega
        rw [hD] at hzL1
        omega
      · rw [beq_iff_eq] at e
        subst e
        obtain ⟨L3, h3⟩ := ends_cut L 0 0 D P _ hL (by rw [Nat.zero_add]; exact hx)
        obtain ⟨rfl, rfl⟩ := parse_uniq _ _ 0 _ _ _ hL1 h3
        rw [show (⟨#[]⟩ : ByteArray).size = 0 from rfl] at hzL1
        omega
  refine ⟨_, L, ?_, himpl, fun h => ⟨hL, ?_⟩⟩
  · unfold spec_l27Log.f
    rw [hw]
    refine ev_neg (by omega) (ev_pos (by omega) (Ev.bind (specOpen_ev _ L _ hL (by omega)) (Ev.bind (specOpen_ev _ L1 t1 hL1 (by omega)) (ev_pos (by omega) ?_))))
    rw [decide_eq_true (show (sizeL 0 L : Int) = ((D ++ P).size : Int) by omega), Bool.true_and]
    refine ev_ite (fun c => ev_now ?_) (fun c => ev_now ?_)
    · rw [key.1 (by omega), Bool.true_and]
    · have : (((D.size : Int) == 0) || (endsL 0 0 L).any (fun e => e == (D.size : Int))) = false := by
        rw [Bool.eq_false_iff]; intro h; have := key.2 h; omega
      rw [this]; rfl
  · rw [Bool.and_eq_true, Bool.and_eq_true] at h
    exact beq_iff_eq.1 h.2.2
end Go.Proofs.YtkdibcifamlciaaDoor.X
namespace Go.Proofs.YtkdibcifamlciaaDoor.X
open Go.RowKit Go.Proofs.YtkdibcifamlciaaDoorW.PrintWords Go.Proofs.YtkdibcifamlciaaDoorW.PrintLast Go.Proofs.YtkdibcifamlciaaDoorW.PrintMore
attribute [local go_sem] max2_int min2_int max_two min_two max_three min_three max_four min_four   -- for this text's walks alone
set_option linter.unusedVariables false
set_option linter.unusedSimpArgs false
attribute [-simp] ByteArray.size_append ByteArray.size_extract
attribute [-go_sem] ByteArray.size_append'

/-! ### impl_AppendRecord: function 16 -/
def impl_AppendRecord.j0 : Nat → Bool → ByteArray → ByteArray → Int → ByteArray → ByteArray → Option (ByteArray × ByteArray × Int × Int)
 | 0, _, _, _, _, _, _ => none
 | k + 1, x15, x102000, x102001, x102002, x103000, x103001 => if x15 = true then (some (x102000, x102001, x102002, 1)) else ((impl_EncodeRecord.f k x102002 x103000 x103001).bind fun bt106 => (if bt106.2 = true then (if x102001.size + bt106.1.size ≤ 9223372036854775807 then (some (x102000, x102001 ++ bt106.1, wrap64 (x102002 + 1), 0)) else (none)) else (some (x102000, x102001, x102002, 2))))
def impl_AppendRecord.f (k : Nat) (a0_0 : ByteArray) (a0_1 : ByteArray) (a0_2 : Int) (a1_0 : ByteArray) (a1_1 : ByteArray) : Option (ByteArray × ByteArray × Int × Int) := (impl_IsValidLog.f k a0_0 a0_1 a0_2).bind fun t104 => (if t104 = true then ((impl_IsValidLogRecord.f k a1_0 a1_1).bind fun t105 => (impl_AppendRecord.j0 k (!t105) a0_0 a0_1 a0_2 a1_0 a1_1)) else (impl_AppendRecord.j0 k true a0_0 a0_1 a0_2 a1_0 a1_1))
set_option maxHeartbeats 8000000 in
set_option maxRecDepth 100000 in
theorem impl_AppendRecord.calls (k : Nat) (a0_0 : ByteArray) (a0_1 : ByteArray) (a0_2 : Int) (a1_0 : ByteArray) (a1_1 : ByteArray) (r1 : ByteArray) (r2 : ByteArray) (r3 : Int) (r4 : Int) (w : World) (hG : GT w) (h : impl_AppendRecord.f k a0_0 a0_1 a0_2 a1_0 a1_1 = some (r1, r2, r3, r4)) :
  Calls Tryd.prog 16 #[.agg #[.string a0_0, .string a0_1, .int .i64 a0_2], .agg #[.string a1_0, .string a1_1]] w fun e w' => e = .returned (.tuple #[.agg #[.string r1, .string r2, .int .i64 r3], .int .i64 r4]) ∧ Below w.heap.size w w' := by
 (have hu32 := Tryd.underlying32); (have hu25 := Tryd.underlying25); (have HG := Aside0.mk hG); clear hG; (have HB := Aside0.mk (Below.refl w.heap.size w)); (unfold impl_AppendRecord.f at h); (have H := h); clear h; (have HC3 := Aside0.mk H); clear H; (go_enter Tryd.func16, Tryd.ntmps16); (go_upto_region 1 with (first | ((with_reducible refine gate_dst (N := 2) rfl ?_); refine box_event ?hg (N := 2) ?hd (cs := #[.string a0_0, .string a0_1, .int .i64 a0_2]) (t := 32) ?hr ?_; (case hd => rfl); (case hg => rfl); (case hr => first | (go_simp; done) | (go_simp; rfl)); intro gb101 hg w4 hbox hb; have hB_ := zI hb HB; have n0_ := Aside0.mk (below_step hB_ hb); have n1_ := Aside0.mk (hbox); have n2_ := Aside0.mk (bx0 hg hB_); have n3_ := n2_; clear HB; have HB := n0_; have BK101 := n1_; have GW101 := n2_; have GE101 := n3_; clear n0_ n1_ n2_ n3_ hB_ hb hbox hg) | ((with_reducible refine gate_dst (N := 3) rfl ?_); refine box_event ?hg (N := 3) ?hd (cs := #[.string a1_0, .string a1_1]) (t := 25) ?hr ?_; (case hd => rfl); (case hg => rfl); (case hr => first | (go_simp; done) | (go_simp; rfl)); intro gb102 hg w5 hbox hb; have n0_ := Aside0.mk (kbI hb BK101); have hB_ := zI hb HB; have n1_ := Aside0.mk (below_step hB_ hb); have n2_ := Aside0.mk (hbox); have n3_ := Aside0.mk (bx0 hg hB_); have n4_ := n3_; have n5_ := Aside0.mk ((by rw [hg]; exact Nat.ne_of_lt (blk_lt (kI BK101)) : gb101 ≠ gb102)); have n6_ := Aside0.mk (Ne.symm n5_.out); clear BK101 HB; have BK101 := n0_; have HB := n1_; have BK102 := n2_; have GW102 := n3_; have GE102 := n4_; have NB101_102 := n5_; have NB102_101 := n6_; clear n0_ n1_ n2_ n3_ n4_ n5_ n6_ hB_ hb hbox hg) | ((with_reducible refine gate_dst (N := 4) rfl ?_); refine box_event ?hg (N := 4) ?hd (cs := #[.string (⟨#[]⟩ : ByteArray), .string (⟨#[]⟩ : ByteArray), .int .i64 0]) (t := 32) ?hr ?_; (case hd => rfl); (case hg => rfl); (case hr => first | (go_simp; done) | (go_simp; rfl)); intro gb103 hg w6 hbox hb; have n0_ := Aside0.mk (kbI hb BK101); have n1_ := Aside0.mk (kbI hb BK102); have hB_ := zI hb HB; have n2_ := Aside0.mk (below_step hB_ hb); have n3_ := Aside0.mk (hbox); have n4_ := Aside0.mk (bx0 hg hB_); have n5_ := n4_; have n6_ := Aside0.mk ((by rw [hg]; exact Nat.ne_of_lt (blk_lt (kI BK101)) : gb101 ≠ gb103)); have n7_ := Aside0.mk (Ne.symm n6_.out); have n8_ := Aside0.mk ((by rw [hg]; exact Nat.ne_of_lt (blk_lt (kI BK102)) : gb102 ≠ gb103)); have n9_ := Aside0.mk (Ne.symm n8_.out); clear BK101 BK102 HB; have BK101 := n0_; have BK102 := n1_; have HB := n2_; have BK103 := n3_; have GW103 := n4_; have GE103 := n5_; have NB101_103 := n6_; have NB103_101 := n7_; have NB102_103 := n8_; have NB103_102 := n9_; clear n0_ n1_ n2_ n3_ n4_ n5_ n6_ n7_ n8_ n9_ hB_ hb hbox hg))); ((try simp only [Act.put, aS1, aS2, aS3])); (go_cut [15] (fun v15 wc => ∃ (kq : Nat) (x15_2 : Bool), v15 = .bool x15_2 ∧ Aside0 (impl_AppendRecord.j0 kq x15_2 a0_0 a0_1 a0_2 a1_0 a1_1 = some (r1, r2, r3, r4)) ∧ Aside0 (kq ≤ k) ∧ Aside0 (wc.heap[gb101]? = some (.cells #[.string a0_0, .string a0_1, .int .i64 a0_2] 32 (0, 0))) ∧ Aside0 (wc.heap[gb102]? = some (.cells #[.string a1_0, .string a1_1] 25 (0, 0))) ∧ Aside0 (wc.heap[gb103]? = some (.cells #[.string (⟨#[]⟩ : ByteArray), .string (⟨#[]⟩ : ByteArray), .int .i64 0] 32 (0, 0))) ∧ Aside0 (Below w.heap.size w wc)))
 case first =>
  (have H := HC3.out); clear HC3; (replace H := obS H); (obtain ⟨t104, A7, H⟩ := H); (by_cases c8 : t104 = true)
  ·subst c8
   (rw [if_pos rfl] at H); (replace H := obS H); (obtain ⟨t105, A9, H⟩ := H); (have H' := Aside0.mk H); clear H; (have hnb10 := NB101_102.out); (have hnc10 := NB102_101.out); (have hnb11 := NB101_103.out); (have hnc11 := NB103_101.out); (have hcz12_0 := cz BK101.out 0); (have hcz12_1 := cz BK101.out 1); (have hcz12_2 := cz BK101.out 2); (have hfz12_0 := blk_frozen BK101.out 0); (have hfz12_1 := blk_frozen BK101.out 1); (have hfz12_2 := blk_frozen BK101.out 2); (go_wp2_with (first | ((with_reducible refine gate_callee (f := 14) rfl ?_); refine gL (some 9) Tryd.func14 #[.agg #[.string a0_0, .string a0_1, .int .i64 a0_2]] ?_; (with_reducible refine (impl_IsValidLog.calls k a0_0 a0_1 a0_2 true _ ?side1 A7.out).mono ?_); (case side1 => first | exact GT.below HG.out (eI HB) | (repeat (first | exact HG.out | (with_reducible first | apply GT.drewN | apply GT.drew | apply GT.alloc)))); rintro e w13 ⟨rfl, hb⟩; refine ⟨_, rfl, ?_⟩; have n0_ := Aside0.mk (kbI hb BK101); have n1_ := Aside0.mk (kbI hb BK102); have n2_ := Aside0.mk (kbI hb BK103); have n3_ := Aside0.mk (sI hb HB); clear BK101 BK102 BK103 HB; have BK101 := n0_; have BK102 := n1_; have BK103 := n2_; have HB := n3_; clear n0_ n1_ n2_ n3_; (try clear hb); (try clear hb2); (try clear hk); (try clear hi); have hnb14 := NB102_103.out; have hnc14 := NB103_102.out; have hcz15_0 := cz BK102.out 0; have hcz15_1 := cz BK102.out 1; have hfz15_0 := blk_frozen BK102.out 0; have hfz15_1 := blk_frozen BK102.out 1) | (go_at_call 19; (with_reducible refine (impl_IsValidLogRecord.calls k a1_0 a1_1 t105 _ A9.out).mono ?_); rintro e w16 ⟨rfl, hb⟩; have n0_ := Aside0.mk (kbI hb BK101); have n1_ := Aside0.mk (kbI hb BK102); have n2_ := Aside0.mk (kbI hb BK103); have n3_ := Aside0.mk (sI hb HB); clear BK101 BK102 BK103 HB; have BK101 := n0_; have BK102 := n1_; have BK103 := n2_; have HB := n3_; clear n0_ n1_ n2_ n3_; (try clear hb); (try clear hb2); (try clear hk); (try clear hi)))); (go_meet)
   case rel => exact ⟨_, (!t105), (by first | rfl | (simp; done) | (simp [*]; done)), H', ⟨by first | omega | exact Nat.le_refl _⟩, ⟨kI BK101⟩, ⟨kI BK102⟩, ⟨kI BK103⟩, ⟨eI HB⟩⟩
  ·replace c8 := Bool.eq_false_iff.mpr c8
   subst c8; (rw [if_neg (show ¬ (false = true) by decide)] at H); (have H' := Aside0.mk H); clear H; (have hnb17 := NB101_102.out); (have hnc17 := NB102_101.out); (have hnb18 := NB101_103.out); (have hnc18 := NB103_101.out); (have hcz19_0 := cz BK101.out 0); (have hcz19_1 := cz BK101.out 1); (have hcz19_2 := cz BK101.out 2); (have hfz19_0 := blk_frozen BK101.out 0); (have hfz19_1 := blk_frozen BK101.out 1); (have hfz19_2 := blk_frozen BK101.out 2); (go_wp2_with (first | ((with_reducible refine gate_callee (f := 14) rfl ?_); refine gL (some 9) Tryd.func14 #[.agg #[.string a0_0, .string a0_1, .int .i64 a0_2]] ?_; (with_reducible refine (impl_IsValidLog.calls k a0_0 a0_1 a0_2 false _ ?side1 A7.out).mono ?_); (case side1 => first | exact GT.below HG.out (eI HB) | (repeat (first | exact HG.out | (with_reducible first | apply GT.drewN | apply GT.drew | apply GT.alloc)))); rintro e w20 ⟨rfl, hb⟩; refine ⟨_, rfl, ?_⟩; have n0_ := Aside0.mk (kbI hb BK101); have n1_ := Aside0.mk (kbI hb BK102); have n2_ := Aside0.mk (kbI hb BK103); have n3_ := Aside0.mk (sI hb HB); clear BK101 BK102 BK103 HB; have BK101 := n0_; have BK102 := n1_; have BK103 := n2_; have HB := n3_; clear n0_ n1_ n2_ n3_; (try clear hb); (try clear hb2); (try clear hk); (try clear hi)))); (go_meet)
   case rel => exact ⟨_, (true), (by first | rfl | (simp; done) | (simp [*]; done)), H', ⟨by first | omega | exact Nat.le_refl _⟩, ⟨kI BK101⟩, ⟨kI BK102⟩, ⟨kI BK103⟩, ⟨eI HB⟩⟩
 case rest =>
  clear HC3; (try clear c1); (try clear p2); (try clear c8); (try clear c10); (try clear c11); (try clear c14); (try clear c16); (try clear c17); (try clear c18); (try clear hcz12_0); (try clear hcz12_1); (try clear hcz12_2); (try clear hcz15_0); (try clear hcz15_1); (try clear hcz19_0); (try clear hcz19_1); (try clear hcz19_2); (try clear hfz12_0); (try clear hfz12_1); (try clear hfz12_2); (try clear hfz15_0); (try clear hfz15_1); (try clear hfz19_0); (try clear hfz19_1); (try clear hfz19_2); (obtain ⟨kq, x15_2, rfl, HA, HJ2, BK101, BK102, BK103, HB⟩ := hcut)
  cases kq with
  | zero => exact absurd HA.out (by simp [impl_AppendRecord.j0])
  | succ kj2 =>
   (have H := HA.out); clear HA; (simp only [impl_AppendRecord.j0] at H); (by_cases c21 : x15_2 = true)
   ·subst c21
    (rw [if_pos rfl] at H); (simp only [Option.some.injEq, Prod.mk.injEq] at H); (obtain ⟨rfl, rfl, rfl, rfl⟩ := H); (have hnb22 := NB101_102.out); (have hnc22 := NB102_101.out); (have hnb23 := NB101_103.out); (have hnc23 := NB103_101.out); (have hcz24_0 := cz BK101.out 0); (have hcz24_1 := cz BK101.out 1); (have hcz24_2 := cz BK101.out 2); (have hfz24_0 := blk_frozen BK101.out 0); (have hfz24_1 := blk_frozen BK101.out 1); (have hfz24_2 := blk_frozen BK101.out 2); (have hnb25 := NB103_102.out); (have hnc25 := NB102_103.out); (have hcz26_0 := cz BK103.out 0); (have hcz26_1 := cz BK103.out 1); (have hcz26_2 := cz BK103.out 2); (have hfz26_0 := blk_frozen BK103.out 0); (have hfz26_1 := blk_frozen BK103.out 1); (have hfz26_2 := blk_frozen BK103.out 2); (go_wp2); (refine bodyPost_ret (results_ct rfl _ _ gb103 32 #[.string a0_0, .string a0_1, .int .i64 a0_2] (0, 0) _ rfl (by (with_reducible repeat (first | refine kN ?_ _ | refine kD ?_ | refine kA ?_ _)); refine blk_put (cs := #[.string a0_0, .string a0_1, .int .i64 0]) ?_ 2 _ rfl; (with_reducible repeat (first | refine kN ?_ _ | refine kD ?_ | refine kA ?_ _)); refine blk_put (cs := #[.string a0_0, .string (⟨#[]⟩ : ByteArray), .int .i64 0]) ?_ 1 _ rfl; (with_reducible repeat (first | refine kN ?_ _ | refine kD ?_ | refine kA ?_ _)); refine blk_put (cs := #[.string (⟨#[]⟩ : ByteArray), .string (⟨#[]⟩ : ByteArray), .int .i64 0]) ?_ 0 _ rfl; (with_reducible repeat (first | refine kN ?_ _ | refine kD ?_ | refine kA ?_ _)); exact BK103.out) Tryd.underlying32 rfl (by kernel_rfl)) rfl ?_); (exact ⟨by first | rfl | (simp [errW_none, errW_some] <;> rfl) | (simp [*, errW_none, errW_some] <;> rfl), by repeat (first | (with_reducible first | exact HB.out | apply bA | apply bN | apply bD | refine below_set ?_ GE101.out | refine below_set ?_ GE102.out | refine below_set ?_ GE103.out) | exact HB.out)⟩)
   ·replace c21 := Bool.eq_false_iff.mpr c21
    subst c21; (rw [if_neg (show ¬ (false = true) by decide)] at H); (replace H := obS H); (obtain ⟨⟨t106, t107⟩, A27, H⟩ := H); (replace H : (if t107 = true then (if a0_1.size + t106.size ≤ 9223372036854775807 then (some (a0_0, a0_1 ++ t106, wrap64 (a0_2 + 1), 0)) else (none)) else (some (a0_0, a0_1, a0_2, 2))) = some (r1, r2, r3, r4) := H); (by_cases c28 : t107 = true)
    ·subst c28
     (rw [if_pos rfl] at H); (by_cases c29 : a0_1.size + t106.size ≤ 9223372036854775807)
     ·rw [if_pos c29] at H
      (have c29b0 := eq_true c29); (have c29b1 := decide_eq_true c29); (try have c29b2 : (9223372036854775807 < a0_1.size + t106.size) = False := eq_false (Nat.not_lt.2 c29)); (simp only [Option.some.injEq, Prod.mk.injEq] at H); (obtain ⟨rfl, rfl, rfl, rfl⟩ := H); (have hnb30 := NB101_102.out); (have hnc30 := NB102_101.out); (have hnb31 := NB101_103.out); (have hnc31 := NB103_101.out); (have hcz32_0 := cz BK101.out 0); (have hcz32_1 := cz BK101.out 1); (have hcz32_2 := cz BK101.out 2); (have hfz32_0 := blk_frozen BK101.out 0); (have hfz32_1 := blk_frozen BK101.out 1); (have hfz32_2 := blk_frozen BK101.out 2); (have hnb33 := NB102_103.out); (have hnc33 := NB103_102.out); (have hcz34_0 := cz BK102.out 0); (have hcz34_1 := cz BK102.out 1); (have hfz34_0 := blk_frozen BK102.out 0); (have hfz34_1 := blk_frozen BK102.out 1); (go_wp2_with (first | ((with_reducible refine gate_callee (f := 8) rfl ?_); refine gL (some 21) Tryd.func8 #[.int .i64 a0_2, .agg #[.string a1_0, .string a1_1]] ?_; (with_reducible refine (impl_EncodeRecord.calls kj2 a0_2 a1_0 a1_1 t106 true _ ?side1 A27.out).mono ?_); (case side1 => first | exact GT.below HG.out (eI HB) | (repeat (first | exact HG.out | (with_reducible first | apply GT.drewN | apply GT.drew | apply GT.alloc)))); rintro e w35 ⟨rfl, hb⟩; refine ⟨_, rfl, ?_⟩; have n0_ := Aside0.mk (kbI hb BK101); have n1_ := Aside0.mk (kbI hb BK102); have n2_ := Aside0.mk (kbI hb BK103); have n3_ := Aside0.mk (sI hb HB); clear BK101 BK102 BK103 HB; have BK101 := n0_; have BK102 := n1_; have BK103 := n2_; have HB := n3_; clear n0_ n1_ n2_ n3_; (try clear hb); (try clear hb2); (try clear hk); (try clear hi); have hcz36_0 := cz BK101.out 0; have hcz36_1 := cz BK101.out 1; have hcz36_2 := cz BK101.out 2; have hfz36_0 := blk_frozen BK101.out 0; have hfz36_1 := blk_frozen BK101.out 1; have hfz36_2 := blk_frozen BK101.out 2; have hcz37_0 := cz BK103.out 0; have hcz37_1 := cz BK103.out 1; have hcz37_2 := cz BK103.out 2; have hfz37_0 := blk_frozen BK103.out 0; have hfz37_1 := blk_frozen BK103.out 1; have hfz37_2 := blk_frozen BK103.out 2))); (refine bodyPost_ret (results_ct rfl _ _ gb103 32 #[.string a0_0, .string (a0_1 ++ t106), .int .i64 (wrap64 (a0_2 + 1))] (0, 0) _ rfl (by (with_reducible repeat (first | refine kN ?_ _ | refine kD ?_ | refine kA ?_ _)); refine blk_put (cs := #[.string a0_0, .string (a0_1 ++ t106), .int .i64 0]) ?_ 2 _ rfl; (with_reducible repeat (first | refine kN ?_ _ | refine kD ?_ | refine kA ?_ _)); refine blk_put (cs := #[.string a0_0, .string (⟨#[]⟩ : ByteArray), .int .i64 0]) ?_ 1 _ rfl; (with_reducible repeat (first | refine kN ?_ _ | refine kD ?_ | refine kA ?_ _)); refine blk_put (cs := #[.string (⟨#[]⟩ : ByteArray), .string (⟨#[]⟩ : ByteArray), .int .i64 0]) ?_ 0 _ rfl; (with_reducible repeat (first | refine kN ?_ _ | refine kD ?_ | refine kA ?_ _)); exact BK103.out) Tryd.underlying32 rfl (by kernel_rfl)) rfl ?_); (exact ⟨by first | rfl | (simp [errW_none, errW_some] <;> rfl) | (simp [*, errW_none, errW_some] <;> rfl), by repeat (first | (with_reducible first | exact HB.out | apply bA | apply bN | apply bD | refine below_set ?_ GE101.out | refine below_set ?_ GE102.out | refine below_set ?_ GE103.out) | exact HB.out)⟩)
     ·rw [if_neg c29] at H
      exact absurd H (by simp)
    ·replace c28 := Bool.eq_false_iff.mpr c28
     subst c28; (rw [if_neg (show ¬ (false = true) by decide)] at H); (simp only [Option.some.injEq, Prod.mk.injEq] at H); (obtain ⟨rfl, rfl, rfl, rfl⟩ := H); (have hnb38 := NB101_102.out); (have hnc38 := NB102_101.out); (have hnb39 := NB101_103.out); (have hnc39 := NB103_101.out); (have hcz40_0 := cz BK101.out 0); (have hcz40_1 := cz BK101.out 1); (have hcz40_2 := cz BK101.out 2); (have hfz40_0 := blk_frozen BK101.out 0); (have hfz40_1 := blk_frozen BK101.out 1); (have hfz40_2 := blk_frozen BK101.out 2); (have hnb41 := NB102_103.out); (have hnc41 := NB103_102.out); (have hcz42_0 := cz BK102.out 0); (have hcz42_1 := cz BK102.out 1); (have hfz42_0 := blk_frozen BK102.out 0); (have hfz42_1 := blk_frozen BK102.out 1); (go_wp2_with (first | ((with_reducible refine gate_callee (f := 8) rfl ?_); refine gL (some 21) Tryd.func8 #[.int .i64 a0_2, .agg #[.string a1_0, .string a1_1]] ?_; (with_reducible refine (impl_EncodeRecord.calls kj2 a0_2 a1_0 a1_1 t106 false _ ?side1 A27.out).mono ?_); (case side1 => first | exact GT.below HG.out (eI HB) | (repeat (first | exact HG.out | (with_reducible first | apply GT.drewN | apply GT.drew | apply GT.alloc)))); rintro e w43 ⟨rfl, hb⟩; refine ⟨_, rfl, ?_⟩; have n0_ := Aside0.mk (kbI hb BK101); have n1_ := Aside0.mk (kbI hb BK102); have n2_ := Aside0.mk (kbI hb BK103); have n3_ := Aside0.mk (sI hb HB); clear BK101 BK102 BK103 HB; have BK101 := n0_; have BK102 := n1_; have BK103 := n2_; have HB := n3_; clear n0_ n1_ n2_ n3_; (try clear hb); (try clear hb2); (try clear hk); (try clear hi); have hcz44_0 := cz BK101.out 0; have hcz44_1 := cz BK101.out 1; have hcz44_2 := cz BK101.out 2; have hfz44_0 := blk_frozen BK101.out 0; have hfz44_1 := blk_frozen BK101.out 1; have hfz44_2 := blk_frozen BK101.out 2; have hcz45_0 := cz BK103.out 0; have hcz45_1 := cz BK103.out 1; have hcz45_2 := cz BK103.out 2; have hfz45_0 := blk_frozen BK103.out 0; have hfz45_1 := blk_frozen BK103.out 1; have hfz45_2 := blk_frozen BK103.out 2))); (refine bodyPost_ret (results_ct rfl _ _ gb103 32 #[.string a0_0, .string a0_1, .int .i64 a0_2] (0, 0) _ rfl (by (with_reducible repeat (first | refine kN ?_ _ | refine kD ?_ | refine kA ?_ _)); refine blk_put (cs := #[.string a0_0, .string a0_1, .int .i64 0]) ?_ 2 _ rfl; (with_reducible repeat (first | refine kN ?_ _ | refine kD ?_ | refine kA ?_ _)); refine blk_put (cs := #[.string a0_0, .string (⟨#[]⟩ : ByteArray), .int .i64 0]) ?_ 1 _ rfl; (with_reducible repeat (first | refine kN ?_ _ | refine kD ?_ | refine kA ?_ _)); refine blk_put (cs := #[.string (⟨#[]⟩ : ByteArray), .string (⟨#[]⟩ : ByteArray), .int .i64 0]) ?_ 0 _ rfl; (with_reducible repeat (first | refine kN ?_ _ | refine kD ?_ | refine kA ?_ _)); exact BK103.out) Tryd.underlying32 rfl (by kernel_rfl)) rfl ?_); (exact ⟨by first | rfl | (simp [errW_none, errW_some] <;> rfl) | (simp [*, errW_none, errW_some] <;> rfl), by repeat (first | (with_reducible first | exact HB.out | apply bA | apply bN | apply bD | refine below_set ?_ GE101.out | refine below_set ?_ GE102.out | refine below_set ?_ GE103.out) | exact HB.out)⟩)
/-! ### impl_SyncLog: function 13 -/
def impl_SyncLog.f (k : Nat) (a0_0 : ByteArray) (a0_1 : ByteArray) (a0_2 : Int) : Option (ByteArray × ByteArray × Int × Bool) := (impl_IsValidLog.f k a0_0 a0_1 a0_2).bind fun t103 => (if t103 = true then (if a0_0.size + a0_1.size ≤ 9223372036854775807 then (some (a0_0 ++ a0_1, (⟨#[]⟩ : ByteArray), a0_2, true)) else (none)) else (some ((⟨#[]⟩ : ByteArray), (⟨#[]⟩ : ByteArray), 0, false)))
set_option maxHeartbeats 8000000 in
set_option maxRecDepth 100000 in
theorem impl_SyncLog.calls (k : Nat) (a0_0 : ByteArray) (a0_1 : ByteArray) (a0_2 : Int) (r1 : ByteArray) (r2 : ByteArray) (r3 : Int) (r4 : Bool) (w : World) (hG : GT w) (h : impl_SyncLog.f k a0_0 a0_1 a0_2 = some (r1, r2, r3, r4)) :
  Calls Tryd.prog 13 #[.agg #[.string a0_0, .string a0_1, .int .i64 a0_2]] w fun e w' => e = .returned (.tuple #[.agg #[.string r1, .string r2, .int .i64 r3], .bool r4]) ∧ Below w.heap.size w w' := by
 (have hu32 := Tryd.underlying32); (have HG := Aside0.mk hG); clear hG; (have HB := Aside0.mk (Below.refl w.heap.size w)); (unfold impl_SyncLog.f at h); (have H := h); clear h; (replace H := obS H); (obtain ⟨t103, A2, H⟩ := H); (by_cases c3 : t103 = true)
 ·subst c3
  (rw [if_pos rfl] at H); (by_cases c4 : a0_0.size + a0_1.size ≤ 9223372036854775807); (· (rw [if_pos c4] at H); (have c4b0 := eq_true c4); (have c4b1 := decide_eq_true c4); (try have c4b2 : (9223372036854775807 < a0_0.size + a0_1.size) = False := eq_false (Nat.not_lt.2 c4)); (simp only [Option.some.injEq, Prod.mk.injEq] at H); (obtain ⟨rfl, rfl, rfl, rfl⟩ := H); (go_enter Tryd.func13, Tryd.ntmps13); (go_wp2_with (first | ((with_reducible refine gate_dst (N := 1) rfl ?_); refine box_event ?hg (N := 1) ?hd (cs := #[.string a0_0, .string a0_1, .int .i64 a0_2]) (t := 32) ?hr ?_; (case hd => rfl); (case hg => rfl); (case hr => first | (go_simp; done) | (go_simp; rfl)); intro gb101 hg w5 hbox hb; have hB_ := zI hb HB; have n0_ := Aside0.mk (below_step hB_ hb); have n1_ := Aside0.mk (hbox); have n2_ := Aside0.mk (bx0 hg hB_); have n3_ := n2_; clear HB; have HB := n0_; have BK101 := n1_; have GW101 := n2_; have GE101 := n3_; clear n0_ n1_ n2_ n3_ hB_ hb hbox hg) | ((with_reducible refine gate_dst (N := 2) rfl ?_); refine box_event ?hg (N := 2) ?hd (cs := #[.string (⟨#[]⟩ : ByteArray), .string (⟨#[]⟩ : ByteArray), .int .i64 0]) (t := 32) ?hr ?_; (case hd => rfl); (case hg => rfl); (case hr => first | (go_simp; done) | (go_simp; rfl)); intro gb102 hg w6 hbox hb; have n0_ := Aside0.mk (kbI hb BK101); have hB_ := zI hb HB; have n1_ := Aside0.mk (below_step hB_ hb); have n2_ := Aside0.mk (hbox); have n3_ := Aside0.mk (bx0 hg hB_); have n4_ := n3_; have n5_ := Aside0.mk ((by rw [hg]; exact Nat.ne_of_lt (blk_lt (kI BK101)) : gb101 ≠ gb102)); have n6_ := Aside0.mk (Ne.symm n5_.out); clear BK101 HB; have BK101 := n0_; have HB := n1_; have BK102 := n2_; have GW102 := n3_; have GE102 := n4_; have NB101_102 := n5_; have NB102_101 := n6_; clear n0_ n1_ n2_ n3_ n4_ n5_ n6_ hB_ hb hbox hg; have hnb7 := NB101_102.out; have hnc7 := NB102_101.out; have hcz8_0 := cz BK101.out 0; have hcz8_1 := cz BK101.out 1; have hcz8_2 := cz BK101.out 2; have hfz8_0 := blk_frozen BK101.out 0; have hfz8_1 := blk_frozen BK101.out 1; have hfz8_2 := blk_frozen BK101.out 2) | ((with_reducible refine gate_callee (f := 14) rfl ?_); refine gL (some 5) Tryd.func14 #[.agg #[.string a0_0, .string a0_1, .int .i64 a0_2]] ?_; (with_reducible refine (impl_IsValidLog.calls k a0_0 a0_1 a0_2 true _ ?side1 A2.out).mono ?_); (case side1 => first | exact GT.below HG.out (eI HB) | (repeat (first | exact HG.out | (with_reducible first | apply GT.drewN | apply GT.drew | apply GT.alloc)))); rintro e w9 ⟨rfl, hb⟩; refine ⟨_, rfl, ?_⟩; have n0_ := Aside0.mk (kbI hb BK101); have n1_ := Aside0.mk (kbI hb BK102); have n2_ := Aside0.mk (sI hb HB); clear BK101 BK102 HB; have BK101 := n0_; have BK102 := n1_; have HB := n2_; clear n0_ n1_ n2_; (try clear hb); (try clear hb2); (try clear hk); (try clear hi); have hcz10_0 := cz BK101.out 0; have hcz10_1 := cz BK101.out 1; have hcz10_2 := cz BK101.out 2; have hfz10_0 := blk_frozen BK101.out 0; have hfz10_1 := blk_frozen BK101.out 1; have hfz10_2 := blk_frozen BK101.out 2; have hcz11_0 := cz BK102.out 0; have hcz11_1 := cz BK102.out 1; have hcz11_2 := cz BK102.out 2; have hfz11_0 := blk_frozen BK102.out 0; have hfz11_1 := blk_frozen BK102.out 1; have hfz11_2 := blk_frozen BK102.out 2))); (refine bodyPost_ret (results_ct rfl _ _ gb102 32 #[.string (a0_0 ++ a0_1), .string (⟨#[]⟩ : ByteArray), .int .i64 a0_2] (0, 0) _ rfl (by (with_reducible repeat (first | refine kN ?_ _ | refine kD ?_ | refine kA ?_ _)); refine blk_put (cs := #[.string (a0_0 ++ a0_1), .string (⟨#[]⟩ : ByteArray), .int .i64 0]) ?_ 2 _ rfl; (with_reducible repeat (first | refine kN ?_ _ | refine kD ?_ | refine kA ?_ _)); refine blk_put (cs := #[.string (a0_0 ++ a0_1), .string (⟨#[]⟩ : ByteArray), .int .i64 0]) ?_ 1 _ rfl; (with_reducible repeat (first | refine kN ?_ _ | refine kD ?_ | refine kA ?_ _)); refine blk_put (cs := #[.string (⟨#[]⟩ : ByteArray), .string (⟨#[]⟩ : ByteArray), .int .i64 0]) ?_ 0 _ rfl; (with_reducible repeat (first | refine kN ?_ _ | refine kD ?_ | refine kA ?_ _)); exact BK102.out) Tryd.underlying32 rfl (by kernel_rfl)) rfl ?_); (exact ⟨by first | rfl | (simp [errW_none, errW_some] <;> rfl) | (simp [*, errW_none, errW_some] <;> rfl), by repeat (first | (with_reducible first | exact HB.out | apply bA | apply bN | apply bD | refine below_set ?_ GE101.out | refine below_set ?_ GE102.out) | exact HB.out)⟩)); (· (rw [if_neg c4] at H); (exact absurd H (by simp)))
 ·replace c3 := Bool.eq_false_iff.mpr c3
  subst c3; (rw [if_neg (show ¬ (false = true) by decide)] at H); (simp only [Option.some.injEq, Prod.mk.injEq] at H); (obtain ⟨rfl, rfl, rfl, rfl⟩ := H); (go_enter Tryd.func13, Tryd.ntmps13); (go_wp2_with (first | ((with_reducible refine gate_dst (N := 1) rfl ?_); refine box_event ?hg (N := 1) ?hd (cs := #[.string a0_0, .string a0_1, .int .i64 a0_2]) (t := 32) ?hr ?_; (case hd => rfl); (case hg => rfl); (case hr => first | (go_simp; done) | (go_simp; rfl)); intro gb101 hg w12 hbox hb; have hB_ := zI hb HB; have n0_ := Aside0.mk (below_step hB_ hb); have n1_ := Aside0.mk (hbox); have n2_ := Aside0.mk (bx0 hg hB_); have n3_ := n2_; clear HB; have HB := n0_; have BK101 := n1_; have GW101 := n2_; have GE101 := n3_; clear n0_ n1_ n2_ n3_ hB_ hb hbox hg) | ((with_reducible refine gate_dst (N := 2) rfl ?_); refine box_event ?hg (N := 2) ?hd (cs := #[.string (⟨#[]⟩ : ByteArray), .string (⟨#[]⟩ : ByteArray), .int .i64 0]) (t := 32) ?hr ?_; (case hd => rfl); (case hg => rfl); (case hr => first | (go_simp; done) | (go_simp; rfl)); intro gb102 hg w13 hbox hb; have n0_ := Aside0.mk (kbI hb BK101); have hB_ := zI hb HB; have n1_ := Aside0.mk (below_step hB_ hb); have n2_ := Aside0.mk (hbox); have n3_ := Aside0.mk (bx0 hg hB_); have n4_ := n3_; have n5_ := Aside0.mk ((by rw [hg]; exact Nat.ne_of_lt (blk_lt (kI BK101)) : gb101 ≠ gb102)); have n6_ := Aside0.mk (Ne.symm n5_.out); clear BK101 HB; have BK101 := n0_; have HB := n1_; have BK102 := n2_; have GW102 := n3_; have GE102 := n4_; have NB101_102 := n5_; have NB102_101 := n6_; clear n0_ n1_ n2_ n3_ n4_ n5_ n6_ hB_ hb hbox hg; have hnb14 := NB101_102.out; have hnc14 := NB102_101.out; have hcz15_0 := cz BK101.out 0; have hcz15_1 := cz BK101.out 1; have hcz15_2 := cz BK101.out 2; have hfz15_0 := blk_frozen BK101.out 0; have hfz15_1 := blk_frozen BK101.out 1; have hfz15_2 := blk_frozen BK101.out 2) | ((with_reducible refine gate_callee (f := 14) rfl ?_); refine gL (some 5) Tryd.func14 #[.agg #[.string a0_0, .string a0_1, .int .i64 a0_2]] ?_; (with_reducible refine (impl_IsValidLog.calls k a0_0 a0_1 a0_2 false _ ?side1 A2.out).mono ?_); (case side1 => first | exact GT.below HG.out (eI HB) | (repeat (first | exact HG.out | (with_reducible first | apply GT.drewN | apply GT.drew | apply GT.alloc)))); rintro e w16 ⟨rfl, hb⟩; refine ⟨_, rfl, ?_⟩; have n0_ := Aside0.mk (kbI hb BK101); have n1_ := Aside0.mk (kbI hb BK102); have n2_ := Aside0.mk (sI hb HB); clear BK101 BK102 HB; have BK101 := n0_; have BK102 := n1_; have HB := n2_; clear n0_ n1_ n2_; (try clear hb); (try clear hb2); (try clear hk); (try clear hi); have hcz17_0 := cz BK102.out 0; have hcz17_1 := cz BK102.out 1; have hcz17_2 := cz BK102.out 2; have hfz17_0 := blk_frozen BK102.out 0; have hfz17_1 := blk_frozen BK102.out 1; have hfz17_2 := blk_frozen BK102.out 2))); (refine bodyPost_ret (results_ct rfl _ _ gb102 32 #[.string (⟨#[]⟩ : ByteArray), .string (⟨#[]⟩ : ByteArray), .int .i64 0] (0, 0) _ rfl (by (with_reducible repeat (first | refine kN ?_ _ | refine kD ?_ | refine kA ?_ _)); refine blk_put (cs := #[.string (⟨#[]⟩ : ByteArray), .string (⟨#[]⟩ : ByteArray), .int .i64 0]) ?_ 2 _ rfl; (with_reducible repeat (first | refine kN ?_ _ | refine kD ?_ | refine kA ?_ _)); refine blk_put (cs := #[.string (⟨#[]⟩ : ByteArray), .string (⟨#[]⟩ : ByteArray), .int .i64 0]) ?_ 1 _ rfl; (with_reducible repeat (first | refine kN ?_ _ | refine kD ?_ | refine kA ?_ _)); refine blk_put (cs := #[.string (⟨#[]⟩ : ByteArray), .string (⟨#[]⟩ : ByteArray), .int .i64 0]) ?_ 0 _ rfl; (with_reducible repeat (first | refine kN ?_ _ | refine kD ?_ | refine kA ?_ _)); exact BK102.out) Tryd.underlying32 rfl (by kernel_rfl)) rfl ?_); (exact ⟨by first | rfl | (simp [errW_none, errW_some] <;> rfl) | (simp [*, errW_none, errW_some] <;> rfl), by repeat (first | (with_reducible first | exact HB.out | apply bA | apply bN | apply bD | refine below_set ?_ GE101.out | refine below_set ?_ GE102.out) | exact HB.out)⟩)
/-! ### spec_RecoverLog: function 12 -/
def spec_RecoverLog.f (k : Nat) (a0 : ByteArray) : Option (ByteArray × ByteArray × Int × Int × Bool) := if (a0.size : Int) > 30000 then (some ((⟨#[]⟩ : ByteArray), (⟨#[]⟩ : ByteArray), 0, 0, false)) else ((spec_l27Open.f k a0).bind fun bt102 => (if 0 ≤ bt102.2 then (if bt102.2 ≤ (a0.size : Int) then (some (a0.extract 0 (bt102.2 : Int).toNat, (⟨#[]⟩ : ByteArray), (bt102.1.length : Int), bt102.2, true)) else (none)) else (none)))
set_option maxHeartbeats 8000000 in
set_option maxRecDepth 100000 in
theorem spec_RecoverLog.calls (k : Nat) (a0 : ByteArray) (r1 : ByteArray) (r2 : ByteArray) (r3 : Int) (r4 : Int) (r5 : Bool) (w : World) (h : spec_RecoverLog.f k a0 = some (r1, r2, r3, r4, r5)) :
  Calls Tryd.prog 12 #[.string a0] w fun e w' => e = .returned (.tuple #[.agg #[.string r1, .string r2, .int .i64 r3], .int .i64 r4, .bool r5]) ∧ Below w.heap.size w w' := by
 (have hu32 := Tryd.underlying32); (have HB := Aside0.mk (Below.refl w.heap.size w)); (unfold spec_RecoverLog.f at h); (have H := h); clear h; (by_cases c2 : (a0.size : Int) > 30000); (· (rw [if_pos c2] at H); (have c2b0 : decide (30000 < (a0.size : Int)) = true := decide_eq_true c2); (have c2b1 : decide (30000 < a0.size) = true := decide_eq_true (by omega)); clear c2; (simp only [Option.some.injEq, Prod.mk.injEq] at H); (obtain ⟨rfl, rfl, rfl, rfl, rfl⟩ := H); (go_enter Tryd.func12, Tryd.ntmps12); (go_wp2_with (first | ((with_reducible refine gate_dst (N := 2) rfl ?_); refine box_event ?hg (N := 2) ?hd (cs := #[.string (⟨#[]⟩ : ByteArray), .string (⟨#[]⟩ : ByteArray), .int .i64 0]) (t := 32) ?hr ?_; (case hd => rfl); (case hg => rfl); (case hr => first | (go_simp; done) | (go_simp; rfl)); intro gb101 hg w3 hbox hb; have hB_ := zI hb HB; have n0_ := Aside0.mk (below_step hB_ hb); have n1_ := Aside0.mk (hbox); have n2_ := Aside0.mk (bx0 hg hB_); have n3_ := n2_; clear HB; have HB := n0_; have BK101 := n1_; have GW101 := n2_; have GE101 := n3_; clear n0_ n1_ n2_ n3_ hB_ hb hbox hg; have hcz4_0 := cz BK101.out 0; have hcz4_1 := cz BK101.out 1; have hcz4_2 := cz BK101.out 2; have hfz4_0 := blk_frozen BK101.out 0; have hfz4_1 := blk_frozen BK101.out 1; have hfz4_2 := blk_frozen BK101.out 2))); (refine bodyPost_ret (results_ctt rfl _ _ gb101 32 #[.string (⟨#[]⟩ : ByteArray), .string (⟨#[]⟩ : ByteArray), .int .i64 0] (0, 0) _ rfl (by (with_reducible repeat (first | refine kN ?_ _ | refine kD ?_ | refine kA ?_ _)); refine blk_put (cs := #[.string (⟨#[]⟩ : ByteArray), .string (⟨#[]⟩ : ByteArray), .int .i64 0]) ?_ 2 _ rfl; (with_reducible repeat (first | refine kN ?_ _ | refine kD ?_ | refine kA ?_ _)); refine blk_put (cs := #[.string (⟨#[]⟩ : ByteArray), .string (⟨#[]⟩ : ByteArray), .int .i64 0]) ?_ 1 _ rfl; (with_reducible repeat (first | refine kN ?_ _ | refine kD ?_ | refine kA ?_ _)); refine blk_put (cs := #[.string (⟨#[]⟩ : ByteArray), .string (⟨#[]⟩ : ByteArray), .int .i64 0]) ?_ 0 _ rfl; (with_reducible repeat (first | refine kN ?_ _ | refine kD ?_ | refine kA ?_ _)); exact BK101.out) Tryd.underlying32 rfl (by kernel_rfl)) rfl ?_); (exact ⟨by first | rfl | (simp [errW_none, errW_some] <;> rfl) | (simp [*, errW_none, errW_some] <;> rfl), by repeat (first | (with_reducible first | exact HB.out | apply bA | apply bN | apply bD | refine below_set ?_ GE101.out) | exact HB.out)⟩))
 ·rw [if_neg c2] at H
  (have c2b0 : decide (30000 < (a0.size : Int)) = false := decide_eq_false c2); (have c2b1 : decide (30000 < a0.size) = false := decide_eq_false (by omega)); clear c2; (replace H := obS H); (obtain ⟨⟨t102, t103⟩, A5, H⟩ := H); (replace H : (if 0 ≤ t103 then (if t103 ≤ (a0.size : Int) then (some (a0.extract 0 (t103 : Int).toNat, (⟨#[]⟩ : ByteArray), (t102.length : Int), t103, true)) else (none)) else (none)) = some (r1, r2, r3, r4, r5) := H); (by_cases c6 : 0 ≤ t103)
  ·rw [if_pos c6] at H
   (have c6b0 := eq_true c6); (have c6b1 := decide_eq_true c6); clear c6; (by_cases c7 : t103 ≤ (a0.size : Int)); (· (rw [if_pos c7] at H); (have c7b0 := eq_true c7); (have c7b1 := decide_eq_true c7); clear c7; (simp only [Option.some.injEq, Prod.mk.injEq] at H); (obtain ⟨rfl, rfl, rfl, rfl, rfl⟩ := H); (go_enter Tryd.func12, Tryd.ntmps12); (go_wp2_with (first | ((with_reducible refine gate_dst (N := 2) rfl ?_); refine box_event ?hg (N := 2) ?hd (cs := #[.string (⟨#[]⟩ : ByteArray), .string (⟨#[]⟩ : ByteArray), .int .i64 0]) (t := 32) ?hr ?_; (case hd => rfl); (case hg => rfl); (case hr => first | (go_simp; done) | (go_simp; rfl)); intro gb101 hg w8 hbox hb; have hB_ := zI hb HB; have n0_ := Aside0.mk (below_step hB_ hb); have n1_ := Aside0.mk (hbox); have n2_ := Aside0.mk (bx0 hg hB_); have n3_ := n2_; clear HB; have HB := n0_; have BK101 := n1_; have GW101 := n2_; have GE101 := n3_; clear n0_ n1_ n2_ n3_ hB_ hb hbox hg) | ((with_reducible refine gate_callee (f := 39) rfl ?_); refine gL (some 13) Tryd.func39 #[.string a0] ?_; (with_reducible refine (spec_l27Open.calls k a0 t102 t103 _ A5.out).mono ?_); rintro e w9 ⟨v104, rfl, ho0, hb⟩; refine ⟨_, rfl, ?_⟩; have n0_ := Aside0.mk (Kd.R_lower ho0 (below_size (eI HB))); have n1_ := Aside0.mk (kbI hb BK101); have n2_ := Aside0.mk (sI hb HB); clear BK101 HB; have HO105 := n0_; have BK101 := n1_; have HB := n2_; clear n0_ n1_ n2_; (try clear hb); (try clear hb2); (try clear hk); (try clear hi); (try clear ho0); obtain ⟨Ao10, co10, eo10⟩ := Kd.R_slice HO105.out; subst eo10; have hcz11_0 := cz BK101.out 0; have hcz11_1 := cz BK101.out 1; have hcz11_2 := cz BK101.out 2; have hfz11_0 := blk_frozen BK101.out 0; have hfz11_1 := blk_frozen BK101.out 1; have hfz11_2 := blk_frozen BK101.out 2))); (refine bodyPost_ret (results_ctt rfl _ _ gb101 32 #[.string (a0.extract 0 (t103 : Int).toNat), .string (⟨#[]⟩ : ByteArray), .int .i64 (t102.length : Int)] (0, 0) _ rfl (by (with_reducible repeat (first | refine kN ?_ _ | refine kD ?_ | refine kA ?_ _)); refine blk_put (cs := #[.string (a0.extract 0 (t103 : Int).toNat), .string (⟨#[]⟩ : ByteArray), .int .i64 0]) ?_ 2 _ rfl; (with_reducible repeat (first | refine kN ?_ _ | refine kD ?_ | refine kA ?_ _)); refine blk_put (cs := #[.string (a0.extract 0 (t103 : Int).toNat), .string (⟨#[]⟩ : ByteArray), .int .i64 0]) ?_ 1 _ rfl; (with_reducible repeat (first | refine kN ?_ _ | refine kD ?_ | refine kA ?_ _)); refine blk_put (cs := #[.string (⟨#[]⟩ : ByteArray), .string (⟨#[]⟩ : ByteArray), .int .i64 0]) ?_ 0 _ rfl; (with_reducible repeat (first | refine kN ?_ _ | refine kD ?_ | refine kA ?_ _)); exact BK101.out) Tryd.underlying32 rfl (by kernel_rfl)) rfl ?_); (exact ⟨by first | rfl | (simp [errW_none, errW_some] <;> rfl) | (simp [*, errW_none, errW_some] <;> rfl), by repeat (first | (with_reducible first | exact HB.out | apply bA | apply bN | apply bD | refine below_set ?_ GE101.out) | exact HB.out)⟩)); (· (rw [if_neg c7] at H); (exact absurd H (by simp)))
  ·rw [if_neg c6] at H
   exact absurd H (by simp)

end Go.Proofs.YtkdibcifamlciaaDoor.X
set_option linter.unusedVariables false
set_option linter.unusedSimpArgs false
namespace Go.Proofs.YtkdibcifamlciaaDoor.X
open Go.RowKit Go.Proofs.YtkdibcifamlciaaDoorW.PrintWords Go.Proofs.YtkdibcifamlciaaDoor.E
abbrev LR := S25
abbrev nilB : ByteArray := ⟨#[]⟩
structure GoodL (D P : ByteArray) (n : Int) (L : List LR) : Prop where
  small : D.size + P.size ≤ 30000
  dur : ∃ L1, Parse 0 D L1 nilB
  all : Parse 0 (D ++ P) L nilB
  count : (L.length : Int) = n
theorem goodL_count {D P : ByteArray} {n : Int} {L : List LR} (h : GoodL D P n L) : 0 ≤ n ∧ n ≤ 60 := by
  have := (parse_len L 0 _ _ h.all (by omega)).1
  have := h.count
  omega
theorem log_iff (D P : ByteArray) (n : Int) (hs : D.size + P.size ≤ 4194304) : ∃ b L, Ev (fun k => spec_l27Log.f k D P n) b ∧ Ev (fun k => impl_readLog.f k D P n) (L, b) ∧ (b = true → GoodL D P n L) ∧ (∀ L', GoodL D P n L' → b = true ∧ L' = L) := by
  obtain ⟨b, L0, h1, h2, h3⟩ := log_ev D P n hs
  obtain ⟨L, t, hL⟩ := parse_ex (D ++ P).size (D ++ P) 0 (Nat.le_refl _)
  obtain ⟨L1, t1, hL1⟩ := parse_ex D.size D 0 (Nat.le_refl _)
  have hz : (D ++ P).size = D.size + P.size := ByteArray.size_append
  have hzL := parse_size L 0 _ t hL
  have hzL1 := parse_size L1 0 _ t1 hL1
  have hw : wrap64 ((D.size : Int) + (P.size : Int)) = (D.size : Int) + (P.size : Int) := wrap_id (by omega) (by omega)
  have hnz : (nilB).size = 0 := rfl
  have hspec : Ev (fun k => spec_l27Log.f k D P n) (if D.size + P.size ≤ 30000 then (if sizeL 0 L = D.size + P.size then (if sizeL 0 L1 = D.size then ((L.length : Int) == n) else false) else false) else false) := by
    unfold spec_l27Log.f
    rw [hw]
    by_cases c : D.size + P.size ≤ 30000
    · rw [if_pos c]
      refine ev_neg (by omega) (ev_pos (by omega) (Ev.bind (specOpen_ev _ L t hL (by omega)) (Ev.bind (specOpen_ev _ L1 t1 hL1 (by omega)) ?_)))
      by_cases c1 : sizeL 0 L = D.size + P.size
      · rw [if_pos c1]
        refine ev_pos (by omega) ?_
        by_cases c2 : sizeL 0 L1 = D.size
        · rw [if_pos c2]
          exact ev_pos (by omega) (ev_now rfl)
        · rw [if_neg c2]
          exact ev_neg (by omega) (ev_now rfl)
      · rw [if_neg c1]
        exact ev_neg (by omega) (ev_now rfl)
    · rw [if_neg c]
      exact ev_pos (by omega) (ev_now rfl)
  have hb := ev_unique h1 hspec
  refine ⟨b, L0, h1, h2, fun e => ?_, fun L' g => ?_⟩
  · obtain ⟨g1, g2⟩ := h3 e
    rw [e] at hb
    by_cases c : D.size + P.size ≤ 30000
    · rw [if_pos c] at hb
      by_cases c1 : sizeL 0 L = D.size + P.size
      · rw [if_pos c1] at hb
        by_cases c2 : sizeL 0 L1 = D.size
        · refine ⟨c, ⟨L1, ?_⟩, g1, g2⟩
          have : t1 = nilB := size_nil (by omega)
          rw [← this]
          exact hL1
        · rw [if_neg c2] at hb; cases hb
      · rw [if_neg c1] at hb; cases hb
    · rw [if_neg c] at hb; cases hb
  · obtain ⟨g1, ⟨M1, g2⟩, g3, g4⟩ := g
    obtain ⟨rfl, rfl⟩ := parse_uniq _ _ 0 _ _ _ hL g3
    obtain ⟨rfl, rfl⟩ := parse_uniq _ _ 0 _ _ _ hL1 g2
    rw [if_pos g1, if_pos (by omega), if_pos (by omega), g4, beq_self_eq_true] at hb
    refine ⟨hb, ?_⟩
    exact (parse_uniq _ _ 0 _ _ _ (h3 hb).1 g3).1.symm
theorem valid_iff (D P : ByteArray) (n : Int) (hs : D.size + P.size ≤ 4194304) : ∃ b L, Ev (fun k => spec_l27Log.f k D P n) b ∧ Ev (fun k => impl_IsValidLog.f k D P n) b ∧ Ev (fun k => impl_readLog.f k D P n) (L, b) ∧ (b = true → GoodL D P n L) ∧ (∀ L', GoodL D P n L' → b = true ∧ L' = L) := by
  obtain ⟨b, L, h1, h2, h3, h4⟩ := log_iff D P n hs
  exact ⟨b, L, h1, Ev.bind h2 (ev_now rfl), h2, h3, h4⟩
/-- A record's line. -/
def lnN (n : Int) (s r : ByteArray) : ByteArray := sealB (lineB n s r) ++ (⟨#[10]⟩ : ByteArray)
theorem lnN_size (n : Int) (s r : ByteArray) (h : 0 ≤ n ∧ n ≤ 59) (hr : recB s r = true) : (lnN n s r).size ≤ 425 := by
  obtain ⟨hs1, _, _, hr1⟩ := recB_iff hr
  have hl := line_size n s r h.1 h.2 hs1.2 hr1
  have h2 := sum_size (lineB n s r)
  unfold lnN sealB
  simp only [ByteArray.size_append, szl]
  omega
theorem append_cases (D P : ByteArray) (n : Int) (s r : ByteArray) (hz : D.size + P.size ≤ 4194304) (hs : s.size ≤ 9223372036854775807) (hr : r.size ≤ 9223372036854775807) : ∃ v, Ev (fun k => spec_AppendRecord.f k D P n s r) v ∧ Ev (fun k => impl_AppendRecord.f k D P n s r) v ∧ (v = (D, P, n, 1) ∨ v = (D, P, n, 2) ∨ ∃ L, GoodL D P n L ∧ recB s r = true ∧ (0 ≤ n ∧ n ≤ 59) ∧ v = (D, P ++ lnN n s r, n + 1, 0)) := by
  obtain ⟨b, L, h1, h2', h2, h3, h4⟩ := valid_iff D P n hz
  cases b
  · exact ⟨(D, P, n, 1), Ev.bind h1 (ev_neg (by simp) (Ev.step (fun k => rfl) (ev_now rfl))), Ev.bind h2' (ev_neg (by simp) (Ev.step (fun k => rfl) (ev_now rfl))), .inl rfl⟩
  have G := h3 rfl
  have hcn := goodL_count G
  have g1 := l27Good_ev s r hs hr
  have g2 := implRec_ev s r hs hr
  have henc := implEnc_ev n s r hs hr
  by_cases hrec : recB s r = true
  case neg =>
    rw [Bool.not_eq_true] at hrec
    exact ⟨(D, P, n, 1), Ev.bind h1 (ev_pos rfl (Ev.bind g1 (Ev.step (fun k => rfl) (ev_pos (by rw [hrec]; rfl) (ev_now rfl))))), Ev.bind h2' (ev_pos rfl (Ev.bind g2 (Ev.step (fun k => rfl) (ev_pos (by rw [hrec]; rfl) (ev_now rfl))))), .inl rfl⟩
  by_cases h60 : n = 60
  · have hno : encOk n s r = false := by unfold encOk; rw [decide_eq_false (by omega)]; rfl
    rw [encE, if_neg (by rw [hno]; simp)] at henc
    exact ⟨(D, P, n, 2), Ev.bind h1 (ev_pos rfl (Ev.bind g1 (Ev.step (fun k => rfl) (ev_neg (by rw [hrec]; simp) (ev_pos h60 (ev_now rfl)))))), Ev.bind h2' (ev_pos rfl (Ev.bind g2 (Ev.step (fun k => rfl) (ev_neg (by rw [hrec]; simp) (Ev.bind henc (ev_neg (by simp) (ev_now rfl))))))), .inr (.inl rfl)⟩
  · have hok : encOk n s r = true := by unfold encOk; rw [decide_eq_true (by omega), hrec]; rfl
    obtain ⟨hs1, hls, hlr, hr1⟩ := recB_iff hrec
    have hl := lnN_size n s r (by omega) hrec
    have hb : P.size + (sealB (lineB n s r) ++ (⟨#[10]⟩ : ByteArray)).size ≤ 9223372036854775807 := by unfold lnN at hl; omega
    have hw : wrap64 (n + 1) = n + 1 := wrap_id (by omega) (by omega)
    rw [encE, if_pos hok] at henc
    exact ⟨(D, P ++ lnN n s r, n + 1, 0), Ev.bind h1 (ev_pos rfl (Ev.bind g1 (Ev.step (fun k => rfl) (ev_neg (by rw [hrec]; simp) (ev_neg h60 (Ev.bind (l27Line_ev n s r (by omega) (by omega) hs1.2 hr1) (ev_pos hb (ev_now (by rw [hw]; rfl))))))))), Ev.bind h2' (ev_pos rfl (Ev.bind g2 (Ev.step (fun k => rfl) (ev_neg (by rw [hrec]; simp) (Ev.bind henc (ev_pos rfl (ev_pos hb (ev_now (by rw [hw]; rfl))))))))), .inr (.inr ⟨L, G, hrec, by omega, rfl⟩)⟩
theorem sync_cases (D P : ByteArray) (n : Int) (hz : D.size + P.size ≤ 4194304) : (∃ L, GoodL D P n L ∧ Ev (fun k => spec_SyncLog.f k D P n) (D ++ P, nilB, n, true) ∧ Ev (fun k => impl_SyncLog.f k D P n) (D ++ P, nilB, n, true)) ∨ ((∀ L, ¬ GoodL D P n L) ∧ Ev (fun k => spec_SyncLog.f k D P n) (nilB, nilB, 0, false) ∧ Ev (fun k => impl_SyncLog.f k D P n) (nilB, nilB, 0, false)) := by
  obtain ⟨b, L, h1, h2', h2, h3, h4⟩ := valid_iff D P n hz
  cases b
  · exact .inr ⟨fun L' g => (by cases (h4 L' g).1), Ev.bind h1 (ev_neg (by simp) (ev_now rfl)), Ev.bind h2' (ev_neg (by simp) (ev_now rfl))⟩
  · exact .inl ⟨L, h3 rfl, Ev.bind h1 (ev_pos rfl (ev_pos (by omega) (ev_now rfl))), Ev.bind h2' (ev_pos rfl (ev_pos (by omega) (ev_now rfl)))⟩
theorem ext_nil0 (s : ByteArray) : s.extract 0 0 = nilB := by
  apply ba_list
  rw [ByteArray.data_extract, Array.toList_extract, List.extract_eq_take_drop]
  rfl
theorem implRec_ev2 (s : ByteArray) (L : List LR) (t : ByteArray) (h : Parse 0 s L t) (hs : ¬ (s.size : Int) > 30000) : Ev (fun k => impl_RecoverLog.f k s) (s.extract 0 (sizeL 0 L), nilB, (L.length : Int), (sizeL 0 L : Int), true) := by
  have hz := parse_size L 0 s t h
  unfold impl_RecoverLog.f
  refine ev_neg hs (Ev.bind (implRead_ev s L t h (by omega)) ?_)
  rcases L with _ | ⟨e, L⟩
  · refine ev_neg (by simp [endsL]) (ev_pos (by omega) (ev_pos (by omega) (ev_now ?_)))
    rw [show sizeL 0 ([] : List LR) = 0 from rfl, ext_nil0]
    rfl
  · have hl := ends_len (e :: L) 0 0
    have hla := ends_last (e :: L) 0 0 (by simp)
    have hlen : (e :: L).length = L.length + 1 := rfl
    have hb := (parse_len (e :: L) 0 s t h (by omega)).1
    have hw : wrap64 (((endsL 0 0 (e :: L)).length : Int) - 1) = (((e :: L).length - 1 : Nat) : Int) := by rw [hl]; exact wrap_pred (by omega) (by omega)
    have hr : rd (endsL 0 0 (e :: L)) (((e :: L).length - 1 : Nat) : Int) = (sizeL 0 (e :: L) : Int) := by rw [rd_nat, hla, Nat.zero_add]
    refine ev_pos (by simp only [hl]; omega) ?_
    simp only [hw, hr, Int.toNat_natCast]
    refine ev_pos (by omega) (ev_pos (by omega) (ev_pos (by omega) (ev_pos (by omega) (ev_now rfl))))
theorem parse_pre : ∀ (L : List LR) (k : Nat) (s t : ByteArray), Parse k s L t → ∃ p, s = p ++ t ∧ Parse k p L nilB
  | [], k, s, t, h => ⟨nilB, by rw [h.1]; exact nil_app t, rfl, stop_nil k⟩
  | e :: L, k, s, t, h => by
    obtain ⟨a, b, rfl, ha, he, hp⟩ := h
    obtain ⟨p, rfl, h2⟩ := parse_pre L (k + 1) b t hp
    exact ⟨cat a 10 p, (app_cat a 10 p t).symm, a, p, rfl, ha, he, h2⟩
/-- What is recovered is a valid log. -/
theorem good_recover {s t : ByteArray} {L : List LR} (h : Parse 0 s L t) (hs : s.size ≤ 30000) : GoodL (s.extract 0 (sizeL 0 L)) nilB (L.length : Int) L := by
  obtain ⟨p, rfl, hp⟩ := parse_pre L 0 s t h
  have hz := parse_size L 0 _ _ hp
  have hnz : (nilB).size = 0 := rfl
  have e : (p ++ t).extract 0 (sizeL 0 L) = p := by rw [show sizeL 0 L = p.size by omega]; exact ByteArray.extract_append_eq_left rfl
  have e2 : p ++ nilB = p := ba_list (by rw [ba_app]; simp)
  have hs2 : p.size + t.size ≤ 30000 := by rw [← ByteArray.size_append]; exact hs
  rw [e]
  exact ⟨by omega, ⟨L, hp⟩, by rw [e2]; exact hp, rfl⟩
end Go.Proofs.YtkdibcifamlciaaDoor.X
set_option linter.unusedVariables false
set_option linter.unusedSimpArgs false
namespace Go.Proofs.YtkdibcifamlciaaDoor.X
open Go.RowKit Go.Proofs.YtkdibcifamlciaaDoorW.PrintWords Go.Proofs.YtkdibcifamlciaaDoor.E
theorem rep3 : (strOfNums (List.replicate 3 0)).size ≤ 12 := by
  unfold strOfNums
  first | decide | simp
theorem logRecord_tot {l : List Int} {a : Int} (s : Int) (h : Cu l a) (hb : a ≤ 999900) : ∃ c r a' s', spec_l1Cur_logRecord.f l a s = some (c, r, a', s') ∧ c.size ≤ 12 ∧ r.size ≤ 12 ∧ Cu l a' ∧ (a ≤ a' ∧ a' ≤ a + 8) := by
  unfold spec_l1Cur_logRecord.f
  obtain ⟨v1, a1, s1, e1, m1, c1, b1⟩ := of_tot s [(⟨#[99, 111, 117, 110, 116]⟩ : ByteArray), (⟨#[115, 111, 114, 116, 32, 109, 101, 114, 103, 101]⟩ : ByteArray), (⟨#[120]⟩ : ByteArray), (⟨#[115, 101, 108, 101, 99, 116, 32, 50]⟩ : ByteArray), (⟨#[48, 32, 49]⟩ : ByteArray)] (by decide) h (by omega)
  obtain ⟨v2, a2, s2, e2, m2, c2, b2⟩ := of_tot s1 [(⟨#[]⟩ : ByteArray), (⟨#[51]⟩ : ByteArray), (⟨#[63]⟩ : ByteArray), (⟨#[97, 64, 98]⟩ : ByteArray), (⟨#[51, 32, 49, 32, 50]⟩ : ByteArray)] (by decide) c1 (by omega)
  obtain ⟨v3, a3, s3, e3, n3, c3, b3⟩ := pick_in s2 24 (by omega) c2 (by omega)
  have z1 : v1.size ≤ 12 := by
    simp only [List.mem_cons, List.mem_nil_iff, or_false] at m1
    rcases m1 with rfl | rfl | rfl | rfl | rfl <;> decide
  have z2 : v2.size ≤ 12 := by
    simp only [List.mem_cons, List.mem_nil_iff, or_false] at m2
    rcases m2 with rfl | rfl | rfl | rfl | rfl <;> decide
  rw [e1, Option.bind_some]
  dsimp only
  rw [e2, Option.bind_some]
  dsimp only
  rw [e3, Option.bind_some]
  dsimp only
  by_cases d0 : v3 = 0
  · obtain ⟨v4, a4, s4, e4, m4, c4, b4⟩ := of_tot s3 [(⟨#[]⟩ : ByteArray), (⟨#[97, 64, 98]⟩ : ByteArray), (⟨#[97, 35]⟩ : ByteArray), (⟨#[10]⟩ : ByteArray), strOfNums (List.replicate 3 0)] (by decide) c3 (by omega)
    have z4 : v4.size ≤ 12 := by
      simp only [List.mem_cons, List.mem_nil_iff, or_false] at m4
      rcases m4 with rfl | rfl | rfl | rfl | rfl
      · decide
      · decide
      · decide
      · decide
      · exact rep3
    rw [if_pos d0, if_pos (by omega), e4, Option.bind_some]
    exact ⟨_, _, _, _, rfl, z4, z2, c4, by dsimp only; omega, by dsimp only; omega⟩
  rw [if_neg d0]
  by_cases d1 : v3 = 1
  · obtain ⟨v4, a4, s4, e4, m4, c4, b4⟩ := of_tot s3 [(⟨#[35]⟩ : ByteArray), (⟨#[10]⟩ : ByteArray), (⟨#[127]⟩ : ByteArray)] (by decide) c3 (by omega)
    have z4 : v4.size ≤ 12 := by
      simp only [List.mem_cons, List.mem_nil_iff, or_false] at m4
      rcases m4 with rfl | rfl | rfl <;> decide
    rw [if_pos d1, e4, Option.bind_some]
    exact ⟨_, _, _, _, rfl, z1, z4, c4, by dsimp only; omega, by dsimp only; omega⟩
  rw [if_neg d1]
  exact ⟨_, _, _, _, rfl, z1, z2, c3, by omega, by omega⟩
theorem append_tot (D P : ByteArray) (n : Int) (s r : ByteArray) (hz : D.size + P.size ≤ 4194304) (hs : s.size ≤ 1000) (hr : r.size ≤ 1000) : ∃ P' n' co, Ev (fun k => spec_AppendRecord.f k D P n s r) (D, P', n', co) ∧ P'.size ≤ P.size + 425 := by
  obtain ⟨v, h, _, c⟩ := append_cases D P n s r hz (by omega) (by omega)
  rcases c with rfl | rfl | ⟨L, g, hrec, hn, rfl⟩
  · exact ⟨_, _, _, h, by omega⟩
  · exact ⟨_, _, _, h, by omega⟩
  · have := lnN_size n s r hn hrec
    exact ⟨_, _, _, h, by rw [ByteArray.size_append]; omega⟩
theorem sync_tot (D P : ByteArray) (n : Int) (hz : D.size + P.size ≤ 4194304) : ∃ D' n' o, Ev (fun k => spec_SyncLog.f k D P n) (D', nilB, n', o) ∧ D'.size ≤ D.size + P.size := by
  rcases sync_cases D P n hz with ⟨L, g, h, _⟩ | ⟨_, h, _⟩
  · exact ⟨_, _, _, h, by rw [ByteArray.size_append]; omega⟩
  · have hnz : (nilB).size = 0 := rfl
    exact ⟨_, _, _, h, by omega⟩
theorem log_tot {l : List Int} (m : Nat) : ∀ (a s : Int) (D P : ByteArray) (n : Int), m ≤ 10 → Cu l a → a + 20 * m ≤ 999000 → D.size + P.size ≤ 425 * (10 - m) → ∃ D' P' n' a' s', Ev (fun k => spec_l1Cur_log.l0 k (m : Int) l a s D P n) (D', P', n', a', s') ∧ D'.size + P'.size ≤ 4250 ∧ Cu l a' ∧ (a ≤ a' ∧ a' ≤ a + 20 * m) := by
  induction m with
  | zero =>
    intro a s D P n hm hc ha hz
    exact ⟨_, _, _, _, _, Ev.step (fun k => rfl) (ev_neg (by omega) (ev_now rfl)), by omega, hc, by omega, by omega⟩
  | succ m ih =>
    intro a s D P n hm hc ha hz
    obtain ⟨c, r, a1, s1, e1, z1, z2, c1, b1⟩ := logRecord_tot s hc (by omega)
    obtain ⟨P1, n1, co, h1, hp1⟩ := append_tot D P n c r (by omega) (by omega) (by omega)
    obtain ⟨b, a2, s2, e2, c2, b2⟩ := one_tot s1 4 c1 (by omega)
    have hw : wrap64 (((m + 1 : Nat) : Int) - 1) = (m : Int) := by rw [wrap_id (by omega) (by omega)]; omega
    cases b
    · obtain ⟨D', P', n', a', s', h, hz', c', b'⟩ := ih a2 s2 D P1 n1 (by omega) c2 (by omega) (by omega)
      refine ⟨D', P', n', a', s', Ev.step (fun k => rfl) (ev_pos (by omega) (ev_bind0 e1 (Ev.bind h1 (ev_bind0 e2 (ev_neg (by simp) ?_))))), hz', c', by omega, by omega⟩
      rw [hw]
      exact h
    · obtain ⟨D2, n2, o, h2, hp2⟩ := sync_tot D P1 n1 (by omega)
      have hnz : (nilB).size = 0 := rfl
      obtain ⟨D', P', n', a', s', h, hz', c', b'⟩ := ih a2 s2 D2 nilB n2 (by omega) c2 (by omega) (by omega)
      refine ⟨D', P', n', a', s', Ev.step (fun k => rfl) (ev_pos (by omega) (ev_bind0 e1 (Ev.bind h1 (ev_bind0 e2 (ev_pos rfl (Ev.bind h2 ?_)))))), hz', c', by omega, by omega⟩
      rw [hw]
      exact h
theorem logF_tot {l : List Int} {a : Int} (s : Int) (h : Cu l a) (hb : a ≤ 900000) : ∃ D P n a' s', Ev (fun k => spec_l1Cur_log.f k l a s) (D, P, n, a', s') ∧ D.size + P.size ≤ 4250 ∧ Cu l a' ∧ (a ≤ a' ∧ a' ≤ a + 300) := by
  obtain ⟨v, a1, s1, e1, h0, c1, b1⟩ := pick_in s 7 (by omega) h (by omega)
  obtain ⟨m, rfl⟩ : ∃ m : Nat, v = (m : Int) := ⟨v.toNat, by omega⟩
  have hnz : (nilB).size = 0 := rfl
  obtain ⟨D, P, n, a', s', h1, h2, h3, h4⟩ := log_tot (l := l) m a1 s1 nilB nilB 0 (by omega) c1 (by omega) (by omega)
  exact ⟨D, P, n, a', s', ev_bind0 e1 h1, h2, h3, by omega, by omega⟩
theorem anyLog_tot {l : List Int} {a : Int} (s : Int) (h : Cu l a) (hb : a ≤ 900000) : ∃ D P n a' s', Ev (fun k => spec_l1Cur_anyLog.f k l a s) (D, P, n, a', s') ∧ D.size + P.size ≤ 20000 ∧ Cu l a' ∧ (a ≤ a' ∧ a' ≤ a + 400) := by
  obtain ⟨D, P, n, a1, s1, h1, z1, c1, b1⟩ := logF_tot s h hb
  obtain ⟨v, a2, s2, e2, h0, c2, b2⟩ := pick_in s1 24 (by omega) c1 (by omega)
  unfold spec_l1Cur_anyLog.f
  by_cases d0 : v = 0
  · exact ⟨D, P, wrap64 (n + 1), a2, s2, Ev.bind h1 (ev_bind0 e2 (ev_pos d0 (ev_now rfl))), by omega, c2, by omega, by omega⟩
  by_cases d1 : v = 1
  · obtain ⟨t, a3, s3, e3, z3, c3, b3⟩ := spoilt_tot s2 P (⟨#[35, 64, 10, 48, 49]⟩ : ByteArray) (by decide) (by omega) (by decide) c2 (by omega)
    exact ⟨D, t, n, a3, s3, Ev.bind h1 (ev_bind0 e2 (ev_neg d0 (ev_pos d1 (ev_bind0 e3 (ev_now rfl))))), by omega, c3, by omega, by omega⟩
  by_cases d2 : v = 2
  · exact ⟨D ++ P, P, n, a2, s2, Ev.bind h1 (ev_bind0 e2 (ev_neg d0 (ev_neg d1 (ev_pos d2 (ev_pos (by dsimp only; omega) (ev_now rfl)))))), by rw [ByteArray.size_append]; omega, c2, by omega, by omega⟩
  · exact ⟨D, P, n, a2, s2, Ev.bind h1 (ev_bind0 e2 (ev_neg d0 (ev_neg d1 (ev_neg d2 (ev_now rfl))))), by omega, c2, by omega, by omega⟩
/-- The cursor at the start. -/
theorem cu_start {l : List Int} (h : l.length ≤ 9223372036854775807 ∧ ∀ y ∈ l, (Lit.int .u8 y).wf = true) : Cu l 0 := by
  refine ⟨h.1, fun y hy => ?_, by omega, by omega⟩
  have := h.2 y hy
  simp only [Lit.wf, Bool.and_eq_true, decide_eq_true_eq] at this
  exact this
end Go.Proofs.YtkdibcifamlciaaDoor.X
set_option linter.unusedVariables false
set_option linter.unusedSimpArgs false
namespace Go.Proofs.YtkdibcifamlciaaDoor.X
open Go.RowKit Go.Proofs.YtkdibcifamlciaaDoorW.PrintWords Go.Proofs.YtkdibcifamlciaaDoor.E
/-- A line's bytes are small. -/
def low (l : List UInt8) : Prop := ∀ c ∈ l, c.toNat ≤ 127 ∧ 32 ≤ c.toNat
theorem low_app {a b : List UInt8} : low (a ++ b) ↔ low a ∧ low b := by
  unfold low
  constructor
  · exact fun h => ⟨fun c hc => h c (List.mem_append_left _ hc), fun c hc => h c (List.mem_append_right _ hc)⟩
  · rintro ⟨h1, h2⟩ c hc
    rcases List.mem_append.1 hc with h | h
    · exact h1 c h
    · exact h2 c h
theorem low_dig : ∀ (u : Nat), low (Lib.decDigits u) := by
  have d10 : ∀ i : Fin 10, (UInt8.ofNat (48 + i.val)).toNat ≤ 127 ∧ 32 ≤ (UInt8.ofNat (48 + i.val)).toNat := by decide
  intro u
  induction u using Nat.strongRecOn with
  | _ u ih =>
    by_cases h : u < 10
    · rw [Lib.decDigits_one h]
      intro c hc
      rw [List.mem_singleton.1 hc]
      exact d10 ⟨u, h⟩
    · rw [Lib.decDigits, dif_neg h]
      refine low_app.2 ⟨ih (u / 10) (by omega), fun c hc => ?_⟩
      rw [List.mem_singleton.1 hc]
      exact d10 ⟨u % 10, by omega⟩
theorem low_num (v : Int) : low (numB v).data.toList := by
  unfold numB
  show low (Lib.itoa v)
  unfold Lib.itoa
  split
  · intro c hc
    rcases List.mem_cons.1 hc with rfl | h
    · decide
    · exact low_dig _ c h
  · exact low_dig _
theorem low_log (s : ByteArray) (h : logB s = true) : low s.data.toList := by
  intro c hm
  obtain ⟨i, hi, e⟩ := List.getElem_of_mem hm
  have hl : s.data.toList.length = s.size := by rw [Array.length_toList]; rfl
  have := all_range.1 h i (by omega)
  simp only [logAt, decide_eq_true_eq] at this
  rw [bt_get s i hi, e] at this
  omega
theorem low_enc {k : Int} {a c r : ByteArray} (h : Enc k a c r) : low a.data.toList := by
  obtain ⟨_, hr, rfl⟩ := h
  obtain ⟨_, h1, h2, _⟩ := recB_iff hr
  have one : ∀ x : UInt8, x.toNat ≤ 127 ∧ 32 ≤ x.toNat → low (⟨#[x]⟩ : ByteArray).data.toList := fun x hx y hy => by rw [List.mem_singleton.1 hy]; exact hx
  unfold sealB lineB
  simp only [ba_app]
  exact low_app.2 ⟨low_app.2 ⟨low_app.2 ⟨low_app.2 ⟨low_app.2 ⟨low_app.2 ⟨low_num _, one 32 (by decide)⟩, low_log _ h1⟩, one 64 (by decide)⟩, low_log _ h2⟩, one 35 (by decide)⟩, low_num _⟩
/-- The first bytes, the last of them turned around or not. -/
def mg (t : Bool) (l : List UInt8) (m : Nat) : List UInt8 := if t = true ∧ 0 < m then l.take (m - 1) ++ [255 - l.getD (m - 1) 0] else l.take m
theorem flip_low {x : UInt8} (h : x.toNat ≤ 127) : (255 - x) ≠ 10 := by
  intro e
  have := congrArg UInt8.toNat e
  have h2 : (255 - x).toNat = 255 - x.toNat := UInt8.toNat_sub_of_le _ _ (by
    rw [UInt8.le_iff_toNat_le]
    show x.toNat ≤ 255
    omega)
  rw [h2] at this
  have h3 : (10 : UInt8).toNat = 10 := rfl
  omega
theorem mg_no (t : Bool) (a b : List UInt8) (m : Nat) (hm : m ≤ a.length) (ha : (10 : UInt8) ∉ a) (hl : low a) : (10 : UInt8) ∉ mg t (a ++ b) m := by
  unfold mg
  split
  · rename_i c
    intro h
    rcases List.mem_append.1 h with h | h
    · rw [List.take_append_of_le_length (by omega)] at h
      exact ha (List.mem_of_mem_take h)
    · have hx : (a ++ b).getD (m - 1) 0 = a[m - 1]'(by omega) := by rw [List.getD_eq_getElem?_getD, List.getElem?_append_left (by omega), List.getElem?_eq_getElem (by omega)]; rfl
      rw [hx, List.mem_singleton] at h
      exact flip_low (hl _ (List.getElem_mem _)).1 h.symm
  · rw [List.take_append_of_le_length hm]
    exact fun h => ha (List.mem_of_mem_take h)
theorem mg_past (t : Bool) (a b : List UInt8) (m : Nat) (hm : a.length < m) : mg t (a ++ b) m = a ++ mg t b (m - a.length) := by
  unfold mg
  by_cases c : t = true
  · rw [if_pos ⟨c, by omega⟩, if_pos ⟨c, by omega⟩, List.take_append, List.take_of_length_le (by omega), List.append_assoc]
    congr 1
    rw [show m - 1 - a.length = m - a.length - 1 by omega]
    congr 1
    rw [List.getD_eq_getElem?_getD, List.getElem?_append_right (by omega), List.getD_eq_getElem?_getD, show m - 1 - a.length = m - a.length - 1 by omega]
  · rw [if_neg (fun h => c h.1), if_neg (fun h => c h.1), List.take_append, List.take_of_length_le (by omega)]
theorem stop_no {k : Nat} {t : ByteArray} (h : nob 10 t) : Stop k t := fun a b e _ => absurd h (by rw [e]; exact not_nob _ _ _)
theorem mk_list (l : List UInt8) : (⟨l.toArray⟩ : ByteArray).data.toList = l := by simp
theorem crash_parse (t : Bool) : ∀ (L : List LR) (k : Nat) (P : ByteArray), Parse k P L nilB → ∀ m, m ≤ P.size → ∃ L' t', Parse k ⟨(mg t P.data.toList m).toArray⟩ L' t' ∧ L' <+: L := by
  intro L
  induction L with
  | nil =>
    intro k P h m hm
    obtain ⟨rfl, hs⟩ := h
    have : m = 0 := by have : (nilB).size = 0 := rfl; omega
    subst this
    refine ⟨[], _, ⟨rfl, stop_no ?_⟩, List.nil_prefix⟩
    unfold nob mg
    rw [mk_list, if_neg (fun h => absurd h.2 (by omega))]
    simp
  | cons e L ih =>
    intro k P h m hm
    obtain ⟨a, b, rfl, ha, he, hp⟩ := h
    have hz := cat_size a 10 b
    have hal : a.data.toList.length = a.size := l_len a
    have hlow := low_enc he
    have hcl : (cat a 10 b).data.toList = a.data.toList ++ (10 :: b.data.toList) := cat_list a 10 b
    have hno : ∀ q : List UInt8, (10 : UInt8) ∉ q → ∃ L' t', Parse k (⟨q.toArray⟩ : ByteArray) L' t' ∧ L' <+: e :: L := fun q hq => ⟨[], _, ⟨rfl, stop_no (by unfold nob; rw [mk_list]; exact hq)⟩, List.nil_prefix⟩
    by_cases c : m ≤ a.size
    · refine hno _ ?_
      rw [hcl]
      exact mg_no t _ _ m (by omega) ha hlow
    · rw [hcl, mg_past t _ _ m (by omega)]
      by_cases d : m = a.size + 1 ∧ t = true
      · refine hno _ ?_
        have e1 : mg t ((10 : UInt8) :: b.data.toList) (m - a.data.toList.length) = [245] := by
          rw [show m - a.data.toList.length = 1 by omega]
          unfold mg
          rw [if_pos ⟨d.2, by omega⟩]
          show ([] : List UInt8) ++ [(255 : UInt8) - 10] = [245]
          rw [show (255 : UInt8) - 10 = 245 by decide]
          rfl
        rw [e1]
        intro h
        rcases List.mem_append.1 h with h | h
        · exact ha h
        · exact absurd (List.mem_singleton.1 h) (by decide)
      · have e1 : mg t ((10 : UInt8) :: b.data.toList) (m - a.data.toList.length) = 10 :: mg t b.data.toList (m - a.size - 1) := by
          rw [hal, show m - a.size = (m - a.size - 1) + 1 by omega, Nat.add_sub_cancel]
          by_cases z : m - a.size - 1 = 0
          · have ht : ¬ t = true := fun h => d ⟨by omega, h⟩
            unfold mg
            rw [if_neg (fun h => ht h.1), if_neg (fun h => ht h.1)]
            rfl
          · have := mg_past t [10] b.data.toList (m - a.size - 1 + 1) (by show 1 < _; omega)
            exact this
        obtain ⟨L', t', h1, h2⟩ := ih (k + 1) b hp (m - a.size - 1) (by omega)
        refine ⟨e :: L', t', ⟨a, ⟨(mg t b.data.toList (m - a.size - 1)).toArray⟩, ?_, ha, he, h1⟩, List.cons_prefix_cons.2 ⟨rfl, h2⟩⟩
        rw [e1]
        apply ba_list
        rw [cat_list, mk_list, mk_list]
/-- A valid log, crashed: what is recovered begins with the durable records, and goes on as the log does. -/
theorem good_crash {D P : ByteArray} {n : Int} {L : List LR} (h : GoodL D P n L) (t : Bool) (m : Nat) (hm : m ≤ P.size) : ∃ L' t', Parse 0 (D ++ ⟨(mg t P.data.toList m).toArray⟩) L' t' ∧ L' <+: L ∧ D.size ≤ sizeL 0 L' := by
  obtain ⟨L1, h1⟩ := h.dur
  obtain ⟨L2, t2, h2⟩ := parse_ex P.size P (0 + L1.length) (Nat.le_refl _)
  obtain ⟨rfl, rfl⟩ := parse_uniq _ _ 0 _ _ _ h.all (parse_app L1 0 D P L2 t2 h1 h2)
  obtain ⟨L3, t3, h3, h4⟩ := crash_parse t L2 (0 + L1.length) P h2 m hm
  refine ⟨L1 ++ L3, t3, parse_app L1 0 D _ L3 t3 h1 h3, (List.prefix_append_right_inj L1).2 h4, ?_⟩
  have hz := parse_size L1 0 _ _ h1
  have hz2 := parse_size (L1 ++ L3) 0 _ _ (parse_app L1 0 D _ L3 t3 h1 h3)
  have hz3 := parse_size L3 (0 + L1.length) _ _ h3
  rw [ByteArray.size_append] at hz2
  omega
theorem torn_mg (f : ByteArray → ByteArray) (hf : ∀ s, f s = ⟨(s.data.toList.set (s.size - 1) (255 - s.data.toList.getD (s.size - 1) 0)).toArray⟩) (P : ByteArray) (t : Bool) (m : Nat) (hm : m ≤ P.size) : (if t = true ∧ 0 < (m : Int) then f (P.extract 0 (m : Int).toNat) else P.extract 0 (m : Int).toNat) = ⟨(mg t P.data.toList m).toArray⟩ := by
  have hl : (P.extract 0 m).data.toList = P.data.toList.take m := by
    rw [ByteArray.data_extract, Array.toList_extract, List.extract_eq_take_drop]
    simp
  have hz : (P.extract 0 m).size = m := by rw [ByteArray.size_extract]; omega
  have hP : P.data.toList.length = P.size := l_len P
  rw [Int.toNat_natCast]
  unfold mg
  by_cases c : t = true ∧ 0 < m
  · rw [if_pos ⟨c.1, by omega⟩, if_pos c, hf]
    apply ba_list
    rw [mk_list, mk_list, hl, hz]
    have g : (P.data.toList.take m).getD (m - 1) 0 = P.data.toList.getD (m - 1) 0 := by
      rw [List.getD_eq_getElem?_getD, List.getD_eq_getElem?_getD, List.getElem?_take_of_lt (by omega)]
    rw [g, List.set_eq_take_append_cons_drop, if_pos (by rw [List.length_take]; omega), List.take_take, Nat.min_eq_left (by omega), List.drop_eq_nil_of_le (by rw [List.length_take]; omega)]
  · rw [if_neg (fun h => c ⟨h.1, by omega⟩), if_neg c]
    apply ba_list
    rw [mk_list, hl]
end Go.Proofs.YtkdibcifamlciaaDoor.X
set_option linter.unusedVariables false
set_option linter.unusedSimpArgs false
namespace Go.Proofs.YtkdibcifamlciaaDoor.Pure
open Go.RowKit Go.Proofs.YtkdibcifamlciaaDoor.X Go.Proofs.YtkdibcifamlciaaDoorW.PrintWords Go.Proofs.YtkdibcifamlciaaDoor.E
theorem drawCrash_tot {l : List Int} (h : Cu l 0) : ∃ D P n k t, Ev (fun q => spec_DrawCrashLog.f q l) (D, P, n, k, t) ∧ D.size + P.size ≤ 20000 := by
  obtain ⟨D, P, n, a1, s1, h1, z1, c1, b1⟩ := anyLog_tot 0 h (by omega)
  obtain ⟨v, a2, s2, e2, _, _, c2, b2⟩ := pick_tot s1 (wrap64 ((P.size : Int) + 3)) c1 (by omega)
  obtain ⟨t, a3, s3, e3, c3, b3⟩ := one_tot s2 2 c2 (by omega)
  exact ⟨D, P, n, wrap64 (v - 1), t, Ev.bind h1 (ev_bind0 e2 (ev_bind0 e3 (ev_now rfl))), z1⟩
theorem readRecords_ev (D P : ByteArray) (n : Int) (L : List LR) (g : GoodL D P n L) : Ev (fun k => impl_LogRecords.f k D P n) (L, true) := by
  have hs := g.small
  obtain ⟨b, L', h1, h2, h3, h4⟩ := log_iff D P n (by omega)
  obtain ⟨rfl, rfl⟩ := h4 L g
  exact Ev.bind h2 (ev_pos rfl (ev_now rfl))
theorem specRecords_ev (D P : ByteArray) (n : Int) (L : List LR) (g : GoodL D P n L) : Ev (fun k => spec_LogRecords.f k D P n) (L, true) := by
  have hs := g.small
  have hz : (D ++ P).size = D.size + P.size := ByteArray.size_append
  obtain ⟨b, L', h1, h2, h3, h4⟩ := log_iff D P n (by omega)
  obtain ⟨rfl, rfl⟩ := h4 L g
  exact Ev.bind h1 (ev_pos rfl (ev_pos (by omega) (Ev.bind (specOpen_ev _ _ _ g.all (by omega)) (ev_now rfl))))
theorem valid_ev (D P : ByteArray) (n : Int) (L : List LR) (g : GoodL D P n L) : Ev (fun k => impl_IsValidLog.f k D P n) true := by
  have hs := g.small
  obtain ⟨b, L', h1, h2, h2', h3, h4⟩ := valid_iff D P n (by omega)
  obtain ⟨rfl, rfl⟩ := h4 L g
  exact h2
theorem FnCrashRecovery : PureFnCrashRecovery := by
  intro code hcode
  have hcu := cu_start hcode
  unfold laws_FnCrashRecovery.f
  refine ev_get (ev_bind0 (show laws_vBig.f code = some (decide ((code.length : Int) > 65536)) from rfl) ?_)
  by_cases cb : decide ((code.length : Int) > 65536) = true
  · exact ev_pos cb (ev_now rfl)
  refine ev_neg cb ?_
  obtain ⟨D, P, n, keep, torn, hd, hz⟩ := drawCrash_tot hcu
  refine Ev.bind hd ?_
  obtain ⟨b, L, h1, h2, h2', h3, h4⟩ := valid_iff D P n (by omega)
  have hno : ∀ (s : ByteArray) (x y : Bool), x = false → y = false → s = nilB → Ev (fun k => laws_FnCrashRecovery.j0 k s x y D P n) true := fun s x y hx hy hs => Ev.step (fun k => rfl) (ev_neg (by rw [hy]; simp) (ev_neg (by rw [hx]; simp) (ev_now (by rw [hs, Lib.toList_data]; rfl))))
  cases b
  · refine Ev.bind (Ev.bind h2 (ev_neg (by simp) (ev_now rfl))) (Ev.bind (Ev.bind h1 (ev_neg (by simp) (ev_now rfl))) (ev_pos rfl ?_))
    exact hno _ _ _ rfl rfl rfl
  by_cases ck : 0 ≤ keep ∧ keep ≤ (P.size : Int)
  case neg =>
    refine Ev.bind (Ev.bind h2 (ev_pos rfl (ev_neg ck (ev_now rfl)))) (Ev.bind (Ev.bind h1 (ev_pos rfl (ev_neg ck (ev_now rfl)))) (ev_pos rfl ?_))
    exact hno _ _ _ rfl rfl rfl
  have G := h3 rfl
  obtain ⟨m, rfl⟩ : ∃ m : Nat, keep = (m : Int) := ⟨keep.toNat, by omega⟩
  have e1 := torn_mg impl_tornB (fun s => rfl) P torn m (by omega)
  have e2 := torn_mg spec_tornB (fun s => rfl) P torn m (by omega)
  obtain ⟨L', t', hp, hpre, hD⟩ := good_crash G torn m (by omega)
  have hpz := parse_size L' 0 _ t' hp
  have hmz : (⟨(mg torn P.data.toList m).toArray⟩ : ByteArray).size ≤ P.size := by
    show (mg torn P.data.toList m).length ≤ _
    have hl : P.data.toList.length = P.size := l_len P
    unfold mg
    split
    · rw [List.length_append, List.length_take, List.length_singleton]; omega
    · rw [List.length_take]; omega
  have himpl : Ev (fun k => impl_CrashLog.f k D P n (m : Int) torn) (D ++ ⟨(mg torn P.data.toList m).toArray⟩, true) := Ev.bind h2 (ev_pos rfl (ev_pos ck (ev_pos (by omega) (ev_now (by rw [e1])))))
  have hspec : Ev (fun k => spec_CrashLog.f k D P n (m : Int) torn) (D ++ ⟨(mg torn P.data.toList m).toArray⟩, true) := Ev.bind h1 (ev_pos rfl (ev_pos ck (ev_pos (by omega) (ev_now (by rw [e2])))))
  have hsz : (D ++ (⟨(mg torn P.data.toList m).toArray⟩ : ByteArray)).size = D.size + (⟨(mg torn P.data.toList m).toArray⟩ : ByteArray).size := ByteArray.size_append
  generalize hS : D ++ (⟨(mg torn P.data.toList m).toArray⟩ : ByteArray) = S at hp hpz hsz himpl hspec
  have GR := good_recover hp (by omega)
  have hrec := implRec_ev2 S L' t' hp (by omega)
  have hlen : L'.length ≤ L.length := hpre.length_le
  have hll := (parse_len L 0 _ _ G.all (by omega)).1
  have hvalid := valid_ev _ _ _ _ GR
  suffices hj1 : ∀ x : Bool, x = false → Ev (fun k => laws_FnCrashRecovery.j1 k S (sizeL 0 L' : Int) L' L x (S.extract 0 (sizeL 0 L')) nilB (L'.length : Int)) true by
    have hj0 : ∀ (x y : Bool), x = true → y = false → Ev (fun k => laws_FnCrashRecovery.j0 k S x y D P n) true := fun x y hx hy => Ev.step (fun k => rfl) (ev_neg (by rw [hy]; simp) (ev_pos hx (Ev.bind hrec (Ev.bind (readRecords_ev _ _ _ _ GR) (Ev.bind (specRecords_ev _ _ _ _ G) (ev_pos rfl (ev_neg (by dsimp only; omega) (ev_neg (by dsimp only; omega) (hj1 _ (decide_eq_false (by dsimp only; omega)))))))))))
    exact Ev.bind himpl (Ev.bind hspec (ev_pos rfl (hj0 _ _ rfl rfl)))
  intro x hx
  refine Ev.step (fun k => rfl) (ev_neg (by rw [hx]; simp) ?_)
  refine ev_same (L := fun k i => laws_FnCrashRecovery.l0 k S (sizeL 0 L' : Int) L' L i (S.extract 0 (sizeL 0 L')) nilB (L'.length : Int)) L'.length ?_ ?_
  · refine Ev.step (fun k => rfl) (ev_neg (by omega) (Ev.bind hvalid (ev_pos rfl (ev_pos (by omega) (ev_pos (by omega) (ev_now ?_))))))
    rw [Int.toNat_natCast]
    exact beq_self_eq_true _
  · intro i hi hnext
    have he : rd_T25 L' (i : Int) = rd_T25 L (i : Int) := by
      obtain ⟨M, rfl⟩ := hpre
      unfold rd_T25
      rw [Int.toNat_natCast, List.getD_eq_getElem?_getD, List.getD_eq_getElem?_getD, List.getElem?_append_left hi]
    refine Ev.step (fun k => rfl) (ev_pos (by omega) (ev_pos (by omega) (ev_pos (by omega) (ev_neg ?_ ?_))))
    · rw [he]; simp
    · rw [wrap_succ hi (by omega)]
      exact hnext
end Go.Proofs.YtkdibcifamlciaaDoor.Pure
namespace Go.Proofs.YtkdibcifamlciaaDoor.fnCrashRecovery
open Go.ChangeShapes Go.WideShapes Go.ChangeAt Go.RowKit Go.Joins Go.Proofs.YtkdibcifamlciaaDoorW.PrintWords Go.Proofs.YtkdibcifamlciaaDoor.Open Go.Proofs.YtkdibcifamlciaaDoor.X
open Go.ChangeMaps (open_string shut_string)
set_option linter.unusedVariables false
theorem own : ownKnob Tryd.prog.godebug = none := by kernel_rfl
def laid : List (String × DataW Unit) := [("math/bits.deBruijn32tab", Rows.laid_math_bits_deBruijn32tab), ("math/bits.deBruijn64tab", Rows.laid_math_bits_deBruijn64tab), ("internal/strconv.uint64pow10", Rows.laid_internal_strconv_uint64pow10)]
theorem door_met (os : Os) (args : Array Value) : laidMetH Tryd.prog laid ((World.doorLaid Tryd.prog 24 os).forCall (fun _ _ => 0) ⟨#[], args, []⟩).memory :=
  laidMetH_of_parts3 (fuel := 8) (laidMet_of_run' 8 (by kernel_rfl) (by kernel_rfl)) (by kernel_rfl) (by kernel_rfl)
theorem gTab : Tryd.prog.globalNamed "internal/strconv.uint64pow10" = some 1 := by kernel_rfl
theorem gTabType : (Tryd.prog.globals[1]?).map (·.type) = some 92 := by kernel_rfl
theorem cellsT : Tryd.prog.cellsOf 92 = 20 := by kernel_rfl
theorem cellsE : Tryd.prog.cellsOf 49 = 1 := by kernel_rfl
theorem only : laid.filter (fun x => x.1 == "internal/strconv.uint64pow10") = [("internal/strconv.uint64pow10", Lib.tabData .u64 Lib.pow10Tab)] := by kernel_rfl
theorem table {W : World} (h : laidMetH Tryd.prog laid W) : GT W := by
  have h2 := h.filter (fun x => x.1 == "internal/strconv.uint64pow10")
  rw [only] at h2
  rw [MakeChecks.laidMetH_plain _ _ _ (by kernel_rfl)] at h2
  exact Lib.tabIs_of_head (rest := []) gTab gTabType Tryd.underlying92 Tryd.underlying49 cellsE cellsT h2
theorem laidOut : laidOutB Tryd.prog = true := by kernel_rfl
set_option maxRecDepth 100000 in
theorem lifted (os : Os) (started : os.Started) (H : Type) (enc : TypeId × Value → H) :
    ReturnsInHanded {} Tryd.checked os 5 .any (fun w args => (Rows.fnCrashRecoverySpec.pre enc Tryd.prog Tryd.f5 [] false w args ∧ laidMetH Tryd.prog laid w) ∧ sizedMet enc Tryd.prog Tryd.f5 (OpenSpec.ofChange Rows.fnCrashRecoverySpec) false w args)
      (Rows.fnCrashRecoverySpec.post enc Tryd.prog Tryd.f5 false true false false) := by
  refine returnsInHanded_of_change_and (C := Tryd.checked) (X := fun w _ => laidMetH Tryd.prog laid w) (fun _ _ _ hh h => h.of_heap hh) own started (by kernel_rfl) Tryd.func5
    (ChangeSpec.witness_shaped (enc := enc) (C := Tryd.checked) (os := os) (X := fun w _ => laidMetH Tryd.prog laid w) false (World.doorLaid Tryd.prog 24 os) #[.slice none 0 0] 8 rfl (World.shaped_of_RefB (by kernel_rfl) (by kernel_rfl)) (by kernel_rfl) (by kernel_rfl) (by kernel_rfl) (door_met os _)) ?_
  intro W base args ds gs before hval0 hW hcnd hsz0 hL _
  have hval : ∀ (j : Nat) t v, Tryd.f5.params[j]? = some t → args[j]? = some v → Value.okWide Tryd.prog W .any base t v := hval0
  have hW' := hW
  obtain ⟨p, q, hA0, hV, rfl, hfz, hnd⟩ := hW
  have hA : DataW.TrodAll enc Tryd.prog W 0 (fun _ => true) true Tryd.f5.params.toList args.toList ds p := hA0
  rw [Tryd.params5] at hA hval
  obtain ⟨v0, vs0, d0, ds0, p0, q0, hargs, rfl, rfl, h0, r0⟩ := trodAll_cons hA
  obtain ⟨rfl, rfl, rfl⟩ := trodAll_nil r0
  obtain rfl : args = #[v0] := by cases args; simp_all
  obtain ⟨rfl, rfl⟩ := trodVars_none hV
  have kk0 := h0
  have lt0 : ∀ x ∈ p0, x.block < W.heap.size := by obtain ⟨m, hm⟩ := kk0; exact DataW.trod_lt m _ _ _ hm
  obtain ⟨A0, c0, a0, rfl, hc0, hr0, g0⟩ := arg_slice op22 (okWide_slice Tryd.underlying22 (hval 0 22 v0 rfl rfl)) h0
  clear hA0 hval0 hsz0
  obtain ⟨k, hk⟩ := Pure.FnCrashRecovery a0 g0
  refine (X.laws_FnCrashRecovery.calls k _ _ a0 true W hr0 hc0 (table hL) hk (Aside0.mk rfl)).mono ?_
  rintro e W' ⟨he, bel0⟩
  have bel : Below W.heap.size W W' := by first | exact bel0 | exact bel0.below
  subst he
  exact ⟨_, rfl, _, _, _, [], _, [], hW', trodAll_mk1 (shut_bool Tryd.underlying4 _), (trodAll_cons_mk (Below.trod laidOut (by kernel_rfl) (of_decide_eq_true (by kernel_rfl)) kk0 bel lt0) trodAll_mk0), rfl, bel.frame _, fun h => by cases h⟩
theorem over : Rows.fnCrashRecoveryRow.holds Tryd.pinned (OpenSpec.ofChange Rows.fnCrashRecoverySpec) :=
  OpenClaim.holds_of_wide 5 Tryd.f5 rfl rfl rfl rfl rfl rfl rfl ⟨rfl, rfl, rfl, rfl, rfl⟩ rfl rfl rfl rfl rfl (by kernel_rfl) Tryd.func5 (by kernel_rfl)
    (of_decide_eq_true (by kernel_rfl)) (by unfold Func.isWrapper; first | (rw [if_pos (by decide +kernel)]; kernel_rfl) | (rw [if_neg (by decide +kernel)]; exact ⟨rfl, rfl⟩))
    (fun os started H enc _ => lifted os started H enc)
theorem proved : Rows.FnCrashRecoverySaid := over
#print axioms proved
theorem plain (f : FuncId) (fn : Func) (hf : Tryd.pinned.checked.prog.funcNamed "loop.example/g00876/laws.FnCrashRecovery" = some f) (hfn : Tryd.pinned.checked.prog.funcs[f]? = some fn) :
    false = Tryd.pinned.checked.prog.looks [] ∧ ∀ (j : Nat) t, fn.params[j]? = some t → Tryd.pinned.checked.prog.wantsStandIn t = false := by
  obtain rfl : f = 5 := Option.some.inj ((show Tryd.prog.funcNamed "loop.example/g00876/laws.FnCrashRecovery" = some 5 by kernel_rfl).symm.trans hf) |>.symm
  obtain rfl : fn = Tryd.f5 := (Option.some.inj (Tryd.func5.symm.trans hfn)).symm
  refine ⟨by kernel_rfl, fun j t ht => ?_⟩
  rw [Tryd.params5] at ht
  have hm := Array.mem_of_getElem? ht
  simp only [List.mem_toArray, List.mem_cons, List.not_mem_nil, or_false] at hm
  rcases hm with rfl
  exact (show Tryd.prog.wantsStandIn 22 = false by kernel_rfl)
theorem card : Rows.FnCrashRecoveryCardSaid :=
  Claim7.holds_tied_plain_at .later [] _ _ _ _ proved (fun _ h => by cases h) (by kernel_rfl) (fun _ h => by cases h) fnCrashRecovery_row_tie rfl ⟨rfl, rfl⟩ (by kernel_rfl) rfl plain (by kernel_rfl)
#print axioms card
end Go.Proofs.YtkdibcifamlciaaDoor.fnCrashRecovery
namespace Go.Proofs.YtkdibcifamlciaaDoor
/-- The row, under a short name, for the claim. -/
theorem fnCrashRecovery_holds : Rows.FnCrashRecoverySaid := fnCrashRecovery.proved
/-- The card, under a short name. -/
theorem fnCrashRecoveryCard_holds : Rows.FnCrashRecoveryCardSaid := fnCrashRecovery.card
end Go.Proofs.YtkdibcifamlciaaDoor
