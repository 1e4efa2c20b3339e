/- For all records, reports and void lists the law FnExactDropVoid answers true: the program's DropVoid gives back what the reference's gives back. No condition beyond what a reading tells.
This file (part 6 of 6) holds what the proof needs: plain functions with rounds and contracts written by programs of this work over the translation, and the lemmas. -/
import Derived.Test.YtdbhelhoaciodaaZFnExactDropVoid2
import Derived.Test.YtdbhelhoaciodaaZFnExactDropVoid3
import Derived.Test.YtdbhelhoaciodaaZFnExactDropVoid4
import Derived.Test.YtdbhelhoaciodaaZFnExactDropVoid5
import Derived.Test.YtdbhelhoaciodaaZFnExactDropVoid1
import Derived.ChangeArms
import Derived.DataReads
import Derived.Deep.Slices
import Derived.ChangeOld
import Derived.OpenShut
import Derived.Test.YtdbhelhoaciodaaRows
import Derived.WalkKit
import Derived.ProofKit
import Derived.ShutString
import Derived.Below
import Derived.SizedLaws
import Derived.Lib.SmallJoins
namespace Go.Proofs.Ytdbhelhoaciodaa.X
open Go.RowKit Go.Proofs.YtdbhelhoaciodaaW.PrintWords Go.Proofs.YtdbhelhoaciodaaW.PrintLast Go.Proofs.YtdbhelhoaciodaaW.PrintMore
set_option linter.unusedVariables false
set_option linter.unusedSimpArgs false
def laws_FnExactDropVoid.f (k : Nat) (l0_0 : List (S142)) (l0_1 : List (S146)) (l1 : List (S51)) (l2 : List (Int)) : Option Bool := if (l2.length : Int) > 1048576 then some true else (laws_szRecord.f l0_0 l0_1 1048576).bind fun t4 => if t4 < 0 then some true else (laws_szPartS.f k l1 t4).bind fun t11 => if t11 < 0 then some true else (laws_toRecord.f k l0_0 l0_1).bind fun ⟨t16, t17⟩ => (laws_toPartS.f k l1).bind fun t37 => (laws_toIntS.f k l2).bind fun t50 => (spec_DropVoid.f k t16 t17 t37 t50).bind fun ⟨t63, t64⟩ => (laws_toRecord.f k l0_0 l0_1).bind fun ⟨t83, t84⟩ => (laws_toPartS.f k l1).bind fun t108 => (laws_toIntS.f k l2).bind fun t121 => (impl_DropVoid.f k t83 t84 t108 t121).bind fun ⟨t134, t135⟩ => (laws_eqPartS.f k t134 t63).bind fun t154 => if t154 = true then if t135 = t64 then (laws_toRecord.f k l0_0 l0_1).bind fun ⟨t161, t162⟩ => (laws_eqRecord.f k t83 t84 t161 t162).bind fun t182 => if t182 = true then (laws_toPartS.f k l1).bind fun t193 => (laws_eqPartS.f k t108 t193).bind fun t206 => if t206 = true then (laws_toIntS.f k l2).bind fun t213 => (laws_eqIntS.f k t121 t213).bind fun t226 => if t226 = true then (laws_markRecord.f k t83 t84 1).bind fun ⟨t233, t234, t235⟩ => (laws_markPartS.f k t108 t233).bind fun ⟨t242, t243⟩ => (laws_markIntS.f k t121 t242).bind fun ⟨t248, t249⟩ => if ¬ t248 < 0 then (laws_eqPartS.f k t134 t63).bind fun t254 => if t254 = true then if t135 = t64 then (laws_markPartS.f k t134 1).bind fun ⟨t261, t262⟩ => (laws_heldPartS.f k t262 1).bind fun t267 => if ¬ t267 < 0 then if t267 = t261 then (laws_toRecord.f k l0_0 l0_1).bind fun ⟨t272, t273⟩ => (laws_toPartS.f k l1).bind fun t293 => (laws_toIntS.f k l2).bind fun t306 => (impl_DropVoid.f k t272 t273 t293 t306).bind fun ⟨t319, t320⟩ => (laws_eqPartS.f k t319 t63).bind fun t339 => if t339 = true then if t320 = t64 then (laws_heldPartS.f k t262 1).bind fun t346 => if ¬ t346 < 0 then if t346 = t261 then some true else none else none else none else none else none else none else none else none else none else none else none else none else none else none
set_option maxHeartbeats 8000000 in
set_option maxRecDepth 100000 in
theorem laws_FnExactDropVoid.calls (k : Nat) (A0_0 : Option Addr) (c0_0 : Nat) (l0_0 : List (S142)) (A0_1 : Option Addr) (c0_1 : Nat) (l0_1 : List (S146)) (A1 : Option Addr) (c1 : Nat) (l1 : List (S51)) (A2 : Option Addr) (c2 : Nat) (l2 : List (Int)) (r : Bool) (w : World) (hr0_0 : Kd.C k142 w A0_0 l0_0.length l0_0) (hc0_0 : l0_0.length ≤ c0_0) (hr0_1 : Kd.C k146 w A0_1 l0_1.length l0_1) (hc0_1 : l0_1.length ≤ c0_1) (hr1 : Kd.C k51 w A1 l1.length l1) (hc1 : l1.length ≤ c1) (hr2 : Kd.C (Kd.int .i64) w A2 l2.length l2) (hc2 : l2.length ≤ c2) (h : laws_FnExactDropVoid.f k l0_0 l0_1 l1 l2 = some r) :
  Calls Try.prog 7 #[.agg #[.slice A0_0 l0_0.length c0_0, .slice A0_1 l0_1.length c0_1], .slice A1 l1.length c1, .slice A2 l2.length c2] w fun e w' => e = .returned (.bool r) ∧ Below w.heap.size w w' := by
 have HR0_0 := Aside0.mk hr0_0
 have HC0_0 := Aside0.mk hc0_0
 clear hr0_0 hc0_0
 have HR0_1 := Aside0.mk hr0_1
 have HC0_1 := Aside0.mk hc0_1
 clear hr0_1 hc0_1
 have HR1 := Aside0.mk hr1
 have HC1 := Aside0.mk hc1
 clear hr1 hc1
 have HR2 := Aside0.mk hr2
 have HC2 := Aside0.mk hc2
 clear hr2 hc2
 have HB := Aside0.mk (Below.refl w.heap.size w)
 have HS := Aside0.mk (Nat.le_refl w.heap.size)
 unfold laws_FnExactDropVoid.f at h
 have H := h
 clear h
 have hu48 := Try.underlying48
 have hu61 := Try.underlying61
 by_cases c351 : (l2.length : Int) > 1048576
 ·rw [if_pos c351] at H
  have c351b := decide_eq_true c351
  clear c351
  obtain rfl := Option.some.inj H
  go_enter Try.func7, Try.ntmps7
  go_wp2_with (first | ((with_reducible refine gate_dst (N := 3) rfl ?_); refine box_event ?hggb1 (N := 3) ?hdgb1 (cs := #[.slice A0_0 l0_0.length c0_0, .slice A0_1 l0_1.length c0_1]) (t := 48) ?hrgb1 ?_; (case hdgb1 => rfl); (case hggb1 => rfl); (case hrgb1 => first | (go_simp; done) | (go_simp; rfl)); intro gb1 hg w_3 hbox hb; have HE2 := Aside0.mk (And.intro (leG hg HS) (Nat.le_succ gb1)); have hs_ := Aside0.mk (blk_lt hbox); have BKgb1 := Aside0.mk hbox; clear HS; have HS := hs_; clear hs_; have n0_ := Aside0.mk (sI hb HB); clear HB; have HB := n0_; clear n0_ hg hbox hb; (try clear hczgb1_0); have hczgb1_0 := cz BKgb1.out 0; (try clear hfzgb1_0); have hfzgb1_0 := blk_frozen BKgb1.out 0; (try clear hczgb1_1); have hczgb1_1 := cz BKgb1.out 1; (try clear hfzgb1_1); have hfzgb1_1 := blk_frozen BKgb1.out 1))
  go_ret
  exact ⟨rfl, eI HB⟩
 rw [if_neg c351] at H
 have c351b := decide_eq_false c351
 clear c351
 replace H := obS H; obtain ⟨t4, A_5, H⟩ := H
 by_cases c352 : t4 < 0
 ·rw [if_pos c352] at H
  have c352b := decide_eq_true c352
  clear c352
  obtain rfl := Option.some.inj H
  go_enter Try.func7, Try.ntmps7
  go_wp2_with (first | ((with_reducible refine gate_dst (N := 3) rfl ?_); refine box_event ?hggb1 (N := 3) ?hdgb1 (cs := #[.slice A0_0 l0_0.length c0_0, .slice A0_1 l0_1.length c0_1]) (t := 48) ?hrgb1 ?_; (case hdgb1 => rfl); (case hggb1 => rfl); (case hrgb1 => first | (go_simp; done) | (go_simp; rfl)); intro gb1 hg w_3 hbox hb; have HE2 := Aside0.mk (And.intro (leG hg HS) (Nat.le_succ gb1)); have hs_ := Aside0.mk (blk_lt hbox); have BKgb1 := Aside0.mk hbox; clear HS; have HS := hs_; clear hs_; have n0_ := Aside0.mk (sI hb HB); clear HB; have HB := n0_; clear n0_ hg hbox hb; (try clear hczgb1_0); have hczgb1_0 := cz BKgb1.out 0; (try clear hfzgb1_0); have hfzgb1_0 := blk_frozen BKgb1.out 0; (try clear hczgb1_1); have hczgb1_1 := cz BKgb1.out 1; (try clear hfzgb1_1); have hfzgb1_1 := blk_frozen BKgb1.out 1) | ((with_reducible refine gate_callee (f := 26) rfl ?_); refine gL (some 25) Try.func26 #[.agg #[.slice A0_0 l0_0.length c0_0, .slice A0_1 l0_1.length c0_1], .int .i64 1048576] ?_; (with_reducible refine (laws_szRecord.calls _ _ _ _ _ _ _ _ _ ?s_7 ?s_8 ?s_9 ?s_10 A_5.out).mono ?_); (case s_7 => exact Kd.C_below HR0_0.out (eI HB)); (case s_8 => exact HC0_0.out); (case s_9 => exact Kd.C_below HR0_1.out (eI HB)); (case s_10 => exact HC0_1.out); rintro e w_6 ⟨rfl, hb⟩; refine ⟨_, rfl, ?_⟩; have n0_ := Aside0.mk (sI hb HB); have n1_ := Aside0.mk (leI hb HS); have n2_ := Aside0.mk (kbI hb BKgb1); clear HB HS BKgb1; have HB := n0_; have HS := n1_; have BKgb1 := n2_; clear n0_ n1_ n2_ hb; (try clear hczgb1_0); have hczgb1_0 := cz BKgb1.out 0; (try clear hfzgb1_0); have hfzgb1_0 := blk_frozen BKgb1.out 0; (try clear hczgb1_1); have hczgb1_1 := cz BKgb1.out 1; (try clear hfzgb1_1); have hfzgb1_1 := blk_frozen BKgb1.out 1))
  go_ret
  exact ⟨rfl, eI HB⟩
 rw [if_neg c352] at H
 have c352b := decide_eq_false c352
 clear c352
 replace H := obS H; obtain ⟨t11, A_12, H⟩ := H
 by_cases c353 : t11 < 0
 ·rw [if_pos c353] at H
  have c353b := decide_eq_true c353
  clear c353
  obtain rfl := Option.some.inj H
  go_enter Try.func7, Try.ntmps7
  go_wp2_with (first | ((with_reducible refine gate_dst (N := 3) rfl ?_); refine box_event ?hggb1 (N := 3) ?hdgb1 (cs := #[.slice A0_0 l0_0.length c0_0, .slice A0_1 l0_1.length c0_1]) (t := 48) ?hrgb1 ?_; (case hdgb1 => rfl); (case hggb1 => rfl); (case hrgb1 => first | (go_simp; done) | (go_simp; rfl)); intro gb1 hg w_3 hbox hb; have HE2 := Aside0.mk (And.intro (leG hg HS) (Nat.le_succ gb1)); have hs_ := Aside0.mk (blk_lt hbox); have BKgb1 := Aside0.mk hbox; clear HS; have HS := hs_; clear hs_; have n0_ := Aside0.mk (sI hb HB); clear HB; have HB := n0_; clear n0_ hg hbox hb; (try clear hczgb1_0); have hczgb1_0 := cz BKgb1.out 0; (try clear hfzgb1_0); have hfzgb1_0 := blk_frozen BKgb1.out 0; (try clear hczgb1_1); have hczgb1_1 := cz BKgb1.out 1; (try clear hfzgb1_1); have hfzgb1_1 := blk_frozen BKgb1.out 1) | ((with_reducible refine gate_callee (f := 26) rfl ?_); refine gL (some 25) Try.func26 #[.agg #[.slice A0_0 l0_0.length c0_0, .slice A0_1 l0_1.length c0_1], .int .i64 1048576] ?_; (with_reducible refine (laws_szRecord.calls _ _ _ _ _ _ _ _ _ ?s_7 ?s_8 ?s_9 ?s_10 A_5.out).mono ?_); (case s_7 => exact Kd.C_below HR0_0.out (eI HB)); (case s_8 => exact HC0_0.out); (case s_9 => exact Kd.C_below HR0_1.out (eI HB)); (case s_10 => exact HC0_1.out); rintro e w_6 ⟨rfl, hb⟩; refine ⟨_, rfl, ?_⟩; have n0_ := Aside0.mk (sI hb HB); have n1_ := Aside0.mk (leI hb HS); have n2_ := Aside0.mk (kbI hb BKgb1); clear HB HS BKgb1; have HB := n0_; have HS := n1_; have BKgb1 := n2_; clear n0_ n1_ n2_ hb; (try clear hczgb1_0); have hczgb1_0 := cz BKgb1.out 0; (try clear hfzgb1_0); have hfzgb1_0 := blk_frozen BKgb1.out 0; (try clear hczgb1_1); have hczgb1_1 := cz BKgb1.out 1; (try clear hfzgb1_1); have hfzgb1_1 := blk_frozen BKgb1.out 1) | ((with_reducible refine gate_callee (f := 27) rfl ?_); refine gL (some 30) Try.func27 #[.slice A1 l1.length c1, .int .i64 t4] ?_; (with_reducible refine (laws_szPartS.calls k _ _ _ _ _ _ ?s_14 ?s_15 A_12.out).mono ?_); (case s_14 => exact Kd.C_below HR1.out (eI HB)); (case s_15 => exact HC1.out); rintro e w_13 ⟨rfl, hb⟩; refine ⟨_, rfl, ?_⟩; have n0_ := Aside0.mk (sI hb HB); have n1_ := Aside0.mk (leI hb HS); have n2_ := Aside0.mk (kbI hb BKgb1); clear HB HS BKgb1; have HB := n0_; have HS := n1_; have BKgb1 := n2_; clear n0_ n1_ n2_ hb; (try clear hczgb1_0); have hczgb1_0 := cz BKgb1.out 0; (try clear hfzgb1_0); have hfzgb1_0 := blk_frozen BKgb1.out 0; (try clear hczgb1_1); have hczgb1_1 := cz BKgb1.out 1; (try clear hfzgb1_1); have hfzgb1_1 := blk_frozen BKgb1.out 1))
  go_ret
  exact ⟨rfl, eI HB⟩
 rw [if_neg c353] at H
 have c353b := decide_eq_false c353
 clear c353
 replace H := obS H; obtain ⟨⟨t16, t17⟩, A_18, H⟩ := H
 replace H := obS H; obtain ⟨t37, A_38, H⟩ := H
 replace H := obS H; obtain ⟨t50, A_51, H⟩ := H
 replace H := obS H; obtain ⟨⟨t63, t64⟩, A_65, H⟩ := H
 replace H := obS H; obtain ⟨⟨t83, t84⟩, A_85, H⟩ := H
 replace H := obS H; obtain ⟨t108, A_109, H⟩ := H
 replace H := obS H; obtain ⟨t121, A_122, H⟩ := H
 replace H := obS H; obtain ⟨⟨t134, t135⟩, A_136, H⟩ := H
 replace H := obS H; obtain ⟨t154, A_155, H⟩ := H
 replace H := needS H; obtain ⟨c354, H⟩ := H
 subst c354
 replace H := needS H; obtain ⟨c355, H⟩ := H
 have c355b := bne_eq_false_iff_eq.mpr c355
 have c355d := beq_iff_eq.mpr c355
 clear c355
 replace H := obS H; obtain ⟨⟨t161, t162⟩, A_163, H⟩ := H
 replace H := obS H; obtain ⟨t182, A_183, H⟩ := H
 replace H := needS H; obtain ⟨c356, H⟩ := H
 subst c356
 replace H := obS H; obtain ⟨t193, A_194, H⟩ := H
 replace H := obS H; obtain ⟨t206, A_207, H⟩ := H
 replace H := needS H; obtain ⟨c357, H⟩ := H
 subst c357
 replace H := obS H; obtain ⟨t213, A_214, H⟩ := H
 replace H := obS H; obtain ⟨t226, A_227, H⟩ := H
 replace H := needS H; obtain ⟨c358, H⟩ := H
 subst c358
 replace H := obS H; obtain ⟨⟨t233, t234, t235⟩, A_236, H⟩ := H
 replace H := obS H; obtain ⟨⟨t242, t243⟩, A_244, H⟩ := H
 replace H := obS H; obtain ⟨⟨t248, t249⟩, A_250, H⟩ := H
 replace H := needS H; obtain ⟨c359, H⟩ := H
 have c359b := decide_eq_false c359
 clear c359
 replace H := obS H; obtain ⟨t254, A_255, H⟩ := H
 replace H := needS H; obtain ⟨c360, H⟩ := H
 subst c360
 replace H := needS H; obtain ⟨c361, H⟩ := H
 have c361b := bne_eq_false_iff_eq.mpr c361
 have c361d := beq_iff_eq.mpr c361
 clear c361
 replace H := obS H; obtain ⟨⟨t261, t262⟩, A_263, H⟩ := H
 replace H := obS H; obtain ⟨t267, A_268, H⟩ := H
 replace H := needS H; obtain ⟨c362, H⟩ := H
 have c362b := decide_eq_false c362
 clear c362
 replace H := needS H; obtain ⟨c363, H⟩ := H
 have c363b := bne_eq_false_iff_eq.mpr c363
 have c363d := beq_iff_eq.mpr c363
 clear c363
 replace H := obS H; obtain ⟨⟨t272, t273⟩, A_274, H⟩ := H
 replace H := obS H; obtain ⟨t293, A_294, H⟩ := H
 replace H := obS H; obtain ⟨t306, A_307, H⟩ := H
 replace H := obS H; obtain ⟨⟨t319, t320⟩, A_321, H⟩ := H
 replace H := obS H; obtain ⟨t339, A_340, H⟩ := H
 replace H := needS H; obtain ⟨c364, H⟩ := H
 subst c364
 replace H := needS H; obtain ⟨c365, H⟩ := H
 have c365b := bne_eq_false_iff_eq.mpr c365
 have c365d := beq_iff_eq.mpr c365
 clear c365
 replace H := obS H; obtain ⟨t346, A_347, H⟩ := H
 replace H := needS H; obtain ⟨c366, H⟩ := H
 have c366b := decide_eq_false c366
 clear c366
 replace H := needS H; obtain ⟨c367, H⟩ := H
 have c367b := bne_eq_false_iff_eq.mpr c367
 have c367d := beq_iff_eq.mpr c367
 clear c367
 obtain rfl := Option.some.inj H
 go_enter Try.func7, Try.ntmps7
 go_upto_region 17 with (first | ((with_reducible refine gate_dst (N := 3) rfl ?_); refine box_event ?hggb1 (N := 3) ?hdgb1 (cs := #[.slice A0_0 l0_0.length c0_0, .slice A0_1 l0_1.length c0_1]) (t := 48) ?hrgb1 ?_; (case hdgb1 => rfl); (case hggb1 => rfl); (case hrgb1 => first | (go_simp; done) | (go_simp; rfl)); intro gb1 hg w_3 hbox hb; have HE2 := Aside0.mk (And.intro (leG hg HS) (Nat.le_succ gb1)); have hs_ := Aside0.mk (blk_lt hbox); have BKgb1 := Aside0.mk hbox; clear HS; have HS := hs_; clear hs_; have n0_ := Aside0.mk (sI hb HB); clear HB; have HB := n0_; clear n0_ hg hbox hb; (try clear hczgb1_0); have hczgb1_0 := cz BKgb1.out 0; (try clear hfzgb1_0); have hfzgb1_0 := blk_frozen BKgb1.out 0; (try clear hczgb1_1); have hczgb1_1 := cz BKgb1.out 1; (try clear hfzgb1_1); have hfzgb1_1 := blk_frozen BKgb1.out 1) | ((with_reducible refine gate_callee (f := 26) rfl ?_); refine gL (some 25) Try.func26 #[.agg #[.slice A0_0 l0_0.length c0_0, .slice A0_1 l0_1.length c0_1], .int .i64 1048576] ?_; (with_reducible refine (laws_szRecord.calls _ _ _ _ _ _ _ _ _ ?s_7 ?s_8 ?s_9 ?s_10 A_5.out).mono ?_); (case s_7 => exact Kd.C_below HR0_0.out (eI HB)); (case s_8 => exact HC0_0.out); (case s_9 => exact Kd.C_below HR0_1.out (eI HB)); (case s_10 => exact HC0_1.out); rintro e w_6 ⟨rfl, hb⟩; refine ⟨_, rfl, ?_⟩; have n0_ := Aside0.mk (sI hb HB); have n1_ := Aside0.mk (leI hb HS); have n2_ := Aside0.mk (kbI hb BKgb1); clear HB HS BKgb1; have HB := n0_; have HS := n1_; have BKgb1 := n2_; clear n0_ n1_ n2_ hb; (try clear hczgb1_0); have hczgb1_0 := cz BKgb1.out 0; (try clear hfzgb1_0); have hfzgb1_0 := blk_frozen BKgb1.out 0; (try clear hczgb1_1); have hczgb1_1 := cz BKgb1.out 1; (try clear hfzgb1_1); have hfzgb1_1 := blk_frozen BKgb1.out 1) | ((with_reducible refine gate_callee (f := 27) rfl ?_); refine gL (some 30) Try.func27 #[.slice A1 l1.length c1, .int .i64 t4] ?_; (with_reducible refine (laws_szPartS.calls k _ _ _ _ _ _ ?s_14 ?s_15 A_12.out).mono ?_); (case s_14 => exact Kd.C_below HR1.out (eI HB)); (case s_15 => exact HC1.out); rintro e w_13 ⟨rfl, hb⟩; refine ⟨_, rfl, ?_⟩; have n0_ := Aside0.mk (sI hb HB); have n1_ := Aside0.mk (leI hb HS); have n2_ := Aside0.mk (kbI hb BKgb1); clear HB HS BKgb1; have HB := n0_; have HS := n1_; have BKgb1 := n2_; clear n0_ n1_ n2_ hb; (try clear hczgb1_0); have hczgb1_0 := cz BKgb1.out 0; (try clear hfzgb1_0); have hfzgb1_0 := blk_frozen BKgb1.out 0; (try clear hczgb1_1); have hczgb1_1 := cz BKgb1.out 1; (try clear hfzgb1_1); have hfzgb1_1 := blk_frozen BKgb1.out 1) | ((with_reducible refine gate_callee (f := 30) rfl ?_); refine gL (some 35) Try.func30 #[.agg #[.slice A0_0 l0_0.length c0_0, .slice A0_1 l0_1.length c0_1]] ?_; (with_reducible refine (laws_toRecord.calls k _ _ _ _ _ _ _ _ _ ?s_20 ?s_21 ?s_22 ?s_23 A_18.out).mono ?_); (case s_20 => exact Kd.C_below HR0_0.out (eI HB)); (case s_21 => exact HC0_0.out); (case s_22 => exact Kd.C_below HR0_1.out (eI HB)); (case s_23 => exact HC0_1.out); rintro e w_19 ⟨v26, v27, rfl, ho24, ho25, hb⟩; refine ⟨_, rfl, ?_⟩; obtain ⟨lo28, hi29, hle_, hsz_, hin_⟩ := newRng HB HS hb; have ho_0 := Aside0.mk (hin_.r ho24); have ho_1 := Aside0.mk (hin_.r ho25); have n0_ := Aside0.mk (sI hb HB); have n1_ := Aside0.mk (hsz_); have n2_ := Aside0.mk (kbI hb BKgb1); clear HB HS BKgb1; have HB := n0_; have HS := n1_; have BKgb1 := n2_; clear n0_ n1_ n2_ hb; (try clear hczgb1_0); have hczgb1_0 := cz BKgb1.out 0; (try clear hfzgb1_0); have hfzgb1_0 := blk_frozen BKgb1.out 0; (try clear hczgb1_1); have hczgb1_1 := cz BKgb1.out 1; (try clear hfzgb1_1); have hfzgb1_1 := blk_frozen BKgb1.out 1; have HE30 := Aside0.mk hle_; clear hle_ hsz_ hin_ ho24 ho25; have HO33 := ho_0; clear ho_0; obtain ⟨Ao31, co32, e_⟩ := Kd.R_slice (HO33.out); subst e_; have HO36 := ho_1; clear ho_1; obtain ⟨Ao34, co35, e_⟩ := Kd.R_slice (HO36.out); subst e_) | ((with_reducible refine gate_callee (f := 31) rfl ?_); refine gL (some 37) Try.func31 #[.slice A1 l1.length c1] ?_; (with_reducible refine (laws_toPartS.calls k _ _ _ _ _ ?s_40 ?s_41 A_38.out).mono ?_); (case s_40 => exact Kd.C_below HR1.out (eI HB)); (case s_41 => exact HC1.out); rintro e w_39 ⟨v43, rfl, ho42, hb⟩; refine ⟨_, rfl, ?_⟩; obtain ⟨lo44, hi45, hle_, hsz_, hin_⟩ := newRng HB HS hb; have ho_0 := Aside0.mk (hin_.s ho42); have n0_ := Aside0.mk (rbI hb HO33); have n1_ := Aside0.mk (rbI hb HO36); have n2_ := Aside0.mk (sI hb HB); have n3_ := Aside0.mk (hsz_); have n4_ := Aside0.mk (kbI hb BKgb1); clear HO33 HO36 HB HS BKgb1; have HO33 := n0_; have HO36 := n1_; have HB := n2_; have HS := n3_; have BKgb1 := n4_; clear n0_ n1_ n2_ n3_ n4_ hb; (try clear hczgb1_0); have hczgb1_0 := cz BKgb1.out 0; (try clear hfzgb1_0); have hfzgb1_0 := blk_frozen BKgb1.out 0; (try clear hczgb1_1); have hczgb1_1 := cz BKgb1.out 1; (try clear hfzgb1_1); have hfzgb1_1 := blk_frozen BKgb1.out 1; have HE46 := Aside0.mk hle_; clear hle_ hsz_ hin_ ho42; have HO49 := ho_0; clear ho_0; obtain ⟨Ao47, co48, e_⟩ := Kd.R_slice (Kd.S_R HO49.out); subst e_) | ((with_reducible refine gate_callee (f := 42) rfl ?_); refine gL (some 39) Try.func42 #[.slice A2 l2.length c2] ?_; (with_reducible refine (laws_toIntS.calls k _ _ _ _ _ ?s_53 ?s_54 A_51.out).mono ?_); (case s_53 => exact Kd.C_below HR2.out (eI HB)); (case s_54 => exact HC2.out); rintro e w_52 ⟨v56, rfl, ho55, hb⟩; refine ⟨_, rfl, ?_⟩; obtain ⟨lo57, hi58, hle_, hsz_, hin_⟩ := newRng HB HS hb; have ho_0 := Aside0.mk (hin_.r ho55); have n0_ := Aside0.mk (rbI hb HO33); have n1_ := Aside0.mk (rbI hb HO36); have n2_ := Aside0.mk (sbI hb HO49); have n3_ := Aside0.mk (sI hb HB); have n4_ := Aside0.mk (hsz_); have n5_ := Aside0.mk (kbI hb BKgb1); clear HO33 HO36 HO49 HB HS BKgb1; have HO33 := n0_; have HO36 := n1_; have HO49 := n2_; have HB := n3_; have HS := n4_; have BKgb1 := n5_; clear n0_ n1_ n2_ n3_ n4_ n5_ hb; (try clear hczgb1_0); have hczgb1_0 := cz BKgb1.out 0; (try clear hfzgb1_0); have hfzgb1_0 := blk_frozen BKgb1.out 0; (try clear hczgb1_1); have hczgb1_1 := cz BKgb1.out 1; (try clear hfzgb1_1); have hfzgb1_1 := blk_frozen BKgb1.out 1; have HE59 := Aside0.mk hle_; clear hle_ hsz_ hin_ ho55; have HO62 := ho_0; clear ho_0; obtain ⟨Ao60, co61, e_⟩ := Kd.R_slice (HO62.out); subst e_) | ((with_reducible refine gate_callee (f := 41) rfl ?_); refine gL (some 40) Try.func41 #[.agg #[.slice Ao31 t16.length co32, .slice Ao34 t17.length co35], .slice Ao47 t37.length co48, .slice Ao60 t50.length co61] ?_; (with_reducible refine (spec_DropVoid.calls k _ _ _ _ _ _ _ _ _ _ _ _ _ _ _ ?s_67 ?s_68 ?s_69 ?s_70 ?s_71 ?s_72 ?s_73 ?s_74 A_65.out).mono ?_); (case s_67 => exact (rcI HO33).1); (case s_68 => exact (rcR HO33).2); (case s_69 => exact (rcI HO36).1); (case s_70 => exact (rcR HO36).2); (case s_71 => exact (scI HO49).1); (case s_72 => exact (scR HO49).2); (case s_73 => exact (rcI HO62).1); (case s_74 => exact (rcR HO62).2); rintro e w_66 ⟨v76, rfl, ho75, hb⟩; refine ⟨_, rfl, ?_⟩; obtain ⟨lo77, hi78, hle_, hsz_, hin_⟩ := newRng HB HS hb; have ho_0 := Aside0.mk (hin_.s ho75); have n0_ := Aside0.mk (rbI hb HO33); have n1_ := Aside0.mk (rbI hb HO36); have n2_ := Aside0.mk (sbI hb HO49); have n3_ := Aside0.mk (rbI hb HO62); have n4_ := Aside0.mk (sI hb HB); have n5_ := Aside0.mk (hsz_); have n6_ := Aside0.mk (kbI hb BKgb1); clear HO33 HO36 HO49 HO62 HB HS BKgb1; have HO33 := n0_; have HO36 := n1_; have HO49 := n2_; have HO62 := n3_; have HB := n4_; have HS := n5_; have BKgb1 := n6_; clear n0_ n1_ n2_ n3_ n4_ n5_ n6_ hb; (try clear hczgb1_0); have hczgb1_0 := cz BKgb1.out 0; (try clear hfzgb1_0); have hfzgb1_0 := blk_frozen BKgb1.out 0; (try clear hczgb1_1); have hczgb1_1 := cz BKgb1.out 1; (try clear hfzgb1_1); have hfzgb1_1 := blk_frozen BKgb1.out 1; have HE79 := Aside0.mk hle_; clear hle_ hsz_ hin_ ho75; have HO82 := ho_0; clear ho_0; obtain ⟨Ao80, co81, e_⟩ := Kd.R_slice (Kd.S_R HO82.out); subst e_) | ((with_reducible refine gate_callee (f := 30) rfl ?_); refine gL (some 44) Try.func30 #[.agg #[.slice A0_0 l0_0.length c0_0, .slice A0_1 l0_1.length c0_1]] ?_; (with_reducible refine (laws_toRecord.calls k _ _ _ _ _ _ _ _ _ ?s_87 ?s_88 ?s_89 ?s_90 A_85.out).mono ?_); (case s_87 => exact Kd.C_below HR0_0.out (eI HB)); (case s_88 => exact HC0_0.out); (case s_89 => exact Kd.C_below HR0_1.out (eI HB)); (case s_90 => exact HC0_1.out); rintro e w_86 ⟨v93, v94, rfl, ho91, ho92, hb⟩; refine ⟨_, rfl, ?_⟩; obtain ⟨lo95, hi96, hle_, hsz_, hin_⟩ := newRng HB HS hb; have ho_0 := Aside0.mk (hin_.r ho91); have ho_1 := Aside0.mk (hin_.r ho92); have n0_ := Aside0.mk (rbI hb HO33); have n1_ := Aside0.mk (rbI hb HO36); have n2_ := Aside0.mk (sbI hb HO49); have n3_ := Aside0.mk (rbI hb HO62); have n4_ := Aside0.mk (sbI hb HO82); have n5_ := Aside0.mk (sI hb HB); have n6_ := Aside0.mk (hsz_); have n7_ := Aside0.mk (kbI hb BKgb1); clear HO33 HO36 HO49 HO62 HO82 HB HS BKgb1; have HO33 := n0_; have HO36 := n1_; have HO49 := n2_; have HO62 := n3_; have HO82 := n4_; have HB := n5_; have HS := n6_; have BKgb1 := n7_; clear n0_ n1_ n2_ n3_ n4_ n5_ n6_ n7_ hb; (try clear hczgb1_0); have hczgb1_0 := cz BKgb1.out 0; (try clear hfzgb1_0); have hfzgb1_0 := blk_frozen BKgb1.out 0; (try clear hczgb1_1); have hczgb1_1 := cz BKgb1.out 1; (try clear hfzgb1_1); have hfzgb1_1 := blk_frozen BKgb1.out 1; have HE97 := Aside0.mk hle_; clear hle_ hsz_ hin_ ho91 ho92; have HO100 := ho_0; clear ho_0; obtain ⟨Ao98, co99, e_⟩ := Kd.R_slice (HO100.out); subst e_; have HO103 := ho_1; clear ho_1; obtain ⟨Ao101, co102, e_⟩ := Kd.R_slice (HO103.out); subst e_) | ((with_reducible refine gate_dst (N := 10) rfl ?_); refine box_event ?hggb104 (N := 10) ?hdgb104 (cs := #[.slice none 0 0, .slice none 0 0]) (t := 61) ?hrgb104 ?_; (case hdgb104 => rfl); (case hggb104 => rfl); (case hrgb104 => first | (go_simp; done) | (go_simp; rfl)); intro gb104 hg w_106 hbox hb; have HE105 := Aside0.mk (And.intro (leG hg HS) (Nat.le_succ gb104)); have hs_ := Aside0.mk (blk_lt hbox); have BKgb104 := Aside0.mk hbox; clear HS; have HS := hs_; clear hs_; have n0_ := Aside0.mk (rbI hb HO33); have n1_ := Aside0.mk (rbI hb HO36); have n2_ := Aside0.mk (sbI hb HO49); have n3_ := Aside0.mk (rbI hb HO62); have n4_ := Aside0.mk (sbI hb HO82); have n5_ := Aside0.mk (rbI hb HO100); have n6_ := Aside0.mk (rbI hb HO103); have n7_ := Aside0.mk (sI hb HB); have n8_ := Aside0.mk (kbI hb BKgb1); clear HO33 HO36 HO49 HO62 HO82 HO100 HO103 HB BKgb1; have HO33 := n0_; have HO36 := n1_; have HO49 := n2_; have HO62 := n3_; have HO82 := n4_; have HO100 := n5_; have HO103 := n6_; have HB := n7_; have BKgb1 := n8_; clear n0_ n1_ n2_ n3_ n4_ n5_ n6_ n7_ n8_ hg hbox hb; (try clear hczgb1_0); have hczgb1_0 := cz BKgb1.out 0; (try clear hfzgb1_0); have hfzgb1_0 := blk_frozen BKgb1.out 0; (try clear hczgb1_1); have hczgb1_1 := cz BKgb1.out 1; (try clear hfzgb1_1); have hfzgb1_1 := blk_frozen BKgb1.out 1; (try clear hczgb104_0); have hczgb104_0 := cz BKgb104.out 0; (try clear hfzgb104_0); have hfzgb104_0 := blk_frozen BKgb104.out 0; (try clear hczgb104_1); have hczgb104_1 := cz BKgb104.out 1; (try clear hfzgb104_1); have hfzgb104_1 := blk_frozen BKgb104.out 1) | ((with_reducible refine gate_store (t := 61) (p := 10) rfl ?_); refine put_event rfl rfl 61 (.tmp 10) _ rfl _ [.slice Ao98 t83.length co99, .slice Ao101 t84.length co102] rfl rfl rfl (by kernel_rfl) rfl (kI BKgb104) rfl ?_; intro w_107 hp_ hk hbg; have n0_ := Aside0.mk (krI hk HO33 (by have h0_ := HE2.out; have h1_ := HE30.out; have h2_ := HE46.out; have h3_ := HE59.out; have h4_ := HE79.out; have h5_ := HE97.out; have h6_ := HE105.out; omega)); have n1_ := Aside0.mk (krI hk HO36 (by have h0_ := HE2.out; have h1_ := HE30.out; have h2_ := HE46.out; have h3_ := HE59.out; have h4_ := HE79.out; have h5_ := HE97.out; have h6_ := HE105.out; omega)); have n2_ := Aside0.mk (ksI hk HO49 (by have h0_ := HE2.out; have h1_ := HE30.out; have h2_ := HE46.out; have h3_ := HE59.out; have h4_ := HE79.out; have h5_ := HE97.out; have h6_ := HE105.out; omega)); have n3_ := Aside0.mk (krI hk HO62 (by have h0_ := HE2.out; have h1_ := HE30.out; have h2_ := HE46.out; have h3_ := HE59.out; have h4_ := HE79.out; have h5_ := HE97.out; have h6_ := HE105.out; omega)); have n4_ := Aside0.mk (ksI hk HO82 (by have h0_ := HE2.out; have h1_ := HE30.out; have h2_ := HE46.out; have h3_ := HE59.out; have h4_ := HE79.out; have h5_ := HE97.out; have h6_ := HE105.out; omega)); have n5_ := Aside0.mk (krI hk HO100 (by have h0_ := HE2.out; have h1_ := HE30.out; have h2_ := HE46.out; have h3_ := HE59.out; have h4_ := HE79.out; have h5_ := HE97.out; have h6_ := HE105.out; omega)); have n6_ := Aside0.mk (krI hk HO103 (by have h0_ := HE2.out; have h1_ := HE30.out; have h2_ := HE46.out; have h3_ := HE59.out; have h4_ := HE79.out; have h5_ := HE97.out; have h6_ := HE105.out; omega)); have n7_ := Aside0.mk (bkI hk BKgb1 (by have h0_ := HE2.out; have h1_ := HE30.out; have h2_ := HE46.out; have h3_ := HE59.out; have h4_ := HE79.out; have h5_ := HE97.out; have h6_ := HE105.out; omega)); have n8_ := Aside0.mk (puI hbg HB (by have h0_ := HE2.out; have h1_ := HE30.out; have h2_ := HE46.out; have h3_ := HE59.out; have h4_ := HE79.out; have h5_ := HE97.out; have h6_ := HE105.out; omega)); have n9_ := Aside0.mk (leK hk HS); have n10_ := Aside0.mk (hp_); clear HO33 HO36 HO49 HO62 HO82 HO100 HO103 BKgb1 HB HS BKgb104; have HO33 := n0_; have HO36 := n1_; have HO49 := n2_; have HO62 := n3_; have HO82 := n4_; have HO100 := n5_; have HO103 := n6_; have BKgb1 := n7_; have HB := n8_; have HS := n9_; have BKgb104 := n10_; clear n0_ n1_ n2_ n3_ n4_ n5_ n6_ n7_ n8_ n9_ n10_ hp_ hk hbg; (try clear hczgb1_0); have hczgb1_0 := cz BKgb1.out 0; (try clear hfzgb1_0); have hfzgb1_0 := blk_frozen BKgb1.out 0; (try clear hczgb1_1); have hczgb1_1 := cz BKgb1.out 1; (try clear hfzgb1_1); have hfzgb1_1 := blk_frozen BKgb1.out 1; (try clear hczgb104_0); have hczgb104_0 := cz BKgb104.out 0; (try clear hfzgb104_0); have hfzgb104_0 := blk_frozen BKgb104.out 0; (try clear hczgb104_1); have hczgb104_1 := cz BKgb104.out 1; (try clear hfzgb104_1); have hfzgb104_1 := blk_frozen BKgb104.out 1) | ((with_reducible refine gate_callee (f := 31) rfl ?_); refine gL (some 46) Try.func31 #[.slice A1 l1.length c1] ?_; (with_reducible refine (laws_toPartS.calls k _ _ _ _ _ ?s_111 ?s_112 A_109.out).mono ?_); (case s_111 => exact Kd.C_below HR1.out (eI HB)); (case s_112 => exact HC1.out); rintro e w_110 ⟨v114, rfl, ho113, hb⟩; refine ⟨_, rfl, ?_⟩; obtain ⟨lo115, hi116, hle_, hsz_, hin_⟩ := newRng HB HS hb; have ho_0 := Aside0.mk (hin_.s ho113); have n0_ := Aside0.mk (rbI hb HO33); have n1_ := Aside0.mk (rbI hb HO36); have n2_ := Aside0.mk (sbI hb HO49); have n3_ := Aside0.mk (rbI hb HO62); have n4_ := Aside0.mk (sbI hb HO82); have n5_ := Aside0.mk (rbI hb HO100); have n6_ := Aside0.mk (rbI hb HO103); have n7_ := Aside0.mk (sI hb HB); have n8_ := Aside0.mk (hsz_); have n9_ := Aside0.mk (kbI hb BKgb1); have n10_ := Aside0.mk (kbI hb BKgb104); clear HO33 HO36 HO49 HO62 HO82 HO100 HO103 HB HS BKgb1 BKgb104; have HO33 := n0_; have HO36 := n1_; have HO49 := n2_; have HO62 := n3_; have HO82 := n4_; have HO100 := n5_; have HO103 := n6_; have HB := n7_; have HS := n8_; have BKgb1 := n9_; have BKgb104 := n10_; clear n0_ n1_ n2_ n3_ n4_ n5_ n6_ n7_ n8_ n9_ n10_ hb; (try clear hczgb1_0); have hczgb1_0 := cz BKgb1.out 0; (try clear hfzgb1_0); have hfzgb1_0 := blk_frozen BKgb1.out 0; (try clear hczgb1_1); have hczgb1_1 := cz BKgb1.out 1; (try clear hfzgb1_1); have hfzgb1_1 := blk_frozen BKgb1.out 1; (try clear hczgb104_0); have hczgb104_0 := cz BKgb104.out 0; (try clear hfzgb104_0); have hfzgb104_0 := blk_frozen BKgb104.out 0; (try clear hczgb104_1); have hczgb104_1 := cz BKgb104.out 1; (try clear hfzgb104_1); have hfzgb104_1 := blk_frozen BKgb104.out 1; have HE117 := Aside0.mk hle_; clear hle_ hsz_ hin_ ho113; have HO120 := ho_0; clear ho_0; obtain ⟨Ao118, co119, e_⟩ := Kd.R_slice (Kd.S_R HO120.out); subst e_) | ((with_reducible refine gate_callee (f := 42) rfl ?_); refine gL (some 48) Try.func42 #[.slice A2 l2.length c2] ?_; (with_reducible refine (laws_toIntS.calls k _ _ _ _ _ ?s_124 ?s_125 A_122.out).mono ?_); (case s_124 => exact Kd.C_below HR2.out (eI HB)); (case s_125 => exact HC2.out); rintro e w_123 ⟨v127, rfl, ho126, hb⟩; refine ⟨_, rfl, ?_⟩; obtain ⟨lo128, hi129, hle_, hsz_, hin_⟩ := newRng HB HS hb; have ho_0 := Aside0.mk (hin_.r ho126); have n0_ := Aside0.mk (rbI hb HO33); have n1_ := Aside0.mk (rbI hb HO36); have n2_ := Aside0.mk (sbI hb HO49); have n3_ := Aside0.mk (rbI hb HO62); have n4_ := Aside0.mk (sbI hb HO82); have n5_ := Aside0.mk (rbI hb HO100); have n6_ := Aside0.mk (rbI hb HO103); have n7_ := Aside0.mk (sbI hb HO120); have n8_ := Aside0.mk (sI hb HB); have n9_ := Aside0.mk (hsz_); have n10_ := Aside0.mk (kbI hb BKgb1); have n11_ := Aside0.mk (kbI hb BKgb104); clear HO33 HO36 HO49 HO62 HO82 HO100 HO103 HO120 HB HS BKgb1 BKgb104; have HO33 := n0_; have HO36 := n1_; have HO49 := n2_; have HO62 := n3_; have HO82 := n4_; have HO100 := n5_; have HO103 := n6_; have HO120 := n7_; have HB := n8_; have HS := n9_; have BKgb1 := n10_; have BKgb104 := n11_; clear n0_ n1_ n2_ n3_ n4_ n5_ n6_ n7_ n8_ n9_ n10_ n11_ hb; (try clear hczgb1_0); have hczgb1_0 := cz BKgb1.out 0; (try clear hfzgb1_0); have hfzgb1_0 := blk_frozen BKgb1.out 0; (try clear hczgb1_1); have hczgb1_1 := cz BKgb1.out 1; (try clear hfzgb1_1); have hfzgb1_1 := blk_frozen BKgb1.out 1; (try clear hczgb104_0); have hczgb104_0 := cz BKgb104.out 0; (try clear hfzgb104_0); have hfzgb104_0 := blk_frozen BKgb104.out 0; (try clear hczgb104_1); have hczgb104_1 := cz BKgb104.out 1; (try clear hfzgb104_1); have hfzgb104_1 := blk_frozen BKgb104.out 1; have HE130 := Aside0.mk hle_; clear hle_ hsz_ hin_ ho126; have HO133 := ho_0; clear ho_0; obtain ⟨Ao131, co132, e_⟩ := Kd.R_slice (HO133.out); subst e_) | ((with_reducible refine gate_callee (f := 43) rfl ?_); refine gL (some 53) Try.func43 #[.agg #[.slice Ao98 t83.length co99, .slice Ao101 t84.length co102], .slice Ao118 t108.length co119, .slice Ao131 t121.length co132] ?_; (with_reducible refine (impl_DropVoid.calls k _ _ _ _ _ _ _ _ _ _ _ _ _ _ _ ?s_138 ?s_139 ?s_140 ?s_141 ?s_142 ?s_143 ?s_144 ?s_145 A_136.out).mono ?_); (case s_138 => exact (rcI HO100).1); (case s_139 => exact (rcR HO100).2); (case s_140 => exact (rcI HO103).1); (case s_141 => exact (rcR HO103).2); (case s_142 => exact (scI HO120).1); (case s_143 => exact (scR HO120).2); (case s_144 => exact (rcI HO133).1); (case s_145 => exact (rcR HO133).2); rintro e w_137 ⟨v147, rfl, ho146, hb⟩; refine ⟨_, rfl, ?_⟩; obtain ⟨lo148, hi149, hle_, hsz_, hin_⟩ := newRng HB HS hb; have ho_0 := Aside0.mk (hin_.s ho146); have n0_ := Aside0.mk (rbI hb HO33); have n1_ := Aside0.mk (rbI hb HO36); have n2_ := Aside0.mk (sbI hb HO49); have n3_ := Aside0.mk (rbI hb HO62); have n4_ := Aside0.mk (sbI hb HO82); have n5_ := Aside0.mk (rbI hb HO100); have n6_ := Aside0.mk (rbI hb HO103); have n7_ := Aside0.mk (sbI hb HO120); have n8_ := Aside0.mk (rbI hb HO133); have n9_ := Aside0.mk (sI hb HB); have n10_ := Aside0.mk (hsz_); have n11_ := Aside0.mk (kbI hb BKgb1); have n12_ := Aside0.mk (kbI hb BKgb104); clear HO33 HO36 HO49 HO62 HO82 HO100 HO103 HO120 HO133 HB HS BKgb1 BKgb104; have HO33 := n0_; have HO36 := n1_; have HO49 := n2_; have HO62 := n3_; have HO82 := n4_; have HO100 := n5_; have HO103 := n6_; have HO120 := n7_; have HO133 := n8_; have HB := n9_; have HS := n10_; have BKgb1 := n11_; have BKgb104 := n12_; clear n0_ n1_ n2_ n3_ n4_ n5_ n6_ n7_ n8_ n9_ n10_ n11_ n12_ hb; (try clear hczgb1_0); have hczgb1_0 := cz BKgb1.out 0; (try clear hfzgb1_0); have hfzgb1_0 := blk_frozen BKgb1.out 0; (try clear hczgb1_1); have hczgb1_1 := cz BKgb1.out 1; (try clear hfzgb1_1); have hfzgb1_1 := blk_frozen BKgb1.out 1; (try clear hczgb104_0); have hczgb104_0 := cz BKgb104.out 0; (try clear hfzgb104_0); have hfzgb104_0 := blk_frozen BKgb104.out 0; (try clear hczgb104_1); have hczgb104_1 := cz BKgb104.out 1; (try clear hfzgb104_1); have hfzgb104_1 := blk_frozen BKgb104.out 1; have HE150 := Aside0.mk hle_; clear hle_ hsz_ hin_ ho146; have HO153 := ho_0; clear ho_0; obtain ⟨Ao151, co152, e_⟩ := Kd.R_slice (Kd.S_R HO153.out); subst e_) | ((with_reducible refine gate_callee (f := 34) rfl ?_); refine gL (some 58) Try.func34 #[.slice Ao151 t134.length co152, .slice Ao80 t63.length co81] ?_; (with_reducible refine (laws_eqPartS.calls k _ _ _ _ _ _ _ _ ?s_157 ?s_158 ?s_159 ?s_160 A_155.out ⟨rfl⟩).mono ?_); (case s_157 => exact (scI HO153).1); (case s_158 => exact (scR HO153).2); (case s_159 => exact (scI HO82).1); (case s_160 => exact (scR HO82).2); rintro e w_156 ⟨rfl, hb⟩; refine ⟨_, rfl, ?_⟩; have n0_ := Aside0.mk (rbI hb HO33); have n1_ := Aside0.mk (rbI hb HO36); have n2_ := Aside0.mk (sbI hb HO49); have n3_ := Aside0.mk (rbI hb HO62); have n4_ := Aside0.mk (sbI hb HO82); have n5_ := Aside0.mk (rbI hb HO100); have n6_ := Aside0.mk (rbI hb HO103); have n7_ := Aside0.mk (sbI hb HO120); have n8_ := Aside0.mk (rbI hb HO133); have n9_ := Aside0.mk (sbI hb HO153); have n10_ := Aside0.mk (sI hb HB); have n11_ := Aside0.mk (leI hb HS); have n12_ := Aside0.mk (kbI hb BKgb1); have n13_ := Aside0.mk (kbI hb BKgb104); clear HO33 HO36 HO49 HO62 HO82 HO100 HO103 HO120 HO133 HO153 HB HS BKgb1 BKgb104; have HO33 := n0_; have HO36 := n1_; have HO49 := n2_; have HO62 := n3_; have HO82 := n4_; have HO100 := n5_; have HO103 := n6_; have HO120 := n7_; have HO133 := n8_; have HO153 := n9_; have HB := n10_; have HS := n11_; have BKgb1 := n12_; have BKgb104 := n13_; clear n0_ n1_ n2_ n3_ n4_ n5_ n6_ n7_ n8_ n9_ n10_ n11_ n12_ n13_ hb; (try clear hczgb1_0); have hczgb1_0 := cz BKgb1.out 0; (try clear hfzgb1_0); have hfzgb1_0 := blk_frozen BKgb1.out 0; (try clear hczgb1_1); have hczgb1_1 := cz BKgb1.out 1; (try clear hfzgb1_1); have hfzgb1_1 := blk_frozen BKgb1.out 1; (try clear hczgb104_0); have hczgb104_0 := cz BKgb104.out 0; (try clear hfzgb104_0); have hfzgb104_0 := blk_frozen BKgb104.out 0; (try clear hczgb104_1); have hczgb104_1 := cz BKgb104.out 1; (try clear hfzgb104_1); have hfzgb104_1 := blk_frozen BKgb104.out 1) | ((with_reducible refine gate_callee (f := 30) rfl ?_); refine gL (some 67) Try.func30 #[.agg #[.slice A0_0 l0_0.length c0_0, .slice A0_1 l0_1.length c0_1]] ?_; (with_reducible refine (laws_toRecord.calls k _ _ _ _ _ _ _ _ _ ?s_165 ?s_166 ?s_167 ?s_168 A_163.out).mono ?_); (case s_165 => exact Kd.C_below HR0_0.out (eI HB)); (case s_166 => exact HC0_0.out); (case s_167 => exact Kd.C_below HR0_1.out (eI HB)); (case s_168 => exact HC0_1.out); rintro e w_164 ⟨v171, v172, rfl, ho169, ho170, hb⟩; refine ⟨_, rfl, ?_⟩; obtain ⟨lo173, hi174, hle_, hsz_, hin_⟩ := newRng HB HS hb; have ho_0 := Aside0.mk (hin_.r ho169); have ho_1 := Aside0.mk (hin_.r ho170); have n0_ := Aside0.mk (rbI hb HO33); have n1_ := Aside0.mk (rbI hb HO36); have n2_ := Aside0.mk (sbI hb HO49); have n3_ := Aside0.mk (rbI hb HO62); have n4_ := Aside0.mk (sbI hb HO82); have n5_ := Aside0.mk (rbI hb HO100); have n6_ := Aside0.mk (rbI hb HO103); have n7_ := Aside0.mk (sbI hb HO120); have n8_ := Aside0.mk (rbI hb HO133); have n9_ := Aside0.mk (sbI hb HO153); have n10_ := Aside0.mk (sI hb HB); have n11_ := Aside0.mk (hsz_); have n12_ := Aside0.mk (kbI hb BKgb1); have n13_ := Aside0.mk (kbI hb BKgb104); clear HO33 HO36 HO49 HO62 HO82 HO100 HO103 HO120 HO133 HO153 HB HS BKgb1 BKgb104; have HO33 := n0_; have HO36 := n1_; have HO49 := n2_; have HO62 := n3_; have HO82 := n4_; have HO100 := n5_; have HO103 := n6_; have HO120 := n7_; have HO133 := n8_; have HO153 := n9_; have HB := n10_; have HS := n11_; have BKgb1 := n12_; have BKgb104 := n13_; clear n0_ n1_ n2_ n3_ n4_ n5_ n6_ n7_ n8_ n9_ n10_ n11_ n12_ n13_ hb; (try clear hczgb1_0); have hczgb1_0 := cz BKgb1.out 0; (try clear hfzgb1_0); have hfzgb1_0 := blk_frozen BKgb1.out 0; (try clear hczgb1_1); have hczgb1_1 := cz BKgb1.out 1; (try clear hfzgb1_1); have hfzgb1_1 := blk_frozen BKgb1.out 1; (try clear hczgb104_0); have hczgb104_0 := cz BKgb104.out 0; (try clear hfzgb104_0); have hfzgb104_0 := blk_frozen BKgb104.out 0; (try clear hczgb104_1); have hczgb104_1 := cz BKgb104.out 1; (try clear hfzgb104_1); have hfzgb104_1 := blk_frozen BKgb104.out 1; have HE175 := Aside0.mk hle_; clear hle_ hsz_ hin_ ho169 ho170; have HO178 := ho_0; clear ho_0; obtain ⟨Ao176, co177, e_⟩ := Kd.R_slice (HO178.out); subst e_; have HO181 := ho_1; clear ho_1; obtain ⟨Ao179, co180, e_⟩ := Kd.R_slice (HO181.out); subst e_) | ((with_reducible refine gate_callee (f := 35) rfl ?_); refine gL (some 68) Try.func35 #[.agg #[.slice Ao98 t83.length co99, .slice Ao101 t84.length co102], .agg #[.slice Ao176 t161.length co177, .slice Ao179 t162.length co180]] ?_; (with_reducible refine (laws_eqRecord.calls k _ _ _ _ _ _ _ _ _ _ _ _ _ _ ?s_185 ?s_186 ?s_187 ?s_188 ?s_189 ?s_190 ?s_191 ?s_192 A_183.out ⟨rfl⟩).mono ?_); (case s_185 => exact (rcI HO100).1); (case s_186 => exact (rcR HO100).2); (case s_187 => exact (rcI HO103).1); (case s_188 => exact (rcR HO103).2); (case s_189 => exact (rcI HO178).1); (case s_190 => exact (rcR HO178).2); (case s_191 => exact (rcI HO181).1); (case s_192 => exact (rcR HO181).2); rintro e w_184 ⟨rfl, hb⟩; refine ⟨_, rfl, ?_⟩; have n0_ := Aside0.mk (rbI hb HO33); have n1_ := Aside0.mk (rbI hb HO36); have n2_ := Aside0.mk (sbI hb HO49); have n3_ := Aside0.mk (rbI hb HO62); have n4_ := Aside0.mk (sbI hb HO82); have n5_ := Aside0.mk (rbI hb HO100); have n6_ := Aside0.mk (rbI hb HO103); have n7_ := Aside0.mk (sbI hb HO120); have n8_ := Aside0.mk (rbI hb HO133); have n9_ := Aside0.mk (sbI hb HO153); have n10_ := Aside0.mk (rbI hb HO178); have n11_ := Aside0.mk (rbI hb HO181); have n12_ := Aside0.mk (sI hb HB); have n13_ := Aside0.mk (leI hb HS); have n14_ := Aside0.mk (kbI hb BKgb1); have n15_ := Aside0.mk (kbI hb BKgb104); clear HO33 HO36 HO49 HO62 HO82 HO100 HO103 HO120 HO133 HO153 HO178 HO181 HB HS BKgb1 BKgb104; have HO33 := n0_; have HO36 := n1_; have HO49 := n2_; have HO62 := n3_; have HO82 := n4_; have HO100 := n5_; have HO103 := n6_; have HO120 := n7_; have HO133 := n8_; have HO153 := n9_; have HO178 := n10_; have HO181 := n11_; have HB := n12_; have HS := n13_; have BKgb1 := n14_; have BKgb104 := n15_; clear n0_ n1_ n2_ n3_ n4_ n5_ n6_ n7_ n8_ n9_ n10_ n11_ n12_ n13_ n14_ n15_ hb; (try clear hczgb1_0); have hczgb1_0 := cz BKgb1.out 0; (try clear hfzgb1_0); have hfzgb1_0 := blk_frozen BKgb1.out 0; (try clear hczgb1_1); have hczgb1_1 := cz BKgb1.out 1; (try clear hfzgb1_1); have hfzgb1_1 := blk_frozen BKgb1.out 1; (try clear hczgb104_0); have hczgb104_0 := cz BKgb104.out 0; (try clear hfzgb104_0); have hfzgb104_0 := blk_frozen BKgb104.out 0; (try clear hczgb104_1); have hczgb104_1 := cz BKgb104.out 1; (try clear hfzgb104_1); have hfzgb104_1 := blk_frozen BKgb104.out 1) | ((with_reducible refine gate_callee (f := 31) rfl ?_); refine gL (some 72) Try.func31 #[.slice A1 l1.length c1] ?_; (with_reducible refine (laws_toPartS.calls k _ _ _ _ _ ?s_196 ?s_197 A_194.out).mono ?_); (case s_196 => exact Kd.C_below HR1.out (eI HB)); (case s_197 => exact HC1.out); rintro e w_195 ⟨v199, rfl, ho198, hb⟩; refine ⟨_, rfl, ?_⟩; obtain ⟨lo200, hi201, hle_, hsz_, hin_⟩ := newRng HB HS hb; have ho_0 := Aside0.mk (hin_.s ho198); have n0_ := Aside0.mk (rbI hb HO33); have n1_ := Aside0.mk (rbI hb HO36); have n2_ := Aside0.mk (sbI hb HO49); have n3_ := Aside0.mk (rbI hb HO62); have n4_ := Aside0.mk (sbI hb HO82); have n5_ := Aside0.mk (rbI hb HO100); have n6_ := Aside0.mk (rbI hb HO103); have n7_ := Aside0.mk (sbI hb HO120); have n8_ := Aside0.mk (rbI hb HO133); have n9_ := Aside0.mk (sbI hb HO153); have n10_ := Aside0.mk (rbI hb HO178); have n11_ := Aside0.mk (rbI hb HO181); have n12_ := Aside0.mk (sI hb HB); have n13_ := Aside0.mk (hsz_); have n14_ := Aside0.mk (kbI hb BKgb1); have n15_ := Aside0.mk (kbI hb BKgb104); clear HO33 HO36 HO49 HO62 HO82 HO100 HO103 HO120 HO133 HO153 HO178 HO181 HB HS BKgb1 BKgb104; have HO33 := n0_; have HO36 := n1_; have HO49 := n2_; have HO62 := n3_; have HO82 := n4_; have HO100 := n5_; have HO103 := n6_; have HO120 := n7_; have HO133 := n8_; have HO153 := n9_; have HO178 := n10_; have HO181 := n11_; have HB := n12_; have HS := n13_; have BKgb1 := n14_; have BKgb104 := n15_; clear n0_ n1_ n2_ n3_ n4_ n5_ n6_ n7_ n8_ n9_ n10_ n11_ n12_ n13_ n14_ n15_ hb; (try clear hczgb1_0); have hczgb1_0 := cz BKgb1.out 0; (try clear hfzgb1_0); have hfzgb1_0 := blk_frozen BKgb1.out 0; (try clear hczgb1_1); have hczgb1_1 := cz BKgb1.out 1; (try clear hfzgb1_1); have hfzgb1_1 := blk_frozen BKgb1.out 1; (try clear hczgb104_0); have hczgb104_0 := cz BKgb104.out 0; (try clear hfzgb104_0); have hfzgb104_0 := blk_frozen BKgb104.out 0; (try clear hczgb104_1); have hczgb104_1 := cz BKgb104.out 1; (try clear hfzgb104_1); have hfzgb104_1 := blk_frozen BKgb104.out 1; have HE202 := Aside0.mk hle_; clear hle_ hsz_ hin_ ho198; have HO205 := ho_0; clear ho_0; obtain ⟨Ao203, co204, e_⟩ := Kd.R_slice (Kd.S_R HO205.out); subst e_) | ((with_reducible refine gate_callee (f := 34) rfl ?_); refine gL (some 73) Try.func34 #[.slice Ao118 t108.length co119, .slice Ao203 t193.length co204] ?_; (with_reducible refine (laws_eqPartS.calls k _ _ _ _ _ _ _ _ ?s_209 ?s_210 ?s_211 ?s_212 A_207.out ⟨rfl⟩).mono ?_); (case s_209 => exact (scI HO120).1); (case s_210 => exact (scR HO120).2); (case s_211 => exact (scI HO205).1); (case s_212 => exact (scR HO205).2); rintro e w_208 ⟨rfl, hb⟩; refine ⟨_, rfl, ?_⟩; have n0_ := Aside0.mk (rbI hb HO33); have n1_ := Aside0.mk (rbI hb HO36); have n2_ := Aside0.mk (sbI hb HO49); have n3_ := Aside0.mk (rbI hb HO62); have n4_ := Aside0.mk (sbI hb HO82); have n5_ := Aside0.mk (rbI hb HO100); have n6_ := Aside0.mk (rbI hb HO103); have n7_ := Aside0.mk (sbI hb HO120); have n8_ := Aside0.mk (rbI hb HO133); have n9_ := Aside0.mk (sbI hb HO153); have n10_ := Aside0.mk (rbI hb HO178); have n11_ := Aside0.mk (rbI hb HO181); have n12_ := Aside0.mk (sbI hb HO205); have n13_ := Aside0.mk (sI hb HB); have n14_ := Aside0.mk (leI hb HS); have n15_ := Aside0.mk (kbI hb BKgb1); have n16_ := Aside0.mk (kbI hb BKgb104); clear HO33 HO36 HO49 HO62 HO82 HO100 HO103 HO120 HO133 HO153 HO178 HO181 HO205 HB HS BKgb1 BKgb104; have HO33 := n0_; have HO36 := n1_; have HO49 := n2_; have HO62 := n3_; have HO82 := n4_; have HO100 := n5_; have HO103 := n6_; have HO120 := n7_; have HO133 := n8_; have HO153 := n9_; have HO178 := n10_; have HO181 := n11_; have HO205 := n12_; have HB := n13_; have HS := n14_; have BKgb1 := n15_; have BKgb104 := n16_; clear n0_ n1_ n2_ n3_ n4_ n5_ n6_ n7_ n8_ n9_ n10_ n11_ n12_ n13_ n14_ n15_ n16_ hb; (try clear hczgb1_0); have hczgb1_0 := cz BKgb1.out 0; (try clear hfzgb1_0); have hfzgb1_0 := blk_frozen BKgb1.out 0; (try clear hczgb1_1); have hczgb1_1 := cz BKgb1.out 1; (try clear hfzgb1_1); have hfzgb1_1 := blk_frozen BKgb1.out 1; (try clear hczgb104_0); have hczgb104_0 := cz BKgb104.out 0; (try clear hfzgb104_0); have hfzgb104_0 := blk_frozen BKgb104.out 0; (try clear hczgb104_1); have hczgb104_1 := cz BKgb104.out 1; (try clear hfzgb104_1); have hfzgb104_1 := blk_frozen BKgb104.out 1) | ((with_reducible refine gate_callee (f := 42) rfl ?_); refine gL (some 77) Try.func42 #[.slice A2 l2.length c2] ?_; (with_reducible refine (laws_toIntS.calls k _ _ _ _ _ ?s_216 ?s_217 A_214.out).mono ?_); (case s_216 => exact Kd.C_below HR2.out (eI HB)); (case s_217 => exact HC2.out); rintro e w_215 ⟨v219, rfl, ho218, hb⟩; refine ⟨_, rfl, ?_⟩; obtain ⟨lo220, hi221, hle_, hsz_, hin_⟩ := newRng HB HS hb; have ho_0 := Aside0.mk (hin_.r ho218); have n0_ := Aside0.mk (rbI hb HO33); have n1_ := Aside0.mk (rbI hb HO36); have n2_ := Aside0.mk (sbI hb HO49); have n3_ := Aside0.mk (rbI hb HO62); have n4_ := Aside0.mk (sbI hb HO82); have n5_ := Aside0.mk (rbI hb HO100); have n6_ := Aside0.mk (rbI hb HO103); have n7_ := Aside0.mk (sbI hb HO120); have n8_ := Aside0.mk (rbI hb HO133); have n9_ := Aside0.mk (sbI hb HO153); have n10_ := Aside0.mk (rbI hb HO178); have n11_ := Aside0.mk (rbI hb HO181); have n12_ := Aside0.mk (sbI hb HO205); have n13_ := Aside0.mk (sI hb HB); have n14_ := Aside0.mk (hsz_); have n15_ := Aside0.mk (kbI hb BKgb1); have n16_ := Aside0.mk (kbI hb BKgb104); clear HO33 HO36 HO49 HO62 HO82 HO100 HO103 HO120 HO133 HO153 HO178 HO181 HO205 HB HS BKgb1 BKgb104; have HO33 := n0_; have HO36 := n1_; have HO49 := n2_; have HO62 := n3_; have HO82 := n4_; have HO100 := n5_; have HO103 := n6_; have HO120 := n7_; have HO133 := n8_; have HO153 := n9_; have HO178 := n10_; have HO181 := n11_; have HO205 := n12_; have HB := n13_; have HS := n14_; have BKgb1 := n15_; have BKgb104 := n16_; clear n0_ n1_ n2_ n3_ n4_ n5_ n6_ n7_ n8_ n9_ n10_ n11_ n12_ n13_ n14_ n15_ n16_ hb; (try clear hczgb1_0); have hczgb1_0 := cz BKgb1.out 0; (try clear hfzgb1_0); have hfzgb1_0 := blk_frozen BKgb1.out 0; (try clear hczgb1_1); have hczgb1_1 := cz BKgb1.out 1; (try clear hfzgb1_1); have hfzgb1_1 := blk_frozen BKgb1.out 1; (try clear hczgb104_0); have hczgb104_0 := cz BKgb104.out 0; (try clear hfzgb104_0); have hfzgb104_0 := blk_frozen BKgb104.out 0; (try clear hczgb104_1); have hczgb104_1 := cz BKgb104.out 1; (try clear hfzgb104_1); have hfzgb104_1 := blk_frozen BKgb104.out 1; have HE222 := Aside0.mk hle_; clear hle_ hsz_ hin_ ho218; have HO225 := ho_0; clear ho_0; obtain ⟨Ao223, co224, e_⟩ := Kd.R_slice (HO225.out); subst e_) | ((with_reducible refine gate_callee (f := 14) rfl ?_); refine gL (some 78) Try.func14 #[.slice Ao131 t121.length co132, .slice Ao223 t213.length co224] ?_; (with_reducible refine (laws_eqIntS.calls k _ _ _ _ _ _ _ _ ?s_229 ?s_230 ?s_231 ?s_232 A_227.out ⟨rfl⟩).mono ?_); (case s_229 => exact (rcI HO133).1); (case s_230 => exact (rcR HO133).2); (case s_231 => exact (rcI HO225).1); (case s_232 => exact (rcR HO225).2); rintro e w' ⟨rfl, ⟨nd, rfl⟩⟩; refine ⟨_, rfl, ?_⟩) | ((with_reducible refine gate_callee (f := 37) rfl ?_); refine gL (some 82) Try.func37 #[.agg #[.slice Ao98 t83.length co99, .slice Ao101 t84.length co102], .int .i64 1] ?_; (with_reducible refine (laws_markRecord.calls k (fun k_ => lo95 ≤ k_ ∧ k_ < hi96) _ _ (fun k_ => lo95 ≤ k_ ∧ k_ < hi96) _ _ _ _ _ _ w _ (eI HB) (rI HO100) (rI HO103) A_236.out).mono ?_); rintro e w_237 ⟨rfl, ho238, ho239, hb, hk⟩; refine ⟨_, rfl, ?_⟩; have hkp := keptRng (lo := lo95) (hi := hi96) hk (fun k_ h_ => by first | exact h_ | exact h_.elim id id); clear HO100; clear HO103; have n0_ := Aside0.mk (krI hkp HO33 (by have h0_ := HE2.out; have h1_ := HE30.out; have h2_ := HE46.out; have h3_ := HE59.out; have h4_ := HE79.out; have h5_ := HE97.out; have h6_ := HE105.out; have h7_ := HE117.out; have h8_ := HE130.out; have h9_ := HE150.out; have h10_ := HE175.out; have h11_ := HE202.out; have h12_ := HE222.out; omega)); have n1_ := Aside0.mk (krI hkp HO36 (by have h0_ := HE2.out; have h1_ := HE30.out; have h2_ := HE46.out; have h3_ := HE59.out; have h4_ := HE79.out; have h5_ := HE97.out; have h6_ := HE105.out; have h7_ := HE117.out; have h8_ := HE130.out; have h9_ := HE150.out; have h10_ := HE175.out; have h11_ := HE202.out; have h12_ := HE222.out; omega)); have n2_ := Aside0.mk (ksI hkp HO49 (by have h0_ := HE2.out; have h1_ := HE30.out; have h2_ := HE46.out; have h3_ := HE59.out; have h4_ := HE79.out; have h5_ := HE97.out; have h6_ := HE105.out; have h7_ := HE117.out; have h8_ := HE130.out; have h9_ := HE150.out; have h10_ := HE175.out; have h11_ := HE202.out; have h12_ := HE222.out; omega)); have n3_ := Aside0.mk (krI hkp HO62 (by have h0_ := HE2.out; have h1_ := HE30.out; have h2_ := HE46.out; have h3_ := HE59.out; have h4_ := HE79.out; have h5_ := HE97.out; have h6_ := HE105.out; have h7_ := HE117.out; have h8_ := HE130.out; have h9_ := HE150.out; have h10_ := HE175.out; have h11_ := HE202.out; have h12_ := HE222.out; omega)); have n4_ := Aside0.mk (ksI hkp HO82 (by have h0_ := HE2.out; have h1_ := HE30.out; have h2_ := HE46.out; have h3_ := HE59.out; have h4_ := HE79.out; have h5_ := HE97.out; have h6_ := HE105.out; have h7_ := HE117.out; have h8_ := HE130.out; have h9_ := HE150.out; have h10_ := HE175.out; have h11_ := HE202.out; have h12_ := HE222.out; omega)); have n5_ := Aside0.mk (ksI hkp HO120 (by have h0_ := HE2.out; have h1_ := HE30.out; have h2_ := HE46.out; have h3_ := HE59.out; have h4_ := HE79.out; have h5_ := HE97.out; have h6_ := HE105.out; have h7_ := HE117.out; have h8_ := HE130.out; have h9_ := HE150.out; have h10_ := HE175.out; have h11_ := HE202.out; have h12_ := HE222.out; omega)); have n6_ := Aside0.mk (krI hkp HO133 (by have h0_ := HE2.out; have h1_ := HE30.out; have h2_ := HE46.out; have h3_ := HE59.out; have h4_ := HE79.out; have h5_ := HE97.out; have h6_ := HE105.out; have h7_ := HE117.out; have h8_ := HE130.out; have h9_ := HE150.out; have h10_ := HE175.out; have h11_ := HE202.out; have h12_ := HE222.out; omega)); have n7_ := Aside0.mk (ksI hkp HO153 (by have h0_ := HE2.out; have h1_ := HE30.out; have h2_ := HE46.out; have h3_ := HE59.out; have h4_ := HE79.out; have h5_ := HE97.out; have h6_ := HE105.out; have h7_ := HE117.out; have h8_ := HE130.out; have h9_ := HE150.out; have h10_ := HE175.out; have h11_ := HE202.out; have h12_ := HE222.out; omega)); have n8_ := Aside0.mk (krI hkp HO178 (by have h0_ := HE2.out; have h1_ := HE30.out; have h2_ := HE46.out; have h3_ := HE59.out; have h4_ := HE79.out; have h5_ := HE97.out; have h6_ := HE105.out; have h7_ := HE117.out; have h8_ := HE130.out; have h9_ := HE150.out; have h10_ := HE175.out; have h11_ := HE202.out; have h12_ := HE222.out; omega)); have n9_ := Aside0.mk (krI hkp HO181 (by have h0_ := HE2.out; have h1_ := HE30.out; have h2_ := HE46.out; have h3_ := HE59.out; have h4_ := HE79.out; have h5_ := HE97.out; have h6_ := HE105.out; have h7_ := HE117.out; have h8_ := HE130.out; have h9_ := HE150.out; have h10_ := HE175.out; have h11_ := HE202.out; have h12_ := HE222.out; omega)); have n10_ := Aside0.mk (ksI hkp HO205 (by have h0_ := HE2.out; have h1_ := HE30.out; have h2_ := HE46.out; have h3_ := HE59.out; have h4_ := HE79.out; have h5_ := HE97.out; have h6_ := HE105.out; have h7_ := HE117.out; have h8_ := HE130.out; have h9_ := HE150.out; have h10_ := HE175.out; have h11_ := HE202.out; have h12_ := HE222.out; omega)); have n11_ := Aside0.mk (krI hkp HO225 (by have h0_ := HE2.out; have h1_ := HE30.out; have h2_ := HE46.out; have h3_ := HE59.out; have h4_ := HE79.out; have h5_ := HE97.out; have h6_ := HE105.out; have h7_ := HE117.out; have h8_ := HE130.out; have h9_ := HE150.out; have h10_ := HE175.out; have h11_ := HE202.out; have h12_ := HE222.out; omega)); have n12_ := Aside0.mk (hb); have n13_ := Aside0.mk (leK hk HS); have n14_ := Aside0.mk (bkI hkp BKgb1 (by have h0_ := HE2.out; have h1_ := HE30.out; have h2_ := HE46.out; have h3_ := HE59.out; have h4_ := HE79.out; have h5_ := HE97.out; have h6_ := HE105.out; have h7_ := HE117.out; have h8_ := HE130.out; have h9_ := HE150.out; have h10_ := HE175.out; have h11_ := HE202.out; have h12_ := HE222.out; omega)); have n15_ := Aside0.mk (bkI hkp BKgb104 (by have h0_ := HE2.out; have h1_ := HE30.out; have h2_ := HE46.out; have h3_ := HE59.out; have h4_ := HE79.out; have h5_ := HE97.out; have h6_ := HE105.out; have h7_ := HE117.out; have h8_ := HE130.out; have h9_ := HE150.out; have h10_ := HE175.out; have h11_ := HE202.out; have h12_ := HE222.out; omega)); clear HO33 HO36 HO49 HO62 HO82 HO120 HO133 HO153 HO178 HO181 HO205 HO225 HB HS BKgb1 BKgb104; have HO33 := n0_; have HO36 := n1_; have HO49 := n2_; have HO62 := n3_; have HO82 := n4_; have HO120 := n5_; have HO133 := n6_; have HO153 := n7_; have HO178 := n8_; have HO181 := n9_; have HO205 := n10_; have HO225 := n11_; have HB := n12_; have HS := n13_; have BKgb1 := n14_; have BKgb104 := n15_; clear n0_ n1_ n2_ n3_ n4_ n5_ n6_ n7_ n8_ n9_ n10_ n11_ n12_ n13_ n14_ n15_ hb hk hkp ho238 ho239; (try clear hczgb1_0); have hczgb1_0 := cz BKgb1.out 0; (try clear hfzgb1_0); have hfzgb1_0 := blk_frozen BKgb1.out 0; (try clear hczgb1_1); have hczgb1_1 := cz BKgb1.out 1; (try clear hfzgb1_1); have hfzgb1_1 := blk_frozen BKgb1.out 1; (try clear hczgb104_0); have hczgb104_0 := cz BKgb104.out 0; (try clear hfzgb104_0); have hfzgb104_0 := blk_frozen BKgb104.out 0; (try clear hczgb104_1); have hczgb104_1 := cz BKgb104.out 1; (try clear hfzgb104_1); have hfzgb104_1 := blk_frozen BKgb104.out 1) | ((with_reducible refine gate_callee (f := 38) rfl ?_); refine gL (some 85) Try.func38 #[.slice Ao118 t108.length co119, .int .i64 t233] ?_; (with_reducible refine (laws_markPartS.calls k (fun k_ => lo115 ≤ k_ ∧ k_ < hi116) _ _ _ _ _ w _ (eI HB) (sbI0 HO120) A_244.out).mono ?_); rintro e w_245 ⟨rfl, ho246, hb, hk⟩; refine ⟨_, rfl, ?_⟩; have hkp := keptRng (lo := lo115) (hi := hi116) hk (fun k_ h_ => by first | exact h_ | exact h_.elim id id); clear HO120; have n0_ := Aside0.mk (krI hkp HO33 (by have h0_ := HE2.out; have h1_ := HE30.out; have h2_ := HE46.out; have h3_ := HE59.out; have h4_ := HE79.out; have h5_ := HE97.out; have h6_ := HE105.out; have h7_ := HE117.out; have h8_ := HE130.out; have h9_ := HE150.out; have h10_ := HE175.out; have h11_ := HE202.out; have h12_ := HE222.out; omega)); have n1_ := Aside0.mk (krI hkp HO36 (by have h0_ := HE2.out; have h1_ := HE30.out; have h2_ := HE46.out; have h3_ := HE59.out; have h4_ := HE79.out; have h5_ := HE97.out; have h6_ := HE105.out; have h7_ := HE117.out; have h8_ := HE130.out; have h9_ := HE150.out; have h10_ := HE175.out; have h11_ := HE202.out; have h12_ := HE222.out; omega)); have n2_ := Aside0.mk (ksI hkp HO49 (by have h0_ := HE2.out; have h1_ := HE30.out; have h2_ := HE46.out; have h3_ := HE59.out; have h4_ := HE79.out; have h5_ := HE97.out; have h6_ := HE105.out; have h7_ := HE117.out; have h8_ := HE130.out; have h9_ := HE150.out; have h10_ := HE175.out; have h11_ := HE202.out; have h12_ := HE222.out; omega)); have n3_ := Aside0.mk (krI hkp HO62 (by have h0_ := HE2.out; have h1_ := HE30.out; have h2_ := HE46.out; have h3_ := HE59.out; have h4_ := HE79.out; have h5_ := HE97.out; have h6_ := HE105.out; have h7_ := HE117.out; have h8_ := HE130.out; have h9_ := HE150.out; have h10_ := HE175.out; have h11_ := HE202.out; have h12_ := HE222.out; omega)); have n4_ := Aside0.mk (ksI hkp HO82 (by have h0_ := HE2.out; have h1_ := HE30.out; have h2_ := HE46.out; have h3_ := HE59.out; have h4_ := HE79.out; have h5_ := HE97.out; have h6_ := HE105.out; have h7_ := HE117.out; have h8_ := HE130.out; have h9_ := HE150.out; have h10_ := HE175.out; have h11_ := HE202.out; have h12_ := HE222.out; omega)); have n5_ := Aside0.mk (krI hkp HO133 (by have h0_ := HE2.out; have h1_ := HE30.out; have h2_ := HE46.out; have h3_ := HE59.out; have h4_ := HE79.out; have h5_ := HE97.out; have h6_ := HE105.out; have h7_ := HE117.out; have h8_ := HE130.out; have h9_ := HE150.out; have h10_ := HE175.out; have h11_ := HE202.out; have h12_ := HE222.out; omega)); have n6_ := Aside0.mk (ksI hkp HO153 (by have h0_ := HE2.out; have h1_ := HE30.out; have h2_ := HE46.out; have h3_ := HE59.out; have h4_ := HE79.out; have h5_ := HE97.out; have h6_ := HE105.out; have h7_ := HE117.out; have h8_ := HE130.out; have h9_ := HE150.out; have h10_ := HE175.out; have h11_ := HE202.out; have h12_ := HE222.out; omega)); have n7_ := Aside0.mk (krI hkp HO178 (by have h0_ := HE2.out; have h1_ := HE30.out; have h2_ := HE46.out; have h3_ := HE59.out; have h4_ := HE79.out; have h5_ := HE97.out; have h6_ := HE105.out; have h7_ := HE117.out; have h8_ := HE130.out; have h9_ := HE150.out; have h10_ := HE175.out; have h11_ := HE202.out; have h12_ := HE222.out; omega)); have n8_ := Aside0.mk (krI hkp HO181 (by have h0_ := HE2.out; have h1_ := HE30.out; have h2_ := HE46.out; have h3_ := HE59.out; have h4_ := HE79.out; have h5_ := HE97.out; have h6_ := HE105.out; have h7_ := HE117.out; have h8_ := HE130.out; have h9_ := HE150.out; have h10_ := HE175.out; have h11_ := HE202.out; have h12_ := HE222.out; omega)); have n9_ := Aside0.mk (ksI hkp HO205 (by have h0_ := HE2.out; have h1_ := HE30.out; have h2_ := HE46.out; have h3_ := HE59.out; have h4_ := HE79.out; have h5_ := HE97.out; have h6_ := HE105.out; have h7_ := HE117.out; have h8_ := HE130.out; have h9_ := HE150.out; have h10_ := HE175.out; have h11_ := HE202.out; have h12_ := HE222.out; omega)); have n10_ := Aside0.mk (krI hkp HO225 (by have h0_ := HE2.out; have h1_ := HE30.out; have h2_ := HE46.out; have h3_ := HE59.out; have h4_ := HE79.out; have h5_ := HE97.out; have h6_ := HE105.out; have h7_ := HE117.out; have h8_ := HE130.out; have h9_ := HE150.out; have h10_ := HE175.out; have h11_ := HE202.out; have h12_ := HE222.out; omega)); have n11_ := Aside0.mk (hb); have n12_ := Aside0.mk (leK hk HS); have n13_ := Aside0.mk (bkI hkp BKgb1 (by have h0_ := HE2.out; have h1_ := HE30.out; have h2_ := HE46.out; have h3_ := HE59.out; have h4_ := HE79.out; have h5_ := HE97.out; have h6_ := HE105.out; have h7_ := HE117.out; have h8_ := HE130.out; have h9_ := HE150.out; have h10_ := HE175.out; have h11_ := HE202.out; have h12_ := HE222.out; omega)); have n14_ := Aside0.mk (bkI hkp BKgb104 (by have h0_ := HE2.out; have h1_ := HE30.out; have h2_ := HE46.out; have h3_ := HE59.out; have h4_ := HE79.out; have h5_ := HE97.out; have h6_ := HE105.out; have h7_ := HE117.out; have h8_ := HE130.out; have h9_ := HE150.out; have h10_ := HE175.out; have h11_ := HE202.out; have h12_ := HE222.out; omega)); clear HO33 HO36 HO49 HO62 HO82 HO133 HO153 HO178 HO181 HO205 HO225 HB HS BKgb1 BKgb104; have HO33 := n0_; have HO36 := n1_; have HO49 := n2_; have HO62 := n3_; have HO82 := n4_; have HO133 := n5_; have HO153 := n6_; have HO178 := n7_; have HO181 := n8_; have HO205 := n9_; have HO225 := n10_; have HB := n11_; have HS := n12_; have BKgb1 := n13_; have BKgb104 := n14_; clear n0_ n1_ n2_ n3_ n4_ n5_ n6_ n7_ n8_ n9_ n10_ n11_ n12_ n13_ n14_ hb hk hkp ho246; (try clear hczgb1_0); have hczgb1_0 := cz BKgb1.out 0; (try clear hfzgb1_0); have hfzgb1_0 := blk_frozen BKgb1.out 0; (try clear hczgb1_1); have hczgb1_1 := cz BKgb1.out 1; (try clear hfzgb1_1); have hfzgb1_1 := blk_frozen BKgb1.out 1; (try clear hczgb104_0); have hczgb104_0 := cz BKgb104.out 0; (try clear hfzgb104_0); have hfzgb104_0 := blk_frozen BKgb104.out 0; (try clear hczgb104_1); have hczgb104_1 := cz BKgb104.out 1; (try clear hfzgb104_1); have hfzgb104_1 := blk_frozen BKgb104.out 1) | ((with_reducible refine gate_callee (f := 19) rfl ?_); refine gL (some 88) Try.func19 #[.slice Ao131 t121.length co132, .int .i64 t242] ?_; (with_reducible refine (laws_markIntS.calls k (fun k_ => lo128 ≤ k_ ∧ k_ < hi129) _ _ _ _ _ w _ (eI HB) (rI HO133) A_250.out).mono ?_); rintro e w_251 ⟨rfl, ho252, hb, hk⟩; refine ⟨_, rfl, ?_⟩; have hkp := keptRng (lo := lo128) (hi := hi129) hk (fun k_ h_ => by first | exact h_ | exact h_.elim id id); clear HO133; have n0_ := Aside0.mk (krI hkp HO33 (by have h0_ := HE2.out; have h1_ := HE30.out; have h2_ := HE46.out; have h3_ := HE59.out; have h4_ := HE79.out; have h5_ := HE97.out; have h6_ := HE105.out; have h7_ := HE117.out; have h8_ := HE130.out; have h9_ := HE150.out; have h10_ := HE175.out; have h11_ := HE202.out; have h12_ := HE222.out; omega)); have n1_ := Aside0.mk (krI hkp HO36 (by have h0_ := HE2.out; have h1_ := HE30.out; have h2_ := HE46.out; have h3_ := HE59.out; have h4_ := HE79.out; have h5_ := HE97.out; have h6_ := HE105.out; have h7_ := HE117.out; have h8_ := HE130.out; have h9_ := HE150.out; have h10_ := HE175.out; have h11_ := HE202.out; have h12_ := HE222.out; omega)); have n2_ := Aside0.mk (ksI hkp HO49 (by have h0_ := HE2.out; have h1_ := HE30.out; have h2_ := HE46.out; have h3_ := HE59.out; have h4_ := HE79.out; have h5_ := HE97.out; have h6_ := HE105.out; have h7_ := HE117.out; have h8_ := HE130.out; have h9_ := HE150.out; have h10_ := HE175.out; have h11_ := HE202.out; have h12_ := HE222.out; omega)); have n3_ := Aside0.mk (krI hkp HO62 (by have h0_ := HE2.out; have h1_ := HE30.out; have h2_ := HE46.out; have h3_ := HE59.out; have h4_ := HE79.out; have h5_ := HE97.out; have h6_ := HE105.out; have h7_ := HE117.out; have h8_ := HE130.out; have h9_ := HE150.out; have h10_ := HE175.out; have h11_ := HE202.out; have h12_ := HE222.out; omega)); have n4_ := Aside0.mk (ksI hkp HO82 (by have h0_ := HE2.out; have h1_ := HE30.out; have h2_ := HE46.out; have h3_ := HE59.out; have h4_ := HE79.out; have h5_ := HE97.out; have h6_ := HE105.out; have h7_ := HE117.out; have h8_ := HE130.out; have h9_ := HE150.out; have h10_ := HE175.out; have h11_ := HE202.out; have h12_ := HE222.out; omega)); have n5_ := Aside0.mk (ksI hkp HO153 (by have h0_ := HE2.out; have h1_ := HE30.out; have h2_ := HE46.out; have h3_ := HE59.out; have h4_ := HE79.out; have h5_ := HE97.out; have h6_ := HE105.out; have h7_ := HE117.out; have h8_ := HE130.out; have h9_ := HE150.out; have h10_ := HE175.out; have h11_ := HE202.out; have h12_ := HE222.out; omega)); have n6_ := Aside0.mk (krI hkp HO178 (by have h0_ := HE2.out; have h1_ := HE30.out; have h2_ := HE46.out; have h3_ := HE59.out; have h4_ := HE79.out; have h5_ := HE97.out; have h6_ := HE105.out; have h7_ := HE117.out; have h8_ := HE130.out; have h9_ := HE150.out; have h10_ := HE175.out; have h11_ := HE202.out; have h12_ := HE222.out; omega)); have n7_ := Aside0.mk (krI hkp HO181 (by have h0_ := HE2.out; have h1_ := HE30.out; have h2_ := HE46.out; have h3_ := HE59.out; have h4_ := HE79.out; have h5_ := HE97.out; have h6_ := HE105.out; have h7_ := HE117.out; have h8_ := HE130.out; have h9_ := HE150.out; have h10_ := HE175.out; have h11_ := HE202.out; have h12_ := HE222.out; omega)); have n8_ := Aside0.mk (ksI hkp HO205 (by have h0_ := HE2.out; have h1_ := HE30.out; have h2_ := HE46.out; have h3_ := HE59.out; have h4_ := HE79.out; have h5_ := HE97.out; have h6_ := HE105.out; have h7_ := HE117.out; have h8_ := HE130.out; have h9_ := HE150.out; have h10_ := HE175.out; have h11_ := HE202.out; have h12_ := HE222.out; omega)); have n9_ := Aside0.mk (krI hkp HO225 (by have h0_ := HE2.out; have h1_ := HE30.out; have h2_ := HE46.out; have h3_ := HE59.out; have h4_ := HE79.out; have h5_ := HE97.out; have h6_ := HE105.out; have h7_ := HE117.out; have h8_ := HE130.out; have h9_ := HE150.out; have h10_ := HE175.out; have h11_ := HE202.out; have h12_ := HE222.out; omega)); have n10_ := Aside0.mk (hb); have n11_ := Aside0.mk (leK hk HS); have n12_ := Aside0.mk (bkI hkp BKgb1 (by have h0_ := HE2.out; have h1_ := HE30.out; have h2_ := HE46.out; have h3_ := HE59.out; have h4_ := HE79.out; have h5_ := HE97.out; have h6_ := HE105.out; have h7_ := HE117.out; have h8_ := HE130.out; have h9_ := HE150.out; have h10_ := HE175.out; have h11_ := HE202.out; have h12_ := HE222.out; omega)); have n13_ := Aside0.mk (bkI hkp BKgb104 (by have h0_ := HE2.out; have h1_ := HE30.out; have h2_ := HE46.out; have h3_ := HE59.out; have h4_ := HE79.out; have h5_ := HE97.out; have h6_ := HE105.out; have h7_ := HE117.out; have h8_ := HE130.out; have h9_ := HE150.out; have h10_ := HE175.out; have h11_ := HE202.out; have h12_ := HE222.out; omega)); clear HO33 HO36 HO49 HO62 HO82 HO153 HO178 HO181 HO205 HO225 HB HS BKgb1 BKgb104; have HO33 := n0_; have HO36 := n1_; have HO49 := n2_; have HO62 := n3_; have HO82 := n4_; have HO153 := n5_; have HO178 := n6_; have HO181 := n7_; have HO205 := n8_; have HO225 := n9_; have HB := n10_; have HS := n11_; have BKgb1 := n12_; have BKgb104 := n13_; clear n0_ n1_ n2_ n3_ n4_ n5_ n6_ n7_ n8_ n9_ n10_ n11_ n12_ n13_ hb hk hkp ho252; (try clear hczgb1_0); have hczgb1_0 := cz BKgb1.out 0; (try clear hfzgb1_0); have hfzgb1_0 := blk_frozen BKgb1.out 0; (try clear hczgb1_1); have hczgb1_1 := cz BKgb1.out 1; (try clear hfzgb1_1); have hfzgb1_1 := blk_frozen BKgb1.out 1; (try clear hczgb104_0); have hczgb104_0 := cz BKgb104.out 0; (try clear hfzgb104_0); have hfzgb104_0 := blk_frozen BKgb104.out 0; (try clear hczgb104_1); have hczgb104_1 := cz BKgb104.out 1; (try clear hfzgb104_1); have hfzgb104_1 := blk_frozen BKgb104.out 1) | ((with_reducible refine gate_callee (f := 34) rfl ?_); refine gate_guard (by first | rfl | kernel_rfl) ?_; refine gL (some 94) Try.func34 #[.slice Ao151 t134.length co152, .slice Ao80 t63.length co81] ?_; (with_reducible refine (laws_eqPartS.calls k _ _ _ _ _ _ _ _ ?s_257 ?s_258 ?s_259 ?s_260 A_255.out ⟨rfl⟩).mono ?_); (case s_257 => exact (scI HO153).1); (case s_258 => exact (scR HO153).2); (case s_259 => exact (scI HO82).1); (case s_260 => exact (scR HO82).2); rintro e w_256 ⟨rfl, hb⟩; refine ⟨_, rfl, ?_⟩; have n0_ := Aside0.mk (rbI hb HO33); have n1_ := Aside0.mk (rbI hb HO36); have n2_ := Aside0.mk (sbI hb HO49); have n3_ := Aside0.mk (rbI hb HO62); have n4_ := Aside0.mk (sbI hb HO82); have n5_ := Aside0.mk (sbI hb HO153); have n6_ := Aside0.mk (rbI hb HO178); have n7_ := Aside0.mk (rbI hb HO181); have n8_ := Aside0.mk (sbI hb HO205); have n9_ := Aside0.mk (rbI hb HO225); have n10_ := Aside0.mk (sI hb HB); have n11_ := Aside0.mk (leI hb HS); have n12_ := Aside0.mk (kbI hb BKgb1); have n13_ := Aside0.mk (kbI hb BKgb104); clear HO33 HO36 HO49 HO62 HO82 HO153 HO178 HO181 HO205 HO225 HB HS BKgb1 BKgb104; have HO33 := n0_; have HO36 := n1_; have HO49 := n2_; have HO62 := n3_; have HO82 := n4_; have HO153 := n5_; have HO178 := n6_; have HO181 := n7_; have HO205 := n8_; have HO225 := n9_; have HB := n10_; have HS := n11_; have BKgb1 := n12_; have BKgb104 := n13_; clear n0_ n1_ n2_ n3_ n4_ n5_ n6_ n7_ n8_ n9_ n10_ n11_ n12_ n13_ hb; (try clear hczgb1_0); have hczgb1_0 := cz BKgb1.out 0; (try clear hfzgb1_0); have hfzgb1_0 := blk_frozen BKgb1.out 0; (try clear hczgb1_1); have hczgb1_1 := cz BKgb1.out 1; (try clear hfzgb1_1); have hfzgb1_1 := blk_frozen BKgb1.out 1; (try clear hczgb104_0); have hczgb104_0 := cz BKgb104.out 0; (try clear hfzgb104_0); have hfzgb104_0 := blk_frozen BKgb104.out 0; (try clear hczgb104_1); have hczgb104_1 := cz BKgb104.out 1; (try clear hfzgb104_1); have hfzgb104_1 := blk_frozen BKgb104.out 1) | ((with_reducible refine gate_callee (f := 38) rfl ?_); refine gL (some 104) Try.func38 #[.slice Ao151 t134.length co152, .int .i64 1] ?_; (with_reducible refine (laws_markPartS.calls k (fun k_ => lo148 ≤ k_ ∧ k_ < hi149) _ _ _ _ _ w _ (eI HB) (sbI0 HO153) A_263.out).mono ?_); rintro e w_264 ⟨rfl, ho265, hb, hk⟩; refine ⟨_, rfl, ?_⟩; have hkp := keptRng (lo := lo148) (hi := hi149) hk (fun k_ h_ => by first | exact h_ | exact h_.elim id id); have n0_ := Aside0.mk (krI hkp HO33 (by have h0_ := HE2.out; have h1_ := HE30.out; have h2_ := HE46.out; have h3_ := HE59.out; have h4_ := HE79.out; have h5_ := HE97.out; have h6_ := HE105.out; have h7_ := HE117.out; have h8_ := HE130.out; have h9_ := HE150.out; have h10_ := HE175.out; have h11_ := HE202.out; have h12_ := HE222.out; omega)); have n1_ := Aside0.mk (krI hkp HO36 (by have h0_ := HE2.out; have h1_ := HE30.out; have h2_ := HE46.out; have h3_ := HE59.out; have h4_ := HE79.out; have h5_ := HE97.out; have h6_ := HE105.out; have h7_ := HE117.out; have h8_ := HE130.out; have h9_ := HE150.out; have h10_ := HE175.out; have h11_ := HE202.out; have h12_ := HE222.out; omega)); have n2_ := Aside0.mk (ksI hkp HO49 (by have h0_ := HE2.out; have h1_ := HE30.out; have h2_ := HE46.out; have h3_ := HE59.out; have h4_ := HE79.out; have h5_ := HE97.out; have h6_ := HE105.out; have h7_ := HE117.out; have h8_ := HE130.out; have h9_ := HE150.out; have h10_ := HE175.out; have h11_ := HE202.out; have h12_ := HE222.out; omega)); have n3_ := Aside0.mk (krI hkp HO62 (by have h0_ := HE2.out; have h1_ := HE30.out; have h2_ := HE46.out; have h3_ := HE59.out; have h4_ := HE79.out; have h5_ := HE97.out; have h6_ := HE105.out; have h7_ := HE117.out; have h8_ := HE130.out; have h9_ := HE150.out; have h10_ := HE175.out; have h11_ := HE202.out; have h12_ := HE222.out; omega)); have n4_ := Aside0.mk (ksI hkp HO82 (by have h0_ := HE2.out; have h1_ := HE30.out; have h2_ := HE46.out; have h3_ := HE59.out; have h4_ := HE79.out; have h5_ := HE97.out; have h6_ := HE105.out; have h7_ := HE117.out; have h8_ := HE130.out; have h9_ := HE150.out; have h10_ := HE175.out; have h11_ := HE202.out; have h12_ := HE222.out; omega)); have n5_ := Aside0.mk (krI hkp HO178 (by have h0_ := HE2.out; have h1_ := HE30.out; have h2_ := HE46.out; have h3_ := HE59.out; have h4_ := HE79.out; have h5_ := HE97.out; have h6_ := HE105.out; have h7_ := HE117.out; have h8_ := HE130.out; have h9_ := HE150.out; have h10_ := HE175.out; have h11_ := HE202.out; have h12_ := HE222.out; omega)); have n6_ := Aside0.mk (krI hkp HO181 (by have h0_ := HE2.out; have h1_ := HE30.out; have h2_ := HE46.out; have h3_ := HE59.out; have h4_ := HE79.out; have h5_ := HE97.out; have h6_ := HE105.out; have h7_ := HE117.out; have h8_ := HE130.out; have h9_ := HE150.out; have h10_ := HE175.out; have h11_ := HE202.out; have h12_ := HE222.out; omega)); have n7_ := Aside0.mk (ksI hkp HO205 (by have h0_ := HE2.out; have h1_ := HE30.out; have h2_ := HE46.out; have h3_ := HE59.out; have h4_ := HE79.out; have h5_ := HE97.out; have h6_ := HE105.out; have h7_ := HE117.out; have h8_ := HE130.out; have h9_ := HE150.out; have h10_ := HE175.out; have h11_ := HE202.out; have h12_ := HE222.out; omega)); have n8_ := Aside0.mk (krI hkp HO225 (by have h0_ := HE2.out; have h1_ := HE30.out; have h2_ := HE46.out; have h3_ := HE59.out; have h4_ := HE79.out; have h5_ := HE97.out; have h6_ := HE105.out; have h7_ := HE117.out; have h8_ := HE130.out; have h9_ := HE150.out; have h10_ := HE175.out; have h11_ := HE202.out; have h12_ := HE222.out; omega)); have n9_ := Aside0.mk (Kd.S_mono (ok' := fun _ => True) ho265 (fun _ _ => trivial)); have n10_ := Aside0.mk (hb); have n11_ := Aside0.mk (leK hk HS); have n12_ := Aside0.mk (bkI hkp BKgb1 (by have h0_ := HE2.out; have h1_ := HE30.out; have h2_ := HE46.out; have h3_ := HE59.out; have h4_ := HE79.out; have h5_ := HE97.out; have h6_ := HE105.out; have h7_ := HE117.out; have h8_ := HE130.out; have h9_ := HE150.out; have h10_ := HE175.out; have h11_ := HE202.out; have h12_ := HE222.out; omega)); have n13_ := Aside0.mk (bkI hkp BKgb104 (by have h0_ := HE2.out; have h1_ := HE30.out; have h2_ := HE46.out; have h3_ := HE59.out; have h4_ := HE79.out; have h5_ := HE97.out; have h6_ := HE105.out; have h7_ := HE117.out; have h8_ := HE130.out; have h9_ := HE150.out; have h10_ := HE175.out; have h11_ := HE202.out; have h12_ := HE222.out; omega)); clear HO33 HO36 HO49 HO62 HO82 HO178 HO181 HO205 HO225 HO153 HB HS BKgb1 BKgb104; have HO33 := n0_; have HO36 := n1_; have HO49 := n2_; have HO62 := n3_; have HO82 := n4_; have HO178 := n5_; have HO181 := n6_; have HO205 := n7_; have HO225 := n8_; have HO153 := n9_; have HB := n10_; have HS := n11_; have BKgb1 := n12_; have BKgb104 := n13_; clear n0_ n1_ n2_ n3_ n4_ n5_ n6_ n7_ n8_ n9_ n10_ n11_ n12_ n13_ hb hk hkp ho265; (try clear hczgb1_0); have hczgb1_0 := cz BKgb1.out 0; (try clear hfzgb1_0); have hfzgb1_0 := blk_frozen BKgb1.out 0; (try clear hczgb1_1); have hczgb1_1 := cz BKgb1.out 1; (try clear hfzgb1_1); have hfzgb1_1 := blk_frozen BKgb1.out 1; (try clear hczgb104_0); have hczgb104_0 := cz BKgb104.out 0; (try clear hfzgb104_0); have hfzgb104_0 := blk_frozen BKgb104.out 0; (try clear hczgb104_1); have hczgb104_1 := cz BKgb104.out 1; (try clear hfzgb104_1); have hfzgb104_1 := blk_frozen BKgb104.out 1) | ((with_reducible refine gate_callee (f := 40) rfl ?_); refine gL (some 107) Try.func40 #[.slice Ao151 t134.length co152, .int .i64 1] ?_; refine calls_of_args (args' := #[.slice Ao151 t262.length co152, .int .i64 1]) (by rw [← slI HO153]) ?_; (with_reducible refine (laws_heldPartS.calls k _ _ _ _ _ _ ?s_270 ?s_271 A_268.out).mono ?_); (case s_270 => exact (scI HO153).1); (case s_271 => exact (scR HO153).2); rintro e w_269 ⟨rfl, hb⟩; refine ⟨_, rfl, ?_⟩; have n0_ := Aside0.mk (rbI hb HO33); have n1_ := Aside0.mk (rbI hb HO36); have n2_ := Aside0.mk (sbI hb HO49); have n3_ := Aside0.mk (rbI hb HO62); have n4_ := Aside0.mk (sbI hb HO82); have n5_ := Aside0.mk (sbI hb HO153); have n6_ := Aside0.mk (rbI hb HO178); have n7_ := Aside0.mk (rbI hb HO181); have n8_ := Aside0.mk (sbI hb HO205); have n9_ := Aside0.mk (rbI hb HO225); have n10_ := Aside0.mk (sI hb HB); have n11_ := Aside0.mk (leI hb HS); have n12_ := Aside0.mk (kbI hb BKgb1); have n13_ := Aside0.mk (kbI hb BKgb104); clear HO33 HO36 HO49 HO62 HO82 HO153 HO178 HO181 HO205 HO225 HB HS BKgb1 BKgb104; have HO33 := n0_; have HO36 := n1_; have HO49 := n2_; have HO62 := n3_; have HO82 := n4_; have HO153 := n5_; have HO178 := n6_; have HO181 := n7_; have HO205 := n8_; have HO225 := n9_; have HB := n10_; have HS := n11_; have BKgb1 := n12_; have BKgb104 := n13_; clear n0_ n1_ n2_ n3_ n4_ n5_ n6_ n7_ n8_ n9_ n10_ n11_ n12_ n13_ hb; (try clear hczgb1_0); have hczgb1_0 := cz BKgb1.out 0; (try clear hfzgb1_0); have hfzgb1_0 := blk_frozen BKgb1.out 0; (try clear hczgb1_1); have hczgb1_1 := cz BKgb1.out 1; (try clear hfzgb1_1); have hfzgb1_1 := blk_frozen BKgb1.out 1; (try clear hczgb104_0); have hczgb104_0 := cz BKgb104.out 0; (try clear hfzgb104_0); have hfzgb104_0 := blk_frozen BKgb104.out 0; (try clear hczgb104_1); have hczgb104_1 := cz BKgb104.out 1; (try clear hfzgb104_1); have hfzgb104_1 := blk_frozen BKgb104.out 1) | ((with_reducible refine gate_callee (f := 30) rfl ?_); refine gL (some 115) Try.func30 #[.agg #[.slice A0_0 l0_0.length c0_0, .slice A0_1 l0_1.length c0_1]] ?_; (with_reducible refine (laws_toRecord.calls k _ _ _ _ _ _ _ _ _ ?s_276 ?s_277 ?s_278 ?s_279 A_274.out).mono ?_); (case s_276 => exact Kd.C_below HR0_0.out (eI HB)); (case s_277 => exact HC0_0.out); (case s_278 => exact Kd.C_below HR0_1.out (eI HB)); (case s_279 => exact HC0_1.out); rintro e w_275 ⟨v282, v283, rfl, ho280, ho281, hb⟩; refine ⟨_, rfl, ?_⟩; obtain ⟨lo284, hi285, hle_, hsz_, hin_⟩ := newRng HB HS hb; have ho_0 := Aside0.mk (hin_.r ho280); have ho_1 := Aside0.mk (hin_.r ho281); have n0_ := Aside0.mk (rbI hb HO33); have n1_ := Aside0.mk (rbI hb HO36); have n2_ := Aside0.mk (sbI hb HO49); have n3_ := Aside0.mk (rbI hb HO62); have n4_ := Aside0.mk (sbI hb HO82); have n5_ := Aside0.mk (sbI hb HO153); have n6_ := Aside0.mk (rbI hb HO178); have n7_ := Aside0.mk (rbI hb HO181); have n8_ := Aside0.mk (sbI hb HO205); have n9_ := Aside0.mk (rbI hb HO225); have n10_ := Aside0.mk (sI hb HB); have n11_ := Aside0.mk (hsz_); have n12_ := Aside0.mk (kbI hb BKgb1); have n13_ := Aside0.mk (kbI hb BKgb104); clear HO33 HO36 HO49 HO62 HO82 HO153 HO178 HO181 HO205 HO225 HB HS BKgb1 BKgb104; have HO33 := n0_; have HO36 := n1_; have HO49 := n2_; have HO62 := n3_; have HO82 := n4_; have HO153 := n5_; have HO178 := n6_; have HO181 := n7_; have HO205 := n8_; have HO225 := n9_; have HB := n10_; have HS := n11_; have BKgb1 := n12_; have BKgb104 := n13_; clear n0_ n1_ n2_ n3_ n4_ n5_ n6_ n7_ n8_ n9_ n10_ n11_ n12_ n13_ hb; (try clear hczgb1_0); have hczgb1_0 := cz BKgb1.out 0; (try clear hfzgb1_0); have hfzgb1_0 := blk_frozen BKgb1.out 0; (try clear hczgb1_1); have hczgb1_1 := cz BKgb1.out 1; (try clear hfzgb1_1); have hfzgb1_1 := blk_frozen BKgb1.out 1; (try clear hczgb104_0); have hczgb104_0 := cz BKgb104.out 0; (try clear hfzgb104_0); have hfzgb104_0 := blk_frozen BKgb104.out 0; (try clear hczgb104_1); have hczgb104_1 := cz BKgb104.out 1; (try clear hfzgb104_1); have hfzgb104_1 := blk_frozen BKgb104.out 1; have HE286 := Aside0.mk hle_; clear hle_ hsz_ hin_ ho280 ho281; have HO289 := ho_0; clear ho_0; obtain ⟨Ao287, co288, e_⟩ := Kd.R_slice (HO289.out); subst e_; have HO292 := ho_1; clear ho_1; obtain ⟨Ao290, co291, e_⟩ := Kd.R_slice (HO292.out); subst e_) | ((with_reducible refine gate_callee (f := 31) rfl ?_); refine gL (some 117) Try.func31 #[.slice A1 l1.length c1] ?_; (with_reducible refine (laws_toPartS.calls k _ _ _ _ _ ?s_296 ?s_297 A_294.out).mono ?_); (case s_296 => exact Kd.C_below HR1.out (eI HB)); (case s_297 => exact HC1.out); rintro e w_295 ⟨v299, rfl, ho298, hb⟩; refine ⟨_, rfl, ?_⟩; obtain ⟨lo300, hi301, hle_, hsz_, hin_⟩ := newRng HB HS hb; have ho_0 := Aside0.mk (hin_.s ho298); have n0_ := Aside0.mk (rbI hb HO33); have n1_ := Aside0.mk (rbI hb HO36); have n2_ := Aside0.mk (sbI hb HO49); have n3_ := Aside0.mk (rbI hb HO62); have n4_ := Aside0.mk (sbI hb HO82); have n5_ := Aside0.mk (sbI hb HO153); have n6_ := Aside0.mk (rbI hb HO178); have n7_ := Aside0.mk (rbI hb HO181); have n8_ := Aside0.mk (sbI hb HO205); have n9_ := Aside0.mk (rbI hb HO225); have n10_ := Aside0.mk (rbI hb HO289); have n11_ := Aside0.mk (rbI hb HO292); have n12_ := Aside0.mk (sI hb HB); have n13_ := Aside0.mk (hsz_); have n14_ := Aside0.mk (kbI hb BKgb1); have n15_ := Aside0.mk (kbI hb BKgb104); clear HO33 HO36 HO49 HO62 HO82 HO153 HO178 HO181 HO205 HO225 HO289 HO292 HB HS BKgb1 BKgb104; have HO33 := n0_; have HO36 := n1_; have HO49 := n2_; have HO62 := n3_; have HO82 := n4_; have HO153 := n5_; have HO178 := n6_; have HO181 := n7_; have HO205 := n8_; have HO225 := n9_; have HO289 := n10_; have HO292 := n11_; have HB := n12_; have HS := n13_; have BKgb1 := n14_; have BKgb104 := n15_; clear n0_ n1_ n2_ n3_ n4_ n5_ n6_ n7_ n8_ n9_ n10_ n11_ n12_ n13_ n14_ n15_ hb; (try clear hczgb1_0); have hczgb1_0 := cz BKgb1.out 0; (try clear hfzgb1_0); have hfzgb1_0 := blk_frozen BKgb1.out 0; (try clear hczgb1_1); have hczgb1_1 := cz BKgb1.out 1; (try clear hfzgb1_1); have hfzgb1_1 := blk_frozen BKgb1.out 1; (try clear hczgb104_0); have hczgb104_0 := cz BKgb104.out 0; (try clear hfzgb104_0); have hfzgb104_0 := blk_frozen BKgb104.out 0; (try clear hczgb104_1); have hczgb104_1 := cz BKgb104.out 1; (try clear hfzgb104_1); have hfzgb104_1 := blk_frozen BKgb104.out 1; have HE302 := Aside0.mk hle_; clear hle_ hsz_ hin_ ho298; have HO305 := ho_0; clear ho_0; obtain ⟨Ao303, co304, e_⟩ := Kd.R_slice (Kd.S_R HO305.out); subst e_) | ((with_reducible refine gate_callee (f := 42) rfl ?_); refine gL (some 119) Try.func42 #[.slice A2 l2.length c2] ?_; (with_reducible refine (laws_toIntS.calls k _ _ _ _ _ ?s_309 ?s_310 A_307.out).mono ?_); (case s_309 => exact Kd.C_below HR2.out (eI HB)); (case s_310 => exact HC2.out); rintro e w_308 ⟨v312, rfl, ho311, hb⟩; refine ⟨_, rfl, ?_⟩; obtain ⟨lo313, hi314, hle_, hsz_, hin_⟩ := newRng HB HS hb; have ho_0 := Aside0.mk (hin_.r ho311); have n0_ := Aside0.mk (rbI hb HO33); have n1_ := Aside0.mk (rbI hb HO36); have n2_ := Aside0.mk (sbI hb HO49); have n3_ := Aside0.mk (rbI hb HO62); have n4_ := Aside0.mk (sbI hb HO82); have n5_ := Aside0.mk (sbI hb HO153); have n6_ := Aside0.mk (rbI hb HO178); have n7_ := Aside0.mk (rbI hb HO181); have n8_ := Aside0.mk (sbI hb HO205); have n9_ := Aside0.mk (rbI hb HO225); have n10_ := Aside0.mk (rbI hb HO289); have n11_ := Aside0.mk (rbI hb HO292); have n12_ := Aside0.mk (sbI hb HO305); have n13_ := Aside0.mk (sI hb HB); have n14_ := Aside0.mk (hsz_); have n15_ := Aside0.mk (kbI hb BKgb1); have n16_ := Aside0.mk (kbI hb BKgb104); clear HO33 HO36 HO49 HO62 HO82 HO153 HO178 HO181 HO205 HO225 HO289 HO292 HO305 HB HS BKgb1 BKgb104; have HO33 := n0_; have HO36 := n1_; have HO49 := n2_; have HO62 := n3_; have HO82 := n4_; have HO153 := n5_; have HO178 := n6_; have HO181 := n7_; have HO205 := n8_; have HO225 := n9_; have HO289 := n10_; have HO292 := n11_; have HO305 := n12_; have HB := n13_; have HS := n14_; have BKgb1 := n15_; have BKgb104 := n16_; clear n0_ n1_ n2_ n3_ n4_ n5_ n6_ n7_ n8_ n9_ n10_ n11_ n12_ n13_ n14_ n15_ n16_ hb; (try clear hczgb1_0); have hczgb1_0 := cz BKgb1.out 0; (try clear hfzgb1_0); have hfzgb1_0 := blk_frozen BKgb1.out 0; (try clear hczgb1_1); have hczgb1_1 := cz BKgb1.out 1; (try clear hfzgb1_1); have hfzgb1_1 := blk_frozen BKgb1.out 1; (try clear hczgb104_0); have hczgb104_0 := cz BKgb104.out 0; (try clear hfzgb104_0); have hfzgb104_0 := blk_frozen BKgb104.out 0; (try clear hczgb104_1); have hczgb104_1 := cz BKgb104.out 1; (try clear hfzgb104_1); have hfzgb104_1 := blk_frozen BKgb104.out 1; have HE315 := Aside0.mk hle_; clear hle_ hsz_ hin_ ho311; have HO318 := ho_0; clear ho_0; obtain ⟨Ao316, co317, e_⟩ := Kd.R_slice (HO318.out); subst e_) | ((with_reducible refine gate_callee (f := 43) rfl ?_); refine gL (some 120) Try.func43 #[.agg #[.slice Ao287 t272.length co288, .slice Ao290 t273.length co291], .slice Ao303 t293.length co304, .slice Ao316 t306.length co317] ?_; (with_reducible refine (impl_DropVoid.calls k _ _ _ _ _ _ _ _ _ _ _ _ _ _ _ ?s_323 ?s_324 ?s_325 ?s_326 ?s_327 ?s_328 ?s_329 ?s_330 A_321.out).mono ?_); (case s_323 => exact (rcI HO289).1); (case s_324 => exact (rcR HO289).2); (case s_325 => exact (rcI HO292).1); (case s_326 => exact (rcR HO292).2); (case s_327 => exact (scI HO305).1); (case s_328 => exact (scR HO305).2); (case s_329 => exact (rcI HO318).1); (case s_330 => exact (rcR HO318).2); rintro e w_322 ⟨v332, rfl, ho331, hb⟩; refine ⟨_, rfl, ?_⟩; obtain ⟨lo333, hi334, hle_, hsz_, hin_⟩ := newRng HB HS hb; have ho_0 := Aside0.mk (hin_.s ho331); have n0_ := Aside0.mk (rbI hb HO33); have n1_ := Aside0.mk (rbI hb HO36); have n2_ := Aside0.mk (sbI hb HO49); have n3_ := Aside0.mk (rbI hb HO62); have n4_ := Aside0.mk (sbI hb HO82); have n5_ := Aside0.mk (sbI hb HO153); have n6_ := Aside0.mk (rbI hb HO178); have n7_ := Aside0.mk (rbI hb HO181); have n8_ := Aside0.mk (sbI hb HO205); have n9_ := Aside0.mk (rbI hb HO225); have n10_ := Aside0.mk (rbI hb HO289); have n11_ := Aside0.mk (rbI hb HO292); have n12_ := Aside0.mk (sbI hb HO305); have n13_ := Aside0.mk (rbI hb HO318); have n14_ := Aside0.mk (sI hb HB); have n15_ := Aside0.mk (hsz_); have n16_ := Aside0.mk (kbI hb BKgb1); have n17_ := Aside0.mk (kbI hb BKgb104); clear HO33 HO36 HO49 HO62 HO82 HO153 HO178 HO181 HO205 HO225 HO289 HO292 HO305 HO318 HB HS BKgb1 BKgb104; have HO33 := n0_; have HO36 := n1_; have HO49 := n2_; have HO62 := n3_; have HO82 := n4_; have HO153 := n5_; have HO178 := n6_; have HO181 := n7_; have HO205 := n8_; have HO225 := n9_; have HO289 := n10_; have HO292 := n11_; have HO305 := n12_; have HO318 := n13_; have HB := n14_; have HS := n15_; have BKgb1 := n16_; have BKgb104 := n17_; clear n0_ n1_ n2_ n3_ n4_ n5_ n6_ n7_ n8_ n9_ n10_ n11_ n12_ n13_ n14_ n15_ n16_ n17_ hb; (try clear hczgb1_0); have hczgb1_0 := cz BKgb1.out 0; (try clear hfzgb1_0); have hfzgb1_0 := blk_frozen BKgb1.out 0; (try clear hczgb1_1); have hczgb1_1 := cz BKgb1.out 1; (try clear hfzgb1_1); have hfzgb1_1 := blk_frozen BKgb1.out 1; (try clear hczgb104_0); have hczgb104_0 := cz BKgb104.out 0; (try clear hfzgb104_0); have hfzgb104_0 := blk_frozen BKgb104.out 0; (try clear hczgb104_1); have hczgb104_1 := cz BKgb104.out 1; (try clear hfzgb104_1); have hfzgb104_1 := blk_frozen BKgb104.out 1; have HE335 := Aside0.mk hle_; clear hle_ hsz_ hin_ ho331; have HO338 := ho_0; clear ho_0; obtain ⟨Ao336, co337, e_⟩ := Kd.R_slice (Kd.S_R HO338.out); subst e_) | ((with_reducible refine gate_callee (f := 34) rfl ?_); refine gL (some 125) Try.func34 #[.slice Ao336 t319.length co337, .slice Ao80 t63.length co81] ?_; (with_reducible refine (laws_eqPartS.calls k _ _ _ _ _ _ _ _ ?s_342 ?s_343 ?s_344 ?s_345 A_340.out ⟨rfl⟩).mono ?_); (case s_342 => exact (scI HO338).1); (case s_343 => exact (scR HO338).2); (case s_344 => exact (scI HO82).1); (case s_345 => exact (scR HO82).2); rintro e w_341 ⟨rfl, hb⟩; refine ⟨_, rfl, ?_⟩; have n0_ := Aside0.mk (rbI hb HO33); have n1_ := Aside0.mk (rbI hb HO36); have n2_ := Aside0.mk (sbI hb HO49); have n3_ := Aside0.mk (rbI hb HO62); have n4_ := Aside0.mk (sbI hb HO82); have n5_ := Aside0.mk (sbI hb HO153); have n6_ := Aside0.mk (rbI hb HO178); have n7_ := Aside0.mk (rbI hb HO181); have n8_ := Aside0.mk (sbI hb HO205); have n9_ := Aside0.mk (rbI hb HO225); have n10_ := Aside0.mk (rbI hb HO289); have n11_ := Aside0.mk (rbI hb HO292); have n12_ := Aside0.mk (sbI hb HO305); have n13_ := Aside0.mk (rbI hb HO318); have n14_ := Aside0.mk (sbI hb HO338); have n15_ := Aside0.mk (sI hb HB); have n16_ := Aside0.mk (leI hb HS); have n17_ := Aside0.mk (kbI hb BKgb1); have n18_ := Aside0.mk (kbI hb BKgb104); clear HO33 HO36 HO49 HO62 HO82 HO153 HO178 HO181 HO205 HO225 HO289 HO292 HO305 HO318 HO338 HB HS BKgb1 BKgb104; have HO33 := n0_; have HO36 := n1_; have HO49 := n2_; have HO62 := n3_; have HO82 := n4_; have HO153 := n5_; have HO178 := n6_; have HO181 := n7_; have HO205 := n8_; have HO225 := n9_; have HO289 := n10_; have HO292 := n11_; have HO305 := n12_; have HO318 := n13_; have HO338 := n14_; have HB := n15_; have HS := n16_; have BKgb1 := n17_; have BKgb104 := n18_; clear n0_ n1_ n2_ n3_ n4_ n5_ n6_ n7_ n8_ n9_ n10_ n11_ n12_ n13_ n14_ n15_ n16_ n17_ n18_ hb; (try clear hczgb1_0); have hczgb1_0 := cz BKgb1.out 0; (try clear hfzgb1_0); have hfzgb1_0 := blk_frozen BKgb1.out 0; (try clear hczgb1_1); have hczgb1_1 := cz BKgb1.out 1; (try clear hfzgb1_1); have hfzgb1_1 := blk_frozen BKgb1.out 1; (try clear hczgb104_0); have hczgb104_0 := cz BKgb104.out 0; (try clear hfzgb104_0); have hfzgb104_0 := blk_frozen BKgb104.out 0; (try clear hczgb104_1); have hczgb104_1 := cz BKgb104.out 1; (try clear hfzgb104_1); have hfzgb104_1 := blk_frozen BKgb104.out 1) | ((with_reducible refine gate_callee (f := 40) rfl ?_); refine gL (some 134) Try.func40 #[.slice Ao151 t134.length co152, .int .i64 1] ?_; refine calls_of_args (args' := #[.slice Ao151 t262.length co152, .int .i64 1]) (by rw [← slI HO153]) ?_; (with_reducible refine (laws_heldPartS.calls k _ _ _ _ _ _ ?s_349 ?s_350 A_347.out).mono ?_); (case s_349 => exact (scI HO153).1); (case s_350 => exact (scR HO153).2); rintro e w_348 ⟨rfl, hb⟩; refine ⟨_, rfl, ?_⟩; have n0_ := Aside0.mk (rbI hb HO33); have n1_ := Aside0.mk (rbI hb HO36); have n2_ := Aside0.mk (sbI hb HO49); have n3_ := Aside0.mk (rbI hb HO62); have n4_ := Aside0.mk (sbI hb HO82); have n5_ := Aside0.mk (sbI hb HO153); have n6_ := Aside0.mk (rbI hb HO178); have n7_ := Aside0.mk (rbI hb HO181); have n8_ := Aside0.mk (sbI hb HO205); have n9_ := Aside0.mk (rbI hb HO225); have n10_ := Aside0.mk (rbI hb HO289); have n11_ := Aside0.mk (rbI hb HO292); have n12_ := Aside0.mk (sbI hb HO305); have n13_ := Aside0.mk (rbI hb HO318); have n14_ := Aside0.mk (sbI hb HO338); have n15_ := Aside0.mk (sI hb HB); have n16_ := Aside0.mk (leI hb HS); have n17_ := Aside0.mk (kbI hb BKgb1); have n18_ := Aside0.mk (kbI hb BKgb104); clear HO33 HO36 HO49 HO62 HO82 HO153 HO178 HO181 HO205 HO225 HO289 HO292 HO305 HO318 HO338 HB HS BKgb1 BKgb104; have HO33 := n0_; have HO36 := n1_; have HO49 := n2_; have HO62 := n3_; have HO82 := n4_; have HO153 := n5_; have HO178 := n6_; have HO181 := n7_; have HO205 := n8_; have HO225 := n9_; have HO289 := n10_; have HO292 := n11_; have HO305 := n12_; have HO318 := n13_; have HO338 := n14_; have HB := n15_; have HS := n16_; have BKgb1 := n17_; have BKgb104 := n18_; clear n0_ n1_ n2_ n3_ n4_ n5_ n6_ n7_ n8_ n9_ n10_ n11_ n12_ n13_ n14_ n15_ n16_ n17_ n18_ hb; (try clear hczgb1_0); have hczgb1_0 := cz BKgb1.out 0; (try clear hfzgb1_0); have hfzgb1_0 := blk_frozen BKgb1.out 0; (try clear hczgb1_1); have hczgb1_1 := cz BKgb1.out 1; (try clear hfzgb1_1); have hfzgb1_1 := blk_frozen BKgb1.out 1; (try clear hczgb104_0); have hczgb104_0 := cz BKgb104.out 0; (try clear hfzgb104_0); have hfzgb104_0 := blk_frozen BKgb104.out 0; (try clear hczgb104_1); have hczgb104_1 := cz BKgb104.out 1; (try clear hfzgb104_1); have hfzgb104_1 := blk_frozen BKgb104.out 1))
 go_region_with (first | (go_at_call 30; (with_reducible refine (laws_toRecord.calls k _ _ _ _ _ _ _ _ _ ?s_165 ?s_166 ?s_167 ?s_168 A_163.out).mono ?_); (case s_165 => exact Kd.C_below HR0_0.out (eI HB)); (case s_166 => exact HC0_0.out); (case s_167 => exact Kd.C_below HR0_1.out (eI HB)); (case s_168 => exact HC0_1.out); rintro e w_164 ⟨v171, v172, rfl, ho169, ho170, hb⟩; obtain ⟨lo173, hi174, hle_, hsz_, hin_⟩ := newRng HB HS hb; have ho_0 := Aside0.mk (hin_.r ho169); have ho_1 := Aside0.mk (hin_.r ho170); have n0_ := Aside0.mk (rbI hb HO33); have n1_ := Aside0.mk (rbI hb HO36); have n2_ := Aside0.mk (sbI hb HO49); have n3_ := Aside0.mk (rbI hb HO62); have n4_ := Aside0.mk (sbI hb HO82); have n5_ := Aside0.mk (rbI hb HO100); have n6_ := Aside0.mk (rbI hb HO103); have n7_ := Aside0.mk (sbI hb HO120); have n8_ := Aside0.mk (rbI hb HO133); have n9_ := Aside0.mk (sbI hb HO153); have n10_ := Aside0.mk (sI hb HB); have n11_ := Aside0.mk (hsz_); have n12_ := Aside0.mk (kbI hb BKgb1); have n13_ := Aside0.mk (kbI hb BKgb104); clear HO33 HO36 HO49 HO62 HO82 HO100 HO103 HO120 HO133 HO153 HB HS BKgb1 BKgb104; have HO33 := n0_; have HO36 := n1_; have HO49 := n2_; have HO62 := n3_; have HO82 := n4_; have HO100 := n5_; have HO103 := n6_; have HO120 := n7_; have HO133 := n8_; have HO153 := n9_; have HB := n10_; have HS := n11_; have BKgb1 := n12_; have BKgb104 := n13_; clear n0_ n1_ n2_ n3_ n4_ n5_ n6_ n7_ n8_ n9_ n10_ n11_ n12_ n13_ hb; (try clear hczgb1_0); have hczgb1_0 := cz BKgb1.out 0; (try clear hfzgb1_0); have hfzgb1_0 := blk_frozen BKgb1.out 0; (try clear hczgb1_1); have hczgb1_1 := cz BKgb1.out 1; (try clear hfzgb1_1); have hfzgb1_1 := blk_frozen BKgb1.out 1; (try clear hczgb104_0); have hczgb104_0 := cz BKgb104.out 0; (try clear hfzgb104_0); have hfzgb104_0 := blk_frozen BKgb104.out 0; (try clear hczgb104_1); have hczgb104_1 := cz BKgb104.out 1; (try clear hfzgb104_1); have hfzgb104_1 := blk_frozen BKgb104.out 1; have HE175 := Aside0.mk hle_; clear hle_ hsz_ hin_ ho169 ho170; have HO178 := ho_0; clear ho_0; obtain ⟨Ao176, co177, e_⟩ := Kd.R_slice (HO178.out); subst e_; have HO181 := ho_1; clear ho_1; obtain ⟨Ao179, co180, e_⟩ := Kd.R_slice (HO181.out); subst e_) | (go_at_call 35; (with_reducible refine (laws_eqRecord.calls k _ _ _ _ _ _ _ _ _ _ _ _ _ _ ?s_185 ?s_186 ?s_187 ?s_188 ?s_189 ?s_190 ?s_191 ?s_192 A_183.out ⟨rfl⟩).mono ?_); (case s_185 => exact (rcI HO100).1); (case s_186 => exact (rcR HO100).2); (case s_187 => exact (rcI HO103).1); (case s_188 => exact (rcR HO103).2); (case s_189 => exact (rcI HO178).1); (case s_190 => exact (rcR HO178).2); (case s_191 => exact (rcI HO181).1); (case s_192 => exact (rcR HO181).2); rintro e w_184 ⟨rfl, hb⟩; have n0_ := Aside0.mk (rbI hb HO33); have n1_ := Aside0.mk (rbI hb HO36); have n2_ := Aside0.mk (sbI hb HO49); have n3_ := Aside0.mk (rbI hb HO62); have n4_ := Aside0.mk (sbI hb HO82); have n5_ := Aside0.mk (rbI hb HO100); have n6_ := Aside0.mk (rbI hb HO103); have n7_ := Aside0.mk (sbI hb HO120); have n8_ := Aside0.mk (rbI hb HO133); have n9_ := Aside0.mk (sbI hb HO153); have n10_ := Aside0.mk (rbI hb HO178); have n11_ := Aside0.mk (rbI hb HO181); have n12_ := Aside0.mk (sI hb HB); have n13_ := Aside0.mk (leI hb HS); have n14_ := Aside0.mk (kbI hb BKgb1); have n15_ := Aside0.mk (kbI hb BKgb104); clear HO33 HO36 HO49 HO62 HO82 HO100 HO103 HO120 HO133 HO153 HO178 HO181 HB HS BKgb1 BKgb104; have HO33 := n0_; have HO36 := n1_; have HO49 := n2_; have HO62 := n3_; have HO82 := n4_; have HO100 := n5_; have HO103 := n6_; have HO120 := n7_; have HO133 := n8_; have HO153 := n9_; have HO178 := n10_; have HO181 := n11_; have HB := n12_; have HS := n13_; have BKgb1 := n14_; have BKgb104 := n15_; clear n0_ n1_ n2_ n3_ n4_ n5_ n6_ n7_ n8_ n9_ n10_ n11_ n12_ n13_ n14_ n15_ hb; (try clear hczgb1_0); have hczgb1_0 := cz BKgb1.out 0; (try clear hfzgb1_0); have hfzgb1_0 := blk_frozen BKgb1.out 0; (try clear hczgb1_1); have hczgb1_1 := cz BKgb1.out 1; (try clear hfzgb1_1); have hfzgb1_1 := blk_frozen BKgb1.out 1; (try clear hczgb104_0); have hczgb104_0 := cz BKgb104.out 0; (try clear hfzgb104_0); have hfzgb104_0 := blk_frozen BKgb104.out 0; (try clear hczgb104_1); have hczgb104_1 := cz BKgb104.out 1; (try clear hfzgb104_1); have hfzgb104_1 := blk_frozen BKgb104.out 1))
 all_goals (
  go_wp2_with (first | ((with_reducible refine gate_dst (N := 3) rfl ?_); refine box_event ?hggb1 (N := 3) ?hdgb1 (cs := #[.slice A0_0 l0_0.length c0_0, .slice A0_1 l0_1.length c0_1]) (t := 48) ?hrgb1 ?_; (case hdgb1 => rfl); (case hggb1 => rfl); (case hrgb1 => first | (go_simp; done) | (go_simp; rfl)); intro gb1 hg w_3 hbox hb; have HE2 := Aside0.mk (And.intro (leG hg HS) (Nat.le_succ gb1)); have hs_ := Aside0.mk (blk_lt hbox); have BKgb1 := Aside0.mk hbox; clear HS; have HS := hs_; clear hs_; have n0_ := Aside0.mk (sI hb HB); clear HB; have HB := n0_; clear n0_ hg hbox hb; (try clear hczgb1_0); have hczgb1_0 := cz BKgb1.out 0; (try clear hfzgb1_0); have hfzgb1_0 := blk_frozen BKgb1.out 0; (try clear hczgb1_1); have hczgb1_1 := cz BKgb1.out 1; (try clear hfzgb1_1); have hfzgb1_1 := blk_frozen BKgb1.out 1) | ((with_reducible refine gate_callee (f := 26) rfl ?_); refine gL (some 25) Try.func26 #[.agg #[.slice A0_0 l0_0.length c0_0, .slice A0_1 l0_1.length c0_1], .int .i64 1048576] ?_; (with_reducible refine (laws_szRecord.calls _ _ _ _ _ _ _ _ _ ?s_7 ?s_8 ?s_9 ?s_10 A_5.out).mono ?_); (case s_7 => exact Kd.C_below HR0_0.out (eI HB)); (case s_8 => exact HC0_0.out); (case s_9 => exact Kd.C_below HR0_1.out (eI HB)); (case s_10 => exact HC0_1.out); rintro e w_6 ⟨rfl, hb⟩; refine ⟨_, rfl, ?_⟩; have n0_ := Aside0.mk (sI hb HB); have n1_ := Aside0.mk (leI hb HS); have n2_ := Aside0.mk (kbI hb BKgb1); clear HB HS BKgb1; have HB := n0_; have HS := n1_; have BKgb1 := n2_; clear n0_ n1_ n2_ hb; (try clear hczgb1_0); have hczgb1_0 := cz BKgb1.out 0; (try clear hfzgb1_0); have hfzgb1_0 := blk_frozen BKgb1.out 0; (try clear hczgb1_1); have hczgb1_1 := cz BKgb1.out 1; (try clear hfzgb1_1); have hfzgb1_1 := blk_frozen BKgb1.out 1) | ((with_reducible refine gate_callee (f := 27) rfl ?_); refine gL (some 30) Try.func27 #[.slice A1 l1.length c1, .int .i64 t4] ?_; (with_reducible refine (laws_szPartS.calls k _ _ _ _ _ _ ?s_14 ?s_15 A_12.out).mono ?_); (case s_14 => exact Kd.C_below HR1.out (eI HB)); (case s_15 => exact HC1.out); rintro e w_13 ⟨rfl, hb⟩; refine ⟨_, rfl, ?_⟩; have n0_ := Aside0.mk (sI hb HB); have n1_ := Aside0.mk (leI hb HS); have n2_ := Aside0.mk (kbI hb BKgb1); clear HB HS BKgb1; have HB := n0_; have HS := n1_; have BKgb1 := n2_; clear n0_ n1_ n2_ hb; (try clear hczgb1_0); have hczgb1_0 := cz BKgb1.out 0; (try clear hfzgb1_0); have hfzgb1_0 := blk_frozen BKgb1.out 0; (try clear hczgb1_1); have hczgb1_1 := cz BKgb1.out 1; (try clear hfzgb1_1); have hfzgb1_1 := blk_frozen BKgb1.out 1) | ((with_reducible refine gate_callee (f := 30) rfl ?_); refine gL (some 35) Try.func30 #[.agg #[.slice A0_0 l0_0.length c0_0, .slice A0_1 l0_1.length c0_1]] ?_; (with_reducible refine (laws_toRecord.calls k _ _ _ _ _ _ _ _ _ ?s_20 ?s_21 ?s_22 ?s_23 A_18.out).mono ?_); (case s_20 => exact Kd.C_below HR0_0.out (eI HB)); (case s_21 => exact HC0_0.out); (case s_22 => exact Kd.C_below HR0_1.out (eI HB)); (case s_23 => exact HC0_1.out); rintro e w_19 ⟨v26, v27, rfl, ho24, ho25, hb⟩; refine ⟨_, rfl, ?_⟩; obtain ⟨lo28, hi29, hle_, hsz_, hin_⟩ := newRng HB HS hb; have ho_0 := Aside0.mk (hin_.r ho24); have ho_1 := Aside0.mk (hin_.r ho25); have n0_ := Aside0.mk (sI hb HB); have n1_ := Aside0.mk (hsz_); have n2_ := Aside0.mk (kbI hb BKgb1); clear HB HS BKgb1; have HB := n0_; have HS := n1_; have BKgb1 := n2_; clear n0_ n1_ n2_ hb; (try clear hczgb1_0); have hczgb1_0 := cz BKgb1.out 0; (try clear hfzgb1_0); have hfzgb1_0 := blk_frozen BKgb1.out 0; (try clear hczgb1_1); have hczgb1_1 := cz BKgb1.out 1; (try clear hfzgb1_1); have hfzgb1_1 := blk_frozen BKgb1.out 1; have HE30 := Aside0.mk hle_; clear hle_ hsz_ hin_ ho24 ho25; have HO33 := ho_0; clear ho_0; obtain ⟨Ao31, co32, e_⟩ := Kd.R_slice (HO33.out); subst e_; have HO36 := ho_1; clear ho_1; obtain ⟨Ao34, co35, e_⟩ := Kd.R_slice (HO36.out); subst e_) | ((with_reducible refine gate_callee (f := 31) rfl ?_); refine gL (some 37) Try.func31 #[.slice A1 l1.length c1] ?_; (with_reducible refine (laws_toPartS.calls k _ _ _ _ _ ?s_40 ?s_41 A_38.out).mono ?_); (case s_40 => exact Kd.C_below HR1.out (eI HB)); (case s_41 => exact HC1.out); rintro e w_39 ⟨v43, rfl, ho42, hb⟩; refine ⟨_, rfl, ?_⟩; obtain ⟨lo44, hi45, hle_, hsz_, hin_⟩ := newRng HB HS hb; have ho_0 := Aside0.mk (hin_.s ho42); have n0_ := Aside0.mk (rbI hb HO33); have n1_ := Aside0.mk (rbI hb HO36); have n2_ := Aside0.mk (sI hb HB); have n3_ := Aside0.mk (hsz_); have n4_ := Aside0.mk (kbI hb BKgb1); clear HO33 HO36 HB HS BKgb1; have HO33 := n0_; have HO36 := n1_; have HB := n2_; have HS := n3_; have BKgb1 := n4_; clear n0_ n1_ n2_ n3_ n4_ hb; (try clear hczgb1_0); have hczgb1_0 := cz BKgb1.out 0; (try clear hfzgb1_0); have hfzgb1_0 := blk_frozen BKgb1.out 0; (try clear hczgb1_1); have hczgb1_1 := cz BKgb1.out 1; (try clear hfzgb1_1); have hfzgb1_1 := blk_frozen BKgb1.out 1; have HE46 := Aside0.mk hle_; clear hle_ hsz_ hin_ ho42; have HO49 := ho_0; clear ho_0; obtain ⟨Ao47, co48, e_⟩ := Kd.R_slice (Kd.S_R HO49.out); subst e_) | ((with_reducible refine gate_callee (f := 42) rfl ?_); refine gL (some 39) Try.func42 #[.slice A2 l2.length c2] ?_; (with_reducible refine (laws_toIntS.calls k _ _ _ _ _ ?s_53 ?s_54 A_51.out).mono ?_); (case s_53 => exact Kd.C_below HR2.out (eI HB)); (case s_54 => exact HC2.out); rintro e w_52 ⟨v56, rfl, ho55, hb⟩; refine ⟨_, rfl, ?_⟩; obtain ⟨lo57, hi58, hle_, hsz_, hin_⟩ := newRng HB HS hb; have ho_0 := Aside0.mk (hin_.r ho55); have n0_ := Aside0.mk (rbI hb HO33); have n1_ := Aside0.mk (rbI hb HO36); have n2_ := Aside0.mk (sbI hb HO49); have n3_ := Aside0.mk (sI hb HB); have n4_ := Aside0.mk (hsz_); have n5_ := Aside0.mk (kbI hb BKgb1); clear HO33 HO36 HO49 HB HS BKgb1; have HO33 := n0_; have HO36 := n1_; have HO49 := n2_; have HB := n3_; have HS := n4_; have BKgb1 := n5_; clear n0_ n1_ n2_ n3_ n4_ n5_ hb; (try clear hczgb1_0); have hczgb1_0 := cz BKgb1.out 0; (try clear hfzgb1_0); have hfzgb1_0 := blk_frozen BKgb1.out 0; (try clear hczgb1_1); have hczgb1_1 := cz BKgb1.out 1; (try clear hfzgb1_1); have hfzgb1_1 := blk_frozen BKgb1.out 1; have HE59 := Aside0.mk hle_; clear hle_ hsz_ hin_ ho55; have HO62 := ho_0; clear ho_0; obtain ⟨Ao60, co61, e_⟩ := Kd.R_slice (HO62.out); subst e_) | ((with_reducible refine gate_callee (f := 41) rfl ?_); refine gL (some 40) Try.func41 #[.agg #[.slice Ao31 t16.length co32, .slice Ao34 t17.length co35], .slice Ao47 t37.length co48, .slice Ao60 t50.length co61] ?_; (with_reducible refine (spec_DropVoid.calls k _ _ _ _ _ _ _ _ _ _ _ _ _ _ _ ?s_67 ?s_68 ?s_69 ?s_70 ?s_71 ?s_72 ?s_73 ?s_74 A_65.out).mono ?_); (case s_67 => exact (rcI HO33).1); (case s_68 => exact (rcR HO33).2); (case s_69 => exact (rcI HO36).1); (case s_70 => exact (rcR HO36).2); (case s_71 => exact (scI HO49).1); (case s_72 => exact (scR HO49).2); (case s_73 => exact (rcI HO62).1); (case s_74 => exact (rcR HO62).2); rintro e w_66 ⟨v76, rfl, ho75, hb⟩; refine ⟨_, rfl, ?_⟩; obtain ⟨lo77, hi78, hle_, hsz_, hin_⟩ := newRng HB HS hb; have ho_0 := Aside0.mk (hin_.s ho75); have n0_ := Aside0.mk (rbI hb HO33); have n1_ := Aside0.mk (rbI hb HO36); have n2_ := Aside0.mk (sbI hb HO49); have n3_ := Aside0.mk (rbI hb HO62); have n4_ := Aside0.mk (sI hb HB); have n5_ := Aside0.mk (hsz_); have n6_ := Aside0.mk (kbI hb BKgb1); clear HO33 HO36 HO49 HO62 HB HS BKgb1; have HO33 := n0_; have HO36 := n1_; have HO49 := n2_; have HO62 := n3_; have HB := n4_; have HS := n5_; have BKgb1 := n6_; clear n0_ n1_ n2_ n3_ n4_ n5_ n6_ hb; (try clear hczgb1_0); have hczgb1_0 := cz BKgb1.out 0; (try clear hfzgb1_0); have hfzgb1_0 := blk_frozen BKgb1.out 0; (try clear hczgb1_1); have hczgb1_1 := cz BKgb1.out 1; (try clear hfzgb1_1); have hfzgb1_1 := blk_frozen BKgb1.out 1; have HE79 := Aside0.mk hle_; clear hle_ hsz_ hin_ ho75; have HO82 := ho_0; clear ho_0; obtain ⟨Ao80, co81, e_⟩ := Kd.R_slice (Kd.S_R HO82.out); subst e_) | ((with_reducible refine gate_callee (f := 30) rfl ?_); refine gL (some 44) Try.func30 #[.agg #[.slice A0_0 l0_0.length c0_0, .slice A0_1 l0_1.length c0_1]] ?_; (with_reducible refine (laws_toRecord.calls k _ _ _ _ _ _ _ _ _ ?s_87 ?s_88 ?s_89 ?s_90 A_85.out).mono ?_); (case s_87 => exact Kd.C_below HR0_0.out (eI HB)); (case s_88 => exact HC0_0.out); (case s_89 => exact Kd.C_below HR0_1.out (eI HB)); (case s_90 => exact HC0_1.out); rintro e w_86 ⟨v93, v94, rfl, ho91, ho92, hb⟩; refine ⟨_, rfl, ?_⟩; obtain ⟨lo95, hi96, hle_, hsz_, hin_⟩ := newRng HB HS hb; have ho_0 := Aside0.mk (hin_.r ho91); have ho_1 := Aside0.mk (hin_.r ho92); have n0_ := Aside0.mk (rbI hb HO33); have n1_ := Aside0.mk (rbI hb HO36); have n2_ := Aside0.mk (sbI hb HO49); have n3_ := Aside0.mk (rbI hb HO62); have n4_ := Aside0.mk (sbI hb HO82); have n5_ := Aside0.mk (sI hb HB); have n6_ := Aside0.mk (hsz_); have n7_ := Aside0.mk (kbI hb BKgb1); clear HO33 HO36 HO49 HO62 HO82 HB HS BKgb1; have HO33 := n0_; have HO36 := n1_; have HO49 := n2_; have HO62 := n3_; have HO82 := n4_; have HB := n5_; have HS := n6_; have BKgb1 := n7_; clear n0_ n1_ n2_ n3_ n4_ n5_ n6_ n7_ hb; (try clear hczgb1_0); have hczgb1_0 := cz BKgb1.out 0; (try clear hfzgb1_0); have hfzgb1_0 := blk_frozen BKgb1.out 0; (try clear hczgb1_1); have hczgb1_1 := cz BKgb1.out 1; (try clear hfzgb1_1); have hfzgb1_1 := blk_frozen BKgb1.out 1; have HE97 := Aside0.mk hle_; clear hle_ hsz_ hin_ ho91 ho92; have HO100 := ho_0; clear ho_0; obtain ⟨Ao98, co99, e_⟩ := Kd.R_slice (HO100.out); subst e_; have HO103 := ho_1; clear ho_1; obtain ⟨Ao101, co102, e_⟩ := Kd.R_slice (HO103.out); subst e_) | ((with_reducible refine gate_dst (N := 10) rfl ?_); refine box_event ?hggb104 (N := 10) ?hdgb104 (cs := #[.slice none 0 0, .slice none 0 0]) (t := 61) ?hrgb104 ?_; (case hdgb104 => rfl); (case hggb104 => rfl); (case hrgb104 => first | (go_simp; done) | (go_simp; rfl)); intro gb104 hg w_106 hbox hb; have HE105 := Aside0.mk (And.intro (leG hg HS) (Nat.le_succ gb104)); have hs_ := Aside0.mk (blk_lt hbox); have BKgb104 := Aside0.mk hbox; clear HS; have HS := hs_; clear hs_; have n0_ := Aside0.mk (rbI hb HO33); have n1_ := Aside0.mk (rbI hb HO36); have n2_ := Aside0.mk (sbI hb HO49); have n3_ := Aside0.mk (rbI hb HO62); have n4_ := Aside0.mk (sbI hb HO82); have n5_ := Aside0.mk (rbI hb HO100); have n6_ := Aside0.mk (rbI hb HO103); have n7_ := Aside0.mk (sI hb HB); have n8_ := Aside0.mk (kbI hb BKgb1); clear HO33 HO36 HO49 HO62 HO82 HO100 HO103 HB BKgb1; have HO33 := n0_; have HO36 := n1_; have HO49 := n2_; have HO62 := n3_; have HO82 := n4_; have HO100 := n5_; have HO103 := n6_; have HB := n7_; have BKgb1 := n8_; clear n0_ n1_ n2_ n3_ n4_ n5_ n6_ n7_ n8_ hg hbox hb; (try clear hczgb1_0); have hczgb1_0 := cz BKgb1.out 0; (try clear hfzgb1_0); have hfzgb1_0 := blk_frozen BKgb1.out 0; (try clear hczgb1_1); have hczgb1_1 := cz BKgb1.out 1; (try clear hfzgb1_1); have hfzgb1_1 := blk_frozen BKgb1.out 1; (try clear hczgb104_0); have hczgb104_0 := cz BKgb104.out 0; (try clear hfzgb104_0); have hfzgb104_0 := blk_frozen BKgb104.out 0; (try clear hczgb104_1); have hczgb104_1 := cz BKgb104.out 1; (try clear hfzgb104_1); have hfzgb104_1 := blk_frozen BKgb104.out 1) | ((with_reducible refine gate_store (t := 61) (p := 10) rfl ?_); refine put_event rfl rfl 61 (.tmp 10) _ rfl _ [.slice Ao98 t83.length co99, .slice Ao101 t84.length co102] rfl rfl rfl (by kernel_rfl) rfl (kI BKgb104) rfl ?_; intro w_107 hp_ hk hbg; have n0_ := Aside0.mk (krI hk HO33 (by have h0_ := HE2.out; have h1_ := HE30.out; have h2_ := HE46.out; have h3_ := HE59.out; have h4_ := HE79.out; have h5_ := HE97.out; have h6_ := HE105.out; omega)); have n1_ := Aside0.mk (krI hk HO36 (by have h0_ := HE2.out; have h1_ := HE30.out; have h2_ := HE46.out; have h3_ := HE59.out; have h4_ := HE79.out; have h5_ := HE97.out; have h6_ := HE105.out; omega)); have n2_ := Aside0.mk (ksI hk HO49 (by have h0_ := HE2.out; have h1_ := HE30.out; have h2_ := HE46.out; have h3_ := HE59.out; have h4_ := HE79.out; have h5_ := HE97.out; have h6_ := HE105.out; omega)); have n3_ := Aside0.mk (krI hk HO62 (by have h0_ := HE2.out; have h1_ := HE30.out; have h2_ := HE46.out; have h3_ := HE59.out; have h4_ := HE79.out; have h5_ := HE97.out; have h6_ := HE105.out; omega)); have n4_ := Aside0.mk (ksI hk HO82 (by have h0_ := HE2.out; have h1_ := HE30.out; have h2_ := HE46.out; have h3_ := HE59.out; have h4_ := HE79.out; have h5_ := HE97.out; have h6_ := HE105.out; omega)); have n5_ := Aside0.mk (krI hk HO100 (by have h0_ := HE2.out; have h1_ := HE30.out; have h2_ := HE46.out; have h3_ := HE59.out; have h4_ := HE79.out; have h5_ := HE97.out; have h6_ := HE105.out; omega)); have n6_ := Aside0.mk (krI hk HO103 (by have h0_ := HE2.out; have h1_ := HE30.out; have h2_ := HE46.out; have h3_ := HE59.out; have h4_ := HE79.out; have h5_ := HE97.out; have h6_ := HE105.out; omega)); have n7_ := Aside0.mk (bkI hk BKgb1 (by have h0_ := HE2.out; have h1_ := HE30.out; have h2_ := HE46.out; have h3_ := HE59.out; have h4_ := HE79.out; have h5_ := HE97.out; have h6_ := HE105.out; omega)); have n8_ := Aside0.mk (puI hbg HB (by have h0_ := HE2.out; have h1_ := HE30.out; have h2_ := HE46.out; have h3_ := HE59.out; have h4_ := HE79.out; have h5_ := HE97.out; have h6_ := HE105.out; omega)); have n9_ := Aside0.mk (leK hk HS); have n10_ := Aside0.mk (hp_); clear HO33 HO36 HO49 HO62 HO82 HO100 HO103 BKgb1 HB HS BKgb104; have HO33 := n0_; have HO36 := n1_; have HO49 := n2_; have HO62 := n3_; have HO82 := n4_; have HO100 := n5_; have HO103 := n6_; have BKgb1 := n7_; have HB := n8_; have HS := n9_; have BKgb104 := n10_; clear n0_ n1_ n2_ n3_ n4_ n5_ n6_ n7_ n8_ n9_ n10_ hp_ hk hbg; (try clear hczgb1_0); have hczgb1_0 := cz BKgb1.out 0; (try clear hfzgb1_0); have hfzgb1_0 := blk_frozen BKgb1.out 0; (try clear hczgb1_1); have hczgb1_1 := cz BKgb1.out 1; (try clear hfzgb1_1); have hfzgb1_1 := blk_frozen BKgb1.out 1; (try clear hczgb104_0); have hczgb104_0 := cz BKgb104.out 0; (try clear hfzgb104_0); have hfzgb104_0 := blk_frozen BKgb104.out 0; (try clear hczgb104_1); have hczgb104_1 := cz BKgb104.out 1; (try clear hfzgb104_1); have hfzgb104_1 := blk_frozen BKgb104.out 1) | ((with_reducible refine gate_callee (f := 31) rfl ?_); refine gL (some 46) Try.func31 #[.slice A1 l1.length c1] ?_; (with_reducible refine (laws_toPartS.calls k _ _ _ _ _ ?s_111 ?s_112 A_109.out).mono ?_); (case s_111 => exact Kd.C_below HR1.out (eI HB)); (case s_112 => exact HC1.out); rintro e w_110 ⟨v114, rfl, ho113, hb⟩; refine ⟨_, rfl, ?_⟩; obtain ⟨lo115, hi116, hle_, hsz_, hin_⟩ := newRng HB HS hb; have ho_0 := Aside0.mk (hin_.s ho113); have n0_ := Aside0.mk (rbI hb HO33); have n1_ := Aside0.mk (rbI hb HO36); have n2_ := Aside0.mk (sbI hb HO49); have n3_ := Aside0.mk (rbI hb HO62); have n4_ := Aside0.mk (sbI hb HO82); have n5_ := Aside0.mk (rbI hb HO100); have n6_ := Aside0.mk (rbI hb HO103); have n7_ := Aside0.mk (sI hb HB); have n8_ := Aside0.mk (hsz_); have n9_ := Aside0.mk (kbI hb BKgb1); have n10_ := Aside0.mk (kbI hb BKgb104); clear HO33 HO36 HO49 HO62 HO82 HO100 HO103 HB HS BKgb1 BKgb104; have HO33 := n0_; have HO36 := n1_; have HO49 := n2_; have HO62 := n3_; have HO82 := n4_; have HO100 := n5_; have HO103 := n6_; have HB := n7_; have HS := n8_; have BKgb1 := n9_; have BKgb104 := n10_; clear n0_ n1_ n2_ n3_ n4_ n5_ n6_ n7_ n8_ n9_ n10_ hb; (try clear hczgb1_0); have hczgb1_0 := cz BKgb1.out 0; (try clear hfzgb1_0); have hfzgb1_0 := blk_frozen BKgb1.out 0; (try clear hczgb1_1); have hczgb1_1 := cz BKgb1.out 1; (try clear hfzgb1_1); have hfzgb1_1 := blk_frozen BKgb1.out 1; (try clear hczgb104_0); have hczgb104_0 := cz BKgb104.out 0; (try clear hfzgb104_0); have hfzgb104_0 := blk_frozen BKgb104.out 0; (try clear hczgb104_1); have hczgb104_1 := cz BKgb104.out 1; (try clear hfzgb104_1); have hfzgb104_1 := blk_frozen BKgb104.out 1; have HE117 := Aside0.mk hle_; clear hle_ hsz_ hin_ ho113; have HO120 := ho_0; clear ho_0; obtain ⟨Ao118, co119, e_⟩ := Kd.R_slice (Kd.S_R HO120.out); subst e_) | ((with_reducible refine gate_callee (f := 42) rfl ?_); refine gL (some 48) Try.func42 #[.slice A2 l2.length c2] ?_; (with_reducible refine (laws_toIntS.calls k _ _ _ _ _ ?s_124 ?s_125 A_122.out).mono ?_); (case s_124 => exact Kd.C_below HR2.out (eI HB)); (case s_125 => exact HC2.out); rintro e w_123 ⟨v127, rfl, ho126, hb⟩; refine ⟨_, rfl, ?_⟩; obtain ⟨lo128, hi129, hle_, hsz_, hin_⟩ := newRng HB HS hb; have ho_0 := Aside0.mk (hin_.r ho126); have n0_ := Aside0.mk (rbI hb HO33); have n1_ := Aside0.mk (rbI hb HO36); have n2_ := Aside0.mk (sbI hb HO49); have n3_ := Aside0.mk (rbI hb HO62); have n4_ := Aside0.mk (sbI hb HO82); have n5_ := Aside0.mk (rbI hb HO100); have n6_ := Aside0.mk (rbI hb HO103); have n7_ := Aside0.mk (sbI hb HO120); have n8_ := Aside0.mk (sI hb HB); have n9_ := Aside0.mk (hsz_); have n10_ := Aside0.mk (kbI hb BKgb1); have n11_ := Aside0.mk (kbI hb BKgb104); clear HO33 HO36 HO49 HO62 HO82 HO100 HO103 HO120 HB HS BKgb1 BKgb104; have HO33 := n0_; have HO36 := n1_; have HO49 := n2_; have HO62 := n3_; have HO82 := n4_; have HO100 := n5_; have HO103 := n6_; have HO120 := n7_; have HB := n8_; have HS := n9_; have BKgb1 := n10_; have BKgb104 := n11_; clear n0_ n1_ n2_ n3_ n4_ n5_ n6_ n7_ n8_ n9_ n10_ n11_ hb; (try clear hczgb1_0); have hczgb1_0 := cz BKgb1.out 0; (try clear hfzgb1_0); have hfzgb1_0 := blk_frozen BKgb1.out 0; (try clear hczgb1_1); have hczgb1_1 := cz BKgb1.out 1; (try clear hfzgb1_1); have hfzgb1_1 := blk_frozen BKgb1.out 1; (try clear hczgb104_0); have hczgb104_0 := cz BKgb104.out 0; (try clear hfzgb104_0); have hfzgb104_0 := blk_frozen BKgb104.out 0; (try clear hczgb104_1); have hczgb104_1 := cz BKgb104.out 1; (try clear hfzgb104_1); have hfzgb104_1 := blk_frozen BKgb104.out 1; have HE130 := Aside0.mk hle_; clear hle_ hsz_ hin_ ho126; have HO133 := ho_0; clear ho_0; obtain ⟨Ao131, co132, e_⟩ := Kd.R_slice (HO133.out); subst e_) | ((with_reducible refine gate_callee (f := 43) rfl ?_); refine gL (some 53) Try.func43 #[.agg #[.slice Ao98 t83.length co99, .slice Ao101 t84.length co102], .slice Ao118 t108.length co119, .slice Ao131 t121.length co132] ?_; (with_reducible refine (impl_DropVoid.calls k _ _ _ _ _ _ _ _ _ _ _ _ _ _ _ ?s_138 ?s_139 ?s_140 ?s_141 ?s_142 ?s_143 ?s_144 ?s_145 A_136.out).mono ?_); (case s_138 => exact (rcI HO100).1); (case s_139 => exact (rcR HO100).2); (case s_140 => exact (rcI HO103).1); (case s_141 => exact (rcR HO103).2); (case s_142 => exact (scI HO120).1); (case s_143 => exact (scR HO120).2); (case s_144 => exact (rcI HO133).1); (case s_145 => exact (rcR HO133).2); rintro e w_137 ⟨v147, rfl, ho146, hb⟩; refine ⟨_, rfl, ?_⟩; obtain ⟨lo148, hi149, hle_, hsz_, hin_⟩ := newRng HB HS hb; have ho_0 := Aside0.mk (hin_.s ho146); have n0_ := Aside0.mk (rbI hb HO33); have n1_ := Aside0.mk (rbI hb HO36); have n2_ := Aside0.mk (sbI hb HO49); have n3_ := Aside0.mk (rbI hb HO62); have n4_ := Aside0.mk (sbI hb HO82); have n5_ := Aside0.mk (rbI hb HO100); have n6_ := Aside0.mk (rbI hb HO103); have n7_ := Aside0.mk (sbI hb HO120); have n8_ := Aside0.mk (rbI hb HO133); have n9_ := Aside0.mk (sI hb HB); have n10_ := Aside0.mk (hsz_); have n11_ := Aside0.mk (kbI hb BKgb1); have n12_ := Aside0.mk (kbI hb BKgb104); clear HO33 HO36 HO49 HO62 HO82 HO100 HO103 HO120 HO133 HB HS BKgb1 BKgb104; have HO33 := n0_; have HO36 := n1_; have HO49 := n2_; have HO62 := n3_; have HO82 := n4_; have HO100 := n5_; have HO103 := n6_; have HO120 := n7_; have HO133 := n8_; have HB := n9_; have HS := n10_; have BKgb1 := n11_; have BKgb104 := n12_; clear n0_ n1_ n2_ n3_ n4_ n5_ n6_ n7_ n8_ n9_ n10_ n11_ n12_ hb; (try clear hczgb1_0); have hczgb1_0 := cz BKgb1.out 0; (try clear hfzgb1_0); have hfzgb1_0 := blk_frozen BKgb1.out 0; (try clear hczgb1_1); have hczgb1_1 := cz BKgb1.out 1; (try clear hfzgb1_1); have hfzgb1_1 := blk_frozen BKgb1.out 1; (try clear hczgb104_0); have hczgb104_0 := cz BKgb104.out 0; (try clear hfzgb104_0); have hfzgb104_0 := blk_frozen BKgb104.out 0; (try clear hczgb104_1); have hczgb104_1 := cz BKgb104.out 1; (try clear hfzgb104_1); have hfzgb104_1 := blk_frozen BKgb104.out 1; have HE150 := Aside0.mk hle_; clear hle_ hsz_ hin_ ho146; have HO153 := ho_0; clear ho_0; obtain ⟨Ao151, co152, e_⟩ := Kd.R_slice (Kd.S_R HO153.out); subst e_) | ((with_reducible refine gate_callee (f := 34) rfl ?_); refine gL (some 58) Try.func34 #[.slice Ao151 t134.length co152, .slice Ao80 t63.length co81] ?_; (with_reducible refine (laws_eqPartS.calls k _ _ _ _ _ _ _ _ ?s_157 ?s_158 ?s_159 ?s_160 A_155.out ⟨rfl⟩).mono ?_); (case s_157 => exact (scI HO153).1); (case s_158 => exact (scR HO153).2); (case s_159 => exact (scI HO82).1); (case s_160 => exact (scR HO82).2); rintro e w_156 ⟨rfl, hb⟩; refine ⟨_, rfl, ?_⟩; have n0_ := Aside0.mk (rbI hb HO33); have n1_ := Aside0.mk (rbI hb HO36); have n2_ := Aside0.mk (sbI hb HO49); have n3_ := Aside0.mk (rbI hb HO62); have n4_ := Aside0.mk (sbI hb HO82); have n5_ := Aside0.mk (rbI hb HO100); have n6_ := Aside0.mk (rbI hb HO103); have n7_ := Aside0.mk (sbI hb HO120); have n8_ := Aside0.mk (rbI hb HO133); have n9_ := Aside0.mk (sbI hb HO153); have n10_ := Aside0.mk (sI hb HB); have n11_ := Aside0.mk (leI hb HS); have n12_ := Aside0.mk (kbI hb BKgb1); have n13_ := Aside0.mk (kbI hb BKgb104); clear HO33 HO36 HO49 HO62 HO82 HO100 HO103 HO120 HO133 HO153 HB HS BKgb1 BKgb104; have HO33 := n0_; have HO36 := n1_; have HO49 := n2_; have HO62 := n3_; have HO82 := n4_; have HO100 := n5_; have HO103 := n6_; have HO120 := n7_; have HO133 := n8_; have HO153 := n9_; have HB := n10_; have HS := n11_; have BKgb1 := n12_; have BKgb104 := n13_; clear n0_ n1_ n2_ n3_ n4_ n5_ n6_ n7_ n8_ n9_ n10_ n11_ n12_ n13_ hb; (try clear hczgb1_0); have hczgb1_0 := cz BKgb1.out 0; (try clear hfzgb1_0); have hfzgb1_0 := blk_frozen BKgb1.out 0; (try clear hczgb1_1); have hczgb1_1 := cz BKgb1.out 1; (try clear hfzgb1_1); have hfzgb1_1 := blk_frozen BKgb1.out 1; (try clear hczgb104_0); have hczgb104_0 := cz BKgb104.out 0; (try clear hfzgb104_0); have hfzgb104_0 := blk_frozen BKgb104.out 0; (try clear hczgb104_1); have hczgb104_1 := cz BKgb104.out 1; (try clear hfzgb104_1); have hfzgb104_1 := blk_frozen BKgb104.out 1) | ((with_reducible refine gate_callee (f := 30) rfl ?_); refine gL (some 67) Try.func30 #[.agg #[.slice A0_0 l0_0.length c0_0, .slice A0_1 l0_1.length c0_1]] ?_; (with_reducible refine (laws_toRecord.calls k _ _ _ _ _ _ _ _ _ ?s_165 ?s_166 ?s_167 ?s_168 A_163.out).mono ?_); (case s_165 => exact Kd.C_below HR0_0.out (eI HB)); (case s_166 => exact HC0_0.out); (case s_167 => exact Kd.C_below HR0_1.out (eI HB)); (case s_168 => exact HC0_1.out); rintro e w_164 ⟨v171, v172, rfl, ho169, ho170, hb⟩; refine ⟨_, rfl, ?_⟩; obtain ⟨lo173, hi174, hle_, hsz_, hin_⟩ := newRng HB HS hb; have ho_0 := Aside0.mk (hin_.r ho169); have ho_1 := Aside0.mk (hin_.r ho170); have n0_ := Aside0.mk (rbI hb HO33); have n1_ := Aside0.mk (rbI hb HO36); have n2_ := Aside0.mk (sbI hb HO49); have n3_ := Aside0.mk (rbI hb HO62); have n4_ := Aside0.mk (sbI hb HO82); have n5_ := Aside0.mk (rbI hb HO100); have n6_ := Aside0.mk (rbI hb HO103); have n7_ := Aside0.mk (sbI hb HO120); have n8_ := Aside0.mk (rbI hb HO133); have n9_ := Aside0.mk (sbI hb HO153); have n10_ := Aside0.mk (sI hb HB); have n11_ := Aside0.mk (hsz_); have n12_ := Aside0.mk (kbI hb BKgb1); have n13_ := Aside0.mk (kbI hb BKgb104); clear HO33 HO36 HO49 HO62 HO82 HO100 HO103 HO120 HO133 HO153 HB HS BKgb1 BKgb104; have HO33 := n0_; have HO36 := n1_; have HO49 := n2_; have HO62 := n3_; have HO82 := n4_; have HO100 := n5_; have HO103 := n6_; have HO120 := n7_; have HO133 := n8_; have HO153 := n9_; have HB := n10_; have HS := n11_; have BKgb1 := n12_; have BKgb104 := n13_; clear n0_ n1_ n2_ n3_ n4_ n5_ n6_ n7_ n8_ n9_ n10_ n11_ n12_ n13_ hb; (try clear hczgb1_0); have hczgb1_0 := cz BKgb1.out 0; (try clear hfzgb1_0); have hfzgb1_0 := blk_frozen BKgb1.out 0; (try clear hczgb1_1); have hczgb1_1 := cz BKgb1.out 1; (try clear hfzgb1_1); have hfzgb1_1 := blk_frozen BKgb1.out 1; (try clear hczgb104_0); have hczgb104_0 := cz BKgb104.out 0; (try clear hfzgb104_0); have hfzgb104_0 := blk_frozen BKgb104.out 0; (try clear hczgb104_1); have hczgb104_1 := cz BKgb104.out 1; (try clear hfzgb104_1); have hfzgb104_1 := blk_frozen BKgb104.out 1; have HE175 := Aside0.mk hle_; clear hle_ hsz_ hin_ ho169 ho170; have HO178 := ho_0; clear ho_0; obtain ⟨Ao176, co177, e_⟩ := Kd.R_slice (HO178.out); subst e_; have HO181 := ho_1; clear ho_1; obtain ⟨Ao179, co180, e_⟩ := Kd.R_slice (HO181.out); subst e_) | ((with_reducible refine gate_callee (f := 35) rfl ?_); refine gL (some 68) Try.func35 #[.agg #[.slice Ao98 t83.length co99, .slice Ao101 t84.length co102], .agg #[.slice Ao176 t161.length co177, .slice Ao179 t162.length co180]] ?_; (with_reducible refine (laws_eqRecord.calls k _ _ _ _ _ _ _ _ _ _ _ _ _ _ ?s_185 ?s_186 ?s_187 ?s_188 ?s_189 ?s_190 ?s_191 ?s_192 A_183.out ⟨rfl⟩).mono ?_); (case s_185 => exact (rcI HO100).1); (case s_186 => exact (rcR HO100).2); (case s_187 => exact (rcI HO103).1); (case s_188 => exact (rcR HO103).2); (case s_189 => exact (rcI HO178).1); (case s_190 => exact (rcR HO178).2); (case s_191 => exact (rcI HO181).1); (case s_192 => exact (rcR HO181).2); rintro e w_184 ⟨rfl, hb⟩; refine ⟨_, rfl, ?_⟩; have n0_ := Aside0.mk (rbI hb HO33); have n1_ := Aside0.mk (rbI hb HO36); have n2_ := Aside0.mk (sbI hb HO49); have n3_ := Aside0.mk (rbI hb HO62); have n4_ := Aside0.mk (sbI hb HO82); have n5_ := Aside0.mk (rbI hb HO100); have n6_ := Aside0.mk (rbI hb HO103); have n7_ := Aside0.mk (sbI hb HO120); have n8_ := Aside0.mk (rbI hb HO133); have n9_ := Aside0.mk (sbI hb HO153); have n10_ := Aside0.mk (rbI hb HO178); have n11_ := Aside0.mk (rbI hb HO181); have n12_ := Aside0.mk (sI hb HB); have n13_ := Aside0.mk (leI hb HS); have n14_ := Aside0.mk (kbI hb BKgb1); have n15_ := Aside0.mk (kbI hb BKgb104); clear HO33 HO36 HO49 HO62 HO82 HO100 HO103 HO120 HO133 HO153 HO178 HO181 HB HS BKgb1 BKgb104; have HO33 := n0_; have HO36 := n1_; have HO49 := n2_; have HO62 := n3_; have HO82 := n4_; have HO100 := n5_; have HO103 := n6_; have HO120 := n7_; have HO133 := n8_; have HO153 := n9_; have HO178 := n10_; have HO181 := n11_; have HB := n12_; have HS := n13_; have BKgb1 := n14_; have BKgb104 := n15_; clear n0_ n1_ n2_ n3_ n4_ n5_ n6_ n7_ n8_ n9_ n10_ n11_ n12_ n13_ n14_ n15_ hb; (try clear hczgb1_0); have hczgb1_0 := cz BKgb1.out 0; (try clear hfzgb1_0); have hfzgb1_0 := blk_frozen BKgb1.out 0; (try clear hczgb1_1); have hczgb1_1 := cz BKgb1.out 1; (try clear hfzgb1_1); have hfzgb1_1 := blk_frozen BKgb1.out 1; (try clear hczgb104_0); have hczgb104_0 := cz BKgb104.out 0; (try clear hfzgb104_0); have hfzgb104_0 := blk_frozen BKgb104.out 0; (try clear hczgb104_1); have hczgb104_1 := cz BKgb104.out 1; (try clear hfzgb104_1); have hfzgb104_1 := blk_frozen BKgb104.out 1) | ((with_reducible refine gate_callee (f := 31) rfl ?_); refine gL (some 72) Try.func31 #[.slice A1 l1.length c1] ?_; (with_reducible refine (laws_toPartS.calls k _ _ _ _ _ ?s_196 ?s_197 A_194.out).mono ?_); (case s_196 => exact Kd.C_below HR1.out (eI HB)); (case s_197 => exact HC1.out); rintro e w_195 ⟨v199, rfl, ho198, hb⟩; refine ⟨_, rfl, ?_⟩; obtain ⟨lo200, hi201, hle_, hsz_, hin_⟩ := newRng HB HS hb; have ho_0 := Aside0.mk (hin_.s ho198); have n0_ := Aside0.mk (rbI hb HO33); have n1_ := Aside0.mk (rbI hb HO36); have n2_ := Aside0.mk (sbI hb HO49); have n3_ := Aside0.mk (rbI hb HO62); have n4_ := Aside0.mk (sbI hb HO82); have n5_ := Aside0.mk (rbI hb HO100); have n6_ := Aside0.mk (rbI hb HO103); have n7_ := Aside0.mk (sbI hb HO120); have n8_ := Aside0.mk (rbI hb HO133); have n9_ := Aside0.mk (sbI hb HO153); have n10_ := Aside0.mk (rbI hb HO178); have n11_ := Aside0.mk (rbI hb HO181); have n12_ := Aside0.mk (sI hb HB); have n13_ := Aside0.mk (hsz_); have n14_ := Aside0.mk (kbI hb BKgb1); have n15_ := Aside0.mk (kbI hb BKgb104); clear HO33 HO36 HO49 HO62 HO82 HO100 HO103 HO120 HO133 HO153 HO178 HO181 HB HS BKgb1 BKgb104; have HO33 := n0_; have HO36 := n1_; have HO49 := n2_; have HO62 := n3_; have HO82 := n4_; have HO100 := n5_; have HO103 := n6_; have HO120 := n7_; have HO133 := n8_; have HO153 := n9_; have HO178 := n10_; have HO181 := n11_; have HB := n12_; have HS := n13_; have BKgb1 := n14_; have BKgb104 := n15_; clear n0_ n1_ n2_ n3_ n4_ n5_ n6_ n7_ n8_ n9_ n10_ n11_ n12_ n13_ n14_ n15_ hb; (try clear hczgb1_0); have hczgb1_0 := cz BKgb1.out 0; (try clear hfzgb1_0); have hfzgb1_0 := blk_frozen BKgb1.out 0; (try clear hczgb1_1); have hczgb1_1 := cz BKgb1.out 1; (try clear hfzgb1_1); have hfzgb1_1 := blk_frozen BKgb1.out 1; (try clear hczgb104_0); have hczgb104_0 := cz BKgb104.out 0; (try clear hfzgb104_0); have hfzgb104_0 := blk_frozen BKgb104.out 0; (try clear hczgb104_1); have hczgb104_1 := cz BKgb104.out 1; (try clear hfzgb104_1); have hfzgb104_1 := blk_frozen BKgb104.out 1; have HE202 := Aside0.mk hle_; clear hle_ hsz_ hin_ ho198; have HO205 := ho_0; clear ho_0; obtain ⟨Ao203, co204, e_⟩ := Kd.R_slice (Kd.S_R HO205.out); subst e_) | ((with_reducible refine gate_callee (f := 34) rfl ?_); refine gL (some 73) Try.func34 #[.slice Ao118 t108.length co119, .slice Ao203 t193.length co204] ?_; (with_reducible refine (laws_eqPartS.calls k _ _ _ _ _ _ _ _ ?s_209 ?s_210 ?s_211 ?s_212 A_207.out ⟨rfl⟩).mono ?_); (case s_209 => exact (scI HO120).1); (case s_210 => exact (scR HO120).2); (case s_211 => exact (scI HO205).1); (case s_212 => exact (scR HO205).2); rintro e w_208 ⟨rfl, hb⟩; refine ⟨_, rfl, ?_⟩; have n0_ := Aside0.mk (rbI hb HO33); have n1_ := Aside0.mk (rbI hb HO36); have n2_ := Aside0.mk (sbI hb HO49); have n3_ := Aside0.mk (rbI hb HO62); have n4_ := Aside0.mk (sbI hb HO82); have n5_ := Aside0.mk (rbI hb HO100); have n6_ := Aside0.mk (rbI hb HO103); have n7_ := Aside0.mk (sbI hb HO120); have n8_ := Aside0.mk (rbI hb HO133); have n9_ := Aside0.mk (sbI hb HO153); have n10_ := Aside0.mk (rbI hb HO178); have n11_ := Aside0.mk (rbI hb HO181); have n12_ := Aside0.mk (sbI hb HO205); have n13_ := Aside0.mk (sI hb HB); have n14_ := Aside0.mk (leI hb HS); have n15_ := Aside0.mk (kbI hb BKgb1); have n16_ := Aside0.mk (kbI hb BKgb104); clear HO33 HO36 HO49 HO62 HO82 HO100 HO103 HO120 HO133 HO153 HO178 HO181 HO205 HB HS BKgb1 BKgb104; have HO33 := n0_; have HO36 := n1_; have HO49 := n2_; have HO62 := n3_; have HO82 := n4_; have HO100 := n5_; have HO103 := n6_; have HO120 := n7_; have HO133 := n8_; have HO153 := n9_; have HO178 := n10_; have HO181 := n11_; have HO205 := n12_; have HB := n13_; have HS := n14_; have BKgb1 := n15_; have BKgb104 := n16_; clear n0_ n1_ n2_ n3_ n4_ n5_ n6_ n7_ n8_ n9_ n10_ n11_ n12_ n13_ n14_ n15_ n16_ hb; (try clear hczgb1_0); have hczgb1_0 := cz BKgb1.out 0; (try clear hfzgb1_0); have hfzgb1_0 := blk_frozen BKgb1.out 0; (try clear hczgb1_1); have hczgb1_1 := cz BKgb1.out 1; (try clear hfzgb1_1); have hfzgb1_1 := blk_frozen BKgb1.out 1; (try clear hczgb104_0); have hczgb104_0 := cz BKgb104.out 0; (try clear hfzgb104_0); have hfzgb104_0 := blk_frozen BKgb104.out 0; (try clear hczgb104_1); have hczgb104_1 := cz BKgb104.out 1; (try clear hfzgb104_1); have hfzgb104_1 := blk_frozen BKgb104.out 1) | ((with_reducible refine gate_callee (f := 42) rfl ?_); refine gL (some 77) Try.func42 #[.slice A2 l2.length c2] ?_; (with_reducible refine (laws_toIntS.calls k _ _ _ _ _ ?s_216 ?s_217 A_214.out).mono ?_); (case s_216 => exact Kd.C_below HR2.out (eI HB)); (case s_217 => exact HC2.out); rintro e w_215 ⟨v219, rfl, ho218, hb⟩; refine ⟨_, rfl, ?_⟩; obtain ⟨lo220, hi221, hle_, hsz_, hin_⟩ := newRng HB HS hb; have ho_0 := Aside0.mk (hin_.r ho218); have n0_ := Aside0.mk (rbI hb HO33); have n1_ := Aside0.mk (rbI hb HO36); have n2_ := Aside0.mk (sbI hb HO49); have n3_ := Aside0.mk (rbI hb HO62); have n4_ := Aside0.mk (sbI hb HO82); have n5_ := Aside0.mk (rbI hb HO100); have n6_ := Aside0.mk (rbI hb HO103); have n7_ := Aside0.mk (sbI hb HO120); have n8_ := Aside0.mk (rbI hb HO133); have n9_ := Aside0.mk (sbI hb HO153); have n10_ := Aside0.mk (rbI hb HO178); have n11_ := Aside0.mk (rbI hb HO181); have n12_ := Aside0.mk (sbI hb HO205); have n13_ := Aside0.mk (sI hb HB); have n14_ := Aside0.mk (hsz_); have n15_ := Aside0.mk (kbI hb BKgb1); have n16_ := Aside0.mk (kbI hb BKgb104); clear HO33 HO36 HO49 HO62 HO82 HO100 HO103 HO120 HO133 HO153 HO178 HO181 HO205 HB HS BKgb1 BKgb104; have HO33 := n0_; have HO36 := n1_; have HO49 := n2_; have HO62 := n3_; have HO82 := n4_; have HO100 := n5_; have HO103 := n6_; have HO120 := n7_; have HO133 := n8_; have HO153 := n9_; have HO178 := n10_; have HO181 := n11_; have HO205 := n12_; have HB := n13_; have HS := n14_; have BKgb1 := n15_; have BKgb104 := n16_; clear n0_ n1_ n2_ n3_ n4_ n5_ n6_ n7_ n8_ n9_ n10_ n11_ n12_ n13_ n14_ n15_ n16_ hb; (try clear hczgb1_0); have hczgb1_0 := cz BKgb1.out 0; (try clear hfzgb1_0); have hfzgb1_0 := blk_frozen BKgb1.out 0; (try clear hczgb1_1); have hczgb1_1 := cz BKgb1.out 1; (try clear hfzgb1_1); have hfzgb1_1 := blk_frozen BKgb1.out 1; (try clear hczgb104_0); have hczgb104_0 := cz BKgb104.out 0; (try clear hfzgb104_0); have hfzgb104_0 := blk_frozen BKgb104.out 0; (try clear hczgb104_1); have hczgb104_1 := cz BKgb104.out 1; (try clear hfzgb104_1); have hfzgb104_1 := blk_frozen BKgb104.out 1; have HE222 := Aside0.mk hle_; clear hle_ hsz_ hin_ ho218; have HO225 := ho_0; clear ho_0; obtain ⟨Ao223, co224, e_⟩ := Kd.R_slice (HO225.out); subst e_) | ((with_reducible refine gate_callee (f := 14) rfl ?_); refine gL (some 78) Try.func14 #[.slice Ao131 t121.length co132, .slice Ao223 t213.length co224] ?_; (with_reducible refine (laws_eqIntS.calls k _ _ _ _ _ _ _ _ ?s_229 ?s_230 ?s_231 ?s_232 A_227.out ⟨rfl⟩).mono ?_); (case s_229 => exact (rcI HO133).1); (case s_230 => exact (rcR HO133).2); (case s_231 => exact (rcI HO225).1); (case s_232 => exact (rcR HO225).2); rintro e w' ⟨rfl, ⟨nd, rfl⟩⟩; refine ⟨_, rfl, ?_⟩) | ((with_reducible refine gate_callee (f := 37) rfl ?_); refine gL (some 82) Try.func37 #[.agg #[.slice Ao98 t83.length co99, .slice Ao101 t84.length co102], .int .i64 1] ?_; (with_reducible refine (laws_markRecord.calls k (fun k_ => lo95 ≤ k_ ∧ k_ < hi96) _ _ (fun k_ => lo95 ≤ k_ ∧ k_ < hi96) _ _ _ _ _ _ w _ (eI HB) (rI HO100) (rI HO103) A_236.out).mono ?_); rintro e w_237 ⟨rfl, ho238, ho239, hb, hk⟩; refine ⟨_, rfl, ?_⟩; have hkp := keptRng (lo := lo95) (hi := hi96) hk (fun k_ h_ => by first | exact h_ | exact h_.elim id id); clear HO100; clear HO103; have n0_ := Aside0.mk (krI hkp HO33 (by have h0_ := HE2.out; have h1_ := HE30.out; have h2_ := HE46.out; have h3_ := HE59.out; have h4_ := HE79.out; have h5_ := HE97.out; have h6_ := HE105.out; have h7_ := HE117.out; have h8_ := HE130.out; have h9_ := HE150.out; have h10_ := HE175.out; have h11_ := HE202.out; have h12_ := HE222.out; omega)); have n1_ := Aside0.mk (krI hkp HO36 (by have h0_ := HE2.out; have h1_ := HE30.out; have h2_ := HE46.out; have h3_ := HE59.out; have h4_ := HE79.out; have h5_ := HE97.out; have h6_ := HE105.out; have h7_ := HE117.out; have h8_ := HE130.out; have h9_ := HE150.out; have h10_ := HE175.out; have h11_ := HE202.out; have h12_ := HE222.out; omega)); have n2_ := Aside0.mk (ksI hkp HO49 (by have h0_ := HE2.out; have h1_ := HE30.out; have h2_ := HE46.out; have h3_ := HE59.out; have h4_ := HE79.out; have h5_ := HE97.out; have h6_ := HE105.out; have h7_ := HE117.out; have h8_ := HE130.out; have h9_ := HE150.out; have h10_ := HE175.out; have h11_ := HE202.out; have h12_ := HE222.out; omega)); have n3_ := Aside0.mk (krI hkp HO62 (by have h0_ := HE2.out; have h1_ := HE30.out; have h2_ := HE46.out; have h3_ := HE59.out; have h4_ := HE79.out; have h5_ := HE97.out; have h6_ := HE105.out; have h7_ := HE117.out; have h8_ := HE130.out; have h9_ := HE150.out; have h10_ := HE175.out; have h11_ := HE202.out; have h12_ := HE222.out; omega)); have n4_ := Aside0.mk (ksI hkp HO82 (by have h0_ := HE2.out; have h1_ := HE30.out; have h2_ := HE46.out; have h3_ := HE59.out; have h4_ := HE79.out; have h5_ := HE97.out; have h6_ := HE105.out; have h7_ := HE117.out; have h8_ := HE130.out; have h9_ := HE150.out; have h10_ := HE175.out; have h11_ := HE202.out; have h12_ := HE222.out; omega)); have n5_ := Aside0.mk (ksI hkp HO120 (by have h0_ := HE2.out; have h1_ := HE30.out; have h2_ := HE46.out; have h3_ := HE59.out; have h4_ := HE79.out; have h5_ := HE97.out; have h6_ := HE105.out; have h7_ := HE117.out; have h8_ := HE130.out; have h9_ := HE150.out; have h10_ := HE175.out; have h11_ := HE202.out; have h12_ := HE222.out; omega)); have n6_ := Aside0.mk (krI hkp HO133 (by have h0_ := HE2.out; have h1_ := HE30.out; have h2_ := HE46.out; have h3_ := HE59.out; have h4_ := HE79.out; have h5_ := HE97.out; have h6_ := HE105.out; have h7_ := HE117.out; have h8_ := HE130.out; have h9_ := HE150.out; have h10_ := HE175.out; have h11_ := HE202.out; have h12_ := HE222.out; omega)); have n7_ := Aside0.mk (ksI hkp HO153 (by have h0_ := HE2.out; have h1_ := HE30.out; have h2_ := HE46.out; have h3_ := HE59.out; have h4_ := HE79.out; have h5_ := HE97.out; have h6_ := HE105.out; have h7_ := HE117.out; have h8_ := HE130.out; have h9_ := HE150.out; have h10_ := HE175.out; have h11_ := HE202.out; have h12_ := HE222.out; omega)); have n8_ := Aside0.mk (krI hkp HO178 (by have h0_ := HE2.out; have h1_ := HE30.out; have h2_ := HE46.out; have h3_ := HE59.out; have h4_ := HE79.out; have h5_ := HE97.out; have h6_ := HE105.out; have h7_ := HE117.out; have h8_ := HE130.out; have h9_ := HE150.out; have h10_ := HE175.out; have h11_ := HE202.out; have h12_ := HE222.out; omega)); have n9_ := Aside0.mk (krI hkp HO181 (by have h0_ := HE2.out; have h1_ := HE30.out; have h2_ := HE46.out; have h3_ := HE59.out; have h4_ := HE79.out; have h5_ := HE97.out; have h6_ := HE105.out; have h7_ := HE117.out; have h8_ := HE130.out; have h9_ := HE150.out; have h10_ := HE175.out; have h11_ := HE202.out; have h12_ := HE222.out; omega)); have n10_ := Aside0.mk (ksI hkp HO205 (by have h0_ := HE2.out; have h1_ := HE30.out; have h2_ := HE46.out; have h3_ := HE59.out; have h4_ := HE79.out; have h5_ := HE97.out; have h6_ := HE105.out; have h7_ := HE117.out; have h8_ := HE130.out; have h9_ := HE150.out; have h10_ := HE175.out; have h11_ := HE202.out; have h12_ := HE222.out; omega)); have n11_ := Aside0.mk (krI hkp HO225 (by have h0_ := HE2.out; have h1_ := HE30.out; have h2_ := HE46.out; have h3_ := HE59.out; have h4_ := HE79.out; have h5_ := HE97.out; have h6_ := HE105.out; have h7_ := HE117.out; have h8_ := HE130.out; have h9_ := HE150.out; have h10_ := HE175.out; have h11_ := HE202.out; have h12_ := HE222.out; omega)); have n12_ := Aside0.mk (hb); have n13_ := Aside0.mk (leK hk HS); have n14_ := Aside0.mk (bkI hkp BKgb1 (by have h0_ := HE2.out; have h1_ := HE30.out; have h2_ := HE46.out; have h3_ := HE59.out; have h4_ := HE79.out; have h5_ := HE97.out; have h6_ := HE105.out; have h7_ := HE117.out; have h8_ := HE130.out; have h9_ := HE150.out; have h10_ := HE175.out; have h11_ := HE202.out; have h12_ := HE222.out; omega)); have n15_ := Aside0.mk (bkI hkp BKgb104 (by have h0_ := HE2.out; have h1_ := HE30.out; have h2_ := HE46.out; have h3_ := HE59.out; have h4_ := HE79.out; have h5_ := HE97.out; have h6_ := HE105.out; have h7_ := HE117.out; have h8_ := HE130.out; have h9_ := HE150.out; have h10_ := HE175.out; have h11_ := HE202.out; have h12_ := HE222.out; omega)); clear HO33 HO36 HO49 HO62 HO82 HO120 HO133 HO153 HO178 HO181 HO205 HO225 HB HS BKgb1 BKgb104; have HO33 := n0_; have HO36 := n1_; have HO49 := n2_; have HO62 := n3_; have HO82 := n4_; have HO120 := n5_; have HO133 := n6_; have HO153 := n7_; have HO178 := n8_; have HO181 := n9_; have HO205 := n10_; have HO225 := n11_; have HB := n12_; have HS := n13_; have BKgb1 := n14_; have BKgb104 := n15_; clear n0_ n1_ n2_ n3_ n4_ n5_ n6_ n7_ n8_ n9_ n10_ n11_ n12_ n13_ n14_ n15_ hb hk hkp ho238 ho239; (try clear hczgb1_0); have hczgb1_0 := cz BKgb1.out 0; (try clear hfzgb1_0); have hfzgb1_0 := blk_frozen BKgb1.out 0; (try clear hczgb1_1); have hczgb1_1 := cz BKgb1.out 1; (try clear hfzgb1_1); have hfzgb1_1 := blk_frozen BKgb1.out 1; (try clear hczgb104_0); have hczgb104_0 := cz BKgb104.out 0; (try clear hfzgb104_0); have hfzgb104_0 := blk_frozen BKgb104.out 0; (try clear hczgb104_1); have hczgb104_1 := cz BKgb104.out 1; (try clear hfzgb104_1); have hfzgb104_1 := blk_frozen BKgb104.out 1) | ((with_reducible refine gate_callee (f := 38) rfl ?_); refine gL (some 85) Try.func38 #[.slice Ao118 t108.length co119, .int .i64 t233] ?_; (with_reducible refine (laws_markPartS.calls k (fun k_ => lo115 ≤ k_ ∧ k_ < hi116) _ _ _ _ _ w _ (eI HB) (sbI0 HO120) A_244.out).mono ?_); rintro e w_245 ⟨rfl, ho246, hb, hk⟩; refine ⟨_, rfl, ?_⟩; have hkp := keptRng (lo := lo115) (hi := hi116) hk (fun k_ h_ => by first | exact h_ | exact h_.elim id id); clear HO120; have n0_ := Aside0.mk (krI hkp HO33 (by have h0_ := HE2.out; have h1_ := HE30.out; have h2_ := HE46.out; have h3_ := HE59.out; have h4_ := HE79.out; have h5_ := HE97.out; have h6_ := HE105.out; have h7_ := HE117.out; have h8_ := HE130.out; have h9_ := HE150.out; have h10_ := HE175.out; have h11_ := HE202.out; have h12_ := HE222.out; omega)); have n1_ := Aside0.mk (krI hkp HO36 (by have h0_ := HE2.out; have h1_ := HE30.out; have h2_ := HE46.out; have h3_ := HE59.out; have h4_ := HE79.out; have h5_ := HE97.out; have h6_ := HE105.out; have h7_ := HE117.out; have h8_ := HE130.out; have h9_ := HE150.out; have h10_ := HE175.out; have h11_ := HE202.out; have h12_ := HE222.out; omega)); have n2_ := Aside0.mk (ksI hkp HO49 (by have h0_ := HE2.out; have h1_ := HE30.out; have h2_ := HE46.out; have h3_ := HE59.out; have h4_ := HE79.out; have h5_ := HE97.out; have h6_ := HE105.out; have h7_ := HE117.out; have h8_ := HE130.out; have h9_ := HE150.out; have h10_ := HE175.out; have h11_ := HE202.out; have h12_ := HE222.out; omega)); have n3_ := Aside0.mk (krI hkp HO62 (by have h0_ := HE2.out; have h1_ := HE30.out; have h2_ := HE46.out; have h3_ := HE59.out; have h4_ := HE79.out; have h5_ := HE97.out; have h6_ := HE105.out; have h7_ := HE117.out; have h8_ := HE130.out; have h9_ := HE150.out; have h10_ := HE175.out; have h11_ := HE202.out; have h12_ := HE222.out; omega)); have n4_ := Aside0.mk (ksI hkp HO82 (by have h0_ := HE2.out; have h1_ := HE30.out; have h2_ := HE46.out; have h3_ := HE59.out; have h4_ := HE79.out; have h5_ := HE97.out; have h6_ := HE105.out; have h7_ := HE117.out; have h8_ := HE130.out; have h9_ := HE150.out; have h10_ := HE175.out; have h11_ := HE202.out; have h12_ := HE222.out; omega)); have n5_ := Aside0.mk (krI hkp HO133 (by have h0_ := HE2.out; have h1_ := HE30.out; have h2_ := HE46.out; have h3_ := HE59.out; have h4_ := HE79.out; have h5_ := HE97.out; have h6_ := HE105.out; have h7_ := HE117.out; have h8_ := HE130.out; have h9_ := HE150.out; have h10_ := HE175.out; have h11_ := HE202.out; have h12_ := HE222.out; omega)); have n6_ := Aside0.mk (ksI hkp HO153 (by have h0_ := HE2.out; have h1_ := HE30.out; have h2_ := HE46.out; have h3_ := HE59.out; have h4_ := HE79.out; have h5_ := HE97.out; have h6_ := HE105.out; have h7_ := HE117.out; have h8_ := HE130.out; have h9_ := HE150.out; have h10_ := HE175.out; have h11_ := HE202.out; have h12_ := HE222.out; omega)); have n7_ := Aside0.mk (krI hkp HO178 (by have h0_ := HE2.out; have h1_ := HE30.out; have h2_ := HE46.out; have h3_ := HE59.out; have h4_ := HE79.out; have h5_ := HE97.out; have h6_ := HE105.out; have h7_ := HE117.out; have h8_ := HE130.out; have h9_ := HE150.out; have h10_ := HE175.out; have h11_ := HE202.out; have h12_ := HE222.out; omega)); have n8_ := Aside0.mk (krI hkp HO181 (by have h0_ := HE2.out; have h1_ := HE30.out; have h2_ := HE46.out; have h3_ := HE59.out; have h4_ := HE79.out; have h5_ := HE97.out; have h6_ := HE105.out; have h7_ := HE117.out; have h8_ := HE130.out; have h9_ := HE150.out; have h10_ := HE175.out; have h11_ := HE202.out; have h12_ := HE222.out; omega)); have n9_ := Aside0.mk (ksI hkp HO205 (by have h0_ := HE2.out; have h1_ := HE30.out; have h2_ := HE46.out; have h3_ := HE59.out; have h4_ := HE79.out; have h5_ := HE97.out; have h6_ := HE105.out; have h7_ := HE117.out; have h8_ := HE130.out; have h9_ := HE150.out; have h10_ := HE175.out; have h11_ := HE202.out; have h12_ := HE222.out; omega)); have n10_ := Aside0.mk (krI hkp HO225 (by have h0_ := HE2.out; have h1_ := HE30.out; have h2_ := HE46.out; have h3_ := HE59.out; have h4_ := HE79.out; have h5_ := HE97.out; have h6_ := HE105.out; have h7_ := HE117.out; have h8_ := HE130.out; have h9_ := HE150.out; have h10_ := HE175.out; have h11_ := HE202.out; have h12_ := HE222.out; omega)); have n11_ := Aside0.mk (hb); have n12_ := Aside0.mk (leK hk HS); have n13_ := Aside0.mk (bkI hkp BKgb1 (by have h0_ := HE2.out; have h1_ := HE30.out; have h2_ := HE46.out; have h3_ := HE59.out; have h4_ := HE79.out; have h5_ := HE97.out; have h6_ := HE105.out; have h7_ := HE117.out; have h8_ := HE130.out; have h9_ := HE150.out; have h10_ := HE175.out; have h11_ := HE202.out; have h12_ := HE222.out; omega)); have n14_ := Aside0.mk (bkI hkp BKgb104 (by have h0_ := HE2.out; have h1_ := HE30.out; have h2_ := HE46.out; have h3_ := HE59.out; have h4_ := HE79.out; have h5_ := HE97.out; have h6_ := HE105.out; have h7_ := HE117.out; have h8_ := HE130.out; have h9_ := HE150.out; have h10_ := HE175.out; have h11_ := HE202.out; have h12_ := HE222.out; omega)); clear HO33 HO36 HO49 HO62 HO82 HO133 HO153 HO178 HO181 HO205 HO225 HB HS BKgb1 BKgb104; have HO33 := n0_; have HO36 := n1_; have HO49 := n2_; have HO62 := n3_; have HO82 := n4_; have HO133 := n5_; have HO153 := n6_; have HO178 := n7_; have HO181 := n8_; have HO205 := n9_; have HO225 := n10_; have HB := n11_; have HS := n12_; have BKgb1 := n13_; have BKgb104 := n14_; clear n0_ n1_ n2_ n3_ n4_ n5_ n6_ n7_ n8_ n9_ n10_ n11_ n12_ n13_ n14_ hb hk hkp ho246; (try clear hczgb1_0); have hczgb1_0 := cz BKgb1.out 0; (try clear hfzgb1_0); have hfzgb1_0 := blk_frozen BKgb1.out 0; (try clear hczgb1_1); have hczgb1_1 := cz BKgb1.out 1; (try clear hfzgb1_1); have hfzgb1_1 := blk_frozen BKgb1.out 1; (try clear hczgb104_0); have hczgb104_0 := cz BKgb104.out 0; (try clear hfzgb104_0); have hfzgb104_0 := blk_frozen BKgb104.out 0; (try clear hczgb104_1); have hczgb104_1 := cz BKgb104.out 1; (try clear hfzgb104_1); have hfzgb104_1 := blk_frozen BKgb104.out 1) | ((with_reducible refine gate_callee (f := 19) rfl ?_); refine gL (some 88) Try.func19 #[.slice Ao131 t121.length co132, .int .i64 t242] ?_; (with_reducible refine (laws_markIntS.calls k (fun k_ => lo128 ≤ k_ ∧ k_ < hi129) _ _ _ _ _ w _ (eI HB) (rI HO133) A_250.out).mono ?_); rintro e w_251 ⟨rfl, ho252, hb, hk⟩; refine ⟨_, rfl, ?_⟩; have hkp := keptRng (lo := lo128) (hi := hi129) hk (fun k_ h_ => by first | exact h_ | exact h_.elim id id); clear HO133; have n0_ := Aside0.mk (krI hkp HO33 (by have h0_ := HE2.out; have h1_ := HE30.out; have h2_ := HE46.out; have h3_ := HE59.out; have h4_ := HE79.out; have h5_ := HE97.out; have h6_ := HE105.out; have h7_ := HE117.out; have h8_ := HE130.out; have h9_ := HE150.out; have h10_ := HE175.out; have h11_ := HE202.out; have h12_ := HE222.out; omega)); have n1_ := Aside0.mk (krI hkp HO36 (by have h0_ := HE2.out; have h1_ := HE30.out; have h2_ := HE46.out; have h3_ := HE59.out; have h4_ := HE79.out; have h5_ := HE97.out; have h6_ := HE105.out; have h7_ := HE117.out; have h8_ := HE130.out; have h9_ := HE150.out; have h10_ := HE175.out; have h11_ := HE202.out; have h12_ := HE222.out; omega)); have n2_ := Aside0.mk (ksI hkp HO49 (by have h0_ := HE2.out; have h1_ := HE30.out; have h2_ := HE46.out; have h3_ := HE59.out; have h4_ := HE79.out; have h5_ := HE97.out; have h6_ := HE105.out; have h7_ := HE117.out; have h8_ := HE130.out; have h9_ := HE150.out; have h10_ := HE175.out; have h11_ := HE202.out; have h12_ := HE222.out; omega)); have n3_ := Aside0.mk (krI hkp HO62 (by have h0_ := HE2.out; have h1_ := HE30.out; have h2_ := HE46.out; have h3_ := HE59.out; have h4_ := HE79.out; have h5_ := HE97.out; have h6_ := HE105.out; have h7_ := HE117.out; have h8_ := HE130.out; have h9_ := HE150.out; have h10_ := HE175.out; have h11_ := HE202.out; have h12_ := HE222.out; omega)); have n4_ := Aside0.mk (ksI hkp HO82 (by have h0_ := HE2.out; have h1_ := HE30.out; have h2_ := HE46.out; have h3_ := HE59.out; have h4_ := HE79.out; have h5_ := HE97.out; have h6_ := HE105.out; have h7_ := HE117.out; have h8_ := HE130.out; have h9_ := HE150.out; have h10_ := HE175.out; have h11_ := HE202.out; have h12_ := HE222.out; omega)); have n5_ := Aside0.mk (ksI hkp HO153 (by have h0_ := HE2.out; have h1_ := HE30.out; have h2_ := HE46.out; have h3_ := HE59.out; have h4_ := HE79.out; have h5_ := HE97.out; have h6_ := HE105.out; have h7_ := HE117.out; have h8_ := HE130.out; have h9_ := HE150.out; have h10_ := HE175.out; have h11_ := HE202.out; have h12_ := HE222.out; omega)); have n6_ := Aside0.mk (krI hkp HO178 (by have h0_ := HE2.out; have h1_ := HE30.out; have h2_ := HE46.out; have h3_ := HE59.out; have h4_ := HE79.out; have h5_ := HE97.out; have h6_ := HE105.out; have h7_ := HE117.out; have h8_ := HE130.out; have h9_ := HE150.out; have h10_ := HE175.out; have h11_ := HE202.out; have h12_ := HE222.out; omega)); have n7_ := Aside0.mk (krI hkp HO181 (by have h0_ := HE2.out; have h1_ := HE30.out; have h2_ := HE46.out; have h3_ := HE59.out; have h4_ := HE79.out; have h5_ := HE97.out; have h6_ := HE105.out; have h7_ := HE117.out; have h8_ := HE130.out; have h9_ := HE150.out; have h10_ := HE175.out; have h11_ := HE202.out; have h12_ := HE222.out; omega)); have n8_ := Aside0.mk (ksI hkp HO205 (by have h0_ := HE2.out; have h1_ := HE30.out; have h2_ := HE46.out; have h3_ := HE59.out; have h4_ := HE79.out; have h5_ := HE97.out; have h6_ := HE105.out; have h7_ := HE117.out; have h8_ := HE130.out; have h9_ := HE150.out; have h10_ := HE175.out; have h11_ := HE202.out; have h12_ := HE222.out; omega)); have n9_ := Aside0.mk (krI hkp HO225 (by have h0_ := HE2.out; have h1_ := HE30.out; have h2_ := HE46.out; have h3_ := HE59.out; have h4_ := HE79.out; have h5_ := HE97.out; have h6_ := HE105.out; have h7_ := HE117.out; have h8_ := HE130.out; have h9_ := HE150.out; have h10_ := HE175.out; have h11_ := HE202.out; have h12_ := HE222.out; omega)); have n10_ := Aside0.mk (hb); have n11_ := Aside0.mk (leK hk HS); have n12_ := Aside0.mk (bkI hkp BKgb1 (by have h0_ := HE2.out; have h1_ := HE30.out; have h2_ := HE46.out; have h3_ := HE59.out; have h4_ := HE79.out; have h5_ := HE97.out; have h6_ := HE105.out; have h7_ := HE117.out; have h8_ := HE130.out; have h9_ := HE150.out; have h10_ := HE175.out; have h11_ := HE202.out; have h12_ := HE222.out; omega)); have n13_ := Aside0.mk (bkI hkp BKgb104 (by have h0_ := HE2.out; have h1_ := HE30.out; have h2_ := HE46.out; have h3_ := HE59.out; have h4_ := HE79.out; have h5_ := HE97.out; have h6_ := HE105.out; have h7_ := HE117.out; have h8_ := HE130.out; have h9_ := HE150.out; have h10_ := HE175.out; have h11_ := HE202.out; have h12_ := HE222.out; omega)); clear HO33 HO36 HO49 HO62 HO82 HO153 HO178 HO181 HO205 HO225 HB HS BKgb1 BKgb104; have HO33 := n0_; have HO36 := n1_; have HO49 := n2_; have HO62 := n3_; have HO82 := n4_; have HO153 := n5_; have HO178 := n6_; have HO181 := n7_; have HO205 := n8_; have HO225 := n9_; have HB := n10_; have HS := n11_; have BKgb1 := n12_; have BKgb104 := n13_; clear n0_ n1_ n2_ n3_ n4_ n5_ n6_ n7_ n8_ n9_ n10_ n11_ n12_ n13_ hb hk hkp ho252; (try clear hczgb1_0); have hczgb1_0 := cz BKgb1.out 0; (try clear hfzgb1_0); have hfzgb1_0 := blk_frozen BKgb1.out 0; (try clear hczgb1_1); have hczgb1_1 := cz BKgb1.out 1; (try clear hfzgb1_1); have hfzgb1_1 := blk_frozen BKgb1.out 1; (try clear hczgb104_0); have hczgb104_0 := cz BKgb104.out 0; (try clear hfzgb104_0); have hfzgb104_0 := blk_frozen BKgb104.out 0; (try clear hczgb104_1); have hczgb104_1 := cz BKgb104.out 1; (try clear hfzgb104_1); have hfzgb104_1 := blk_frozen BKgb104.out 1) | ((with_reducible refine gate_callee (f := 34) rfl ?_); refine gate_guard (by first | rfl | kernel_rfl) ?_; refine gL (some 94) Try.func34 #[.slice Ao151 t134.length co152, .slice Ao80 t63.length co81] ?_; (with_reducible refine (laws_eqPartS.calls k _ _ _ _ _ _ _ _ ?s_257 ?s_258 ?s_259 ?s_260 A_255.out ⟨rfl⟩).mono ?_); (case s_257 => exact (scI HO153).1); (case s_258 => exact (scR HO153).2); (case s_259 => exact (scI HO82).1); (case s_260 => exact (scR HO82).2); rintro e w_256 ⟨rfl, hb⟩; refine ⟨_, rfl, ?_⟩; have n0_ := Aside0.mk (rbI hb HO33); have n1_ := Aside0.mk (rbI hb HO36); have n2_ := Aside0.mk (sbI hb HO49); have n3_ := Aside0.mk (rbI hb HO62); have n4_ := Aside0.mk (sbI hb HO82); have n5_ := Aside0.mk (sbI hb HO153); have n6_ := Aside0.mk (rbI hb HO178); have n7_ := Aside0.mk (rbI hb HO181); have n8_ := Aside0.mk (sbI hb HO205); have n9_ := Aside0.mk (rbI hb HO225); have n10_ := Aside0.mk (sI hb HB); have n11_ := Aside0.mk (leI hb HS); have n12_ := Aside0.mk (kbI hb BKgb1); have n13_ := Aside0.mk (kbI hb BKgb104); clear HO33 HO36 HO49 HO62 HO82 HO153 HO178 HO181 HO205 HO225 HB HS BKgb1 BKgb104; have HO33 := n0_; have HO36 := n1_; have HO49 := n2_; have HO62 := n3_; have HO82 := n4_; have HO153 := n5_; have HO178 := n6_; have HO181 := n7_; have HO205 := n8_; have HO225 := n9_; have HB := n10_; have HS := n11_; have BKgb1 := n12_; have BKgb104 := n13_; clear n0_ n1_ n2_ n3_ n4_ n5_ n6_ n7_ n8_ n9_ n10_ n11_ n12_ n13_ hb; (try clear hczgb1_0); have hczgb1_0 := cz BKgb1.out 0; (try clear hfzgb1_0); have hfzgb1_0 := blk_frozen BKgb1.out 0; (try clear hczgb1_1); have hczgb1_1 := cz BKgb1.out 1; (try clear hfzgb1_1); have hfzgb1_1 := blk_frozen BKgb1.out 1; (try clear hczgb104_0); have hczgb104_0 := cz BKgb104.out 0; (try clear hfzgb104_0); have hfzgb104_0 := blk_frozen BKgb104.out 0; (try clear hczgb104_1); have hczgb104_1 := cz BKgb104.out 1; (try clear hfzgb104_1); have hfzgb104_1 := blk_frozen BKgb104.out 1) | ((with_reducible refine gate_callee (f := 38) rfl ?_); refine gL (some 104) Try.func38 #[.slice Ao151 t134.length co152, .int .i64 1] ?_; (with_reducible refine (laws_markPartS.calls k (fun k_ => lo148 ≤ k_ ∧ k_ < hi149) _ _ _ _ _ w _ (eI HB) (sbI0 HO153) A_263.out).mono ?_); rintro e w_264 ⟨rfl, ho265, hb, hk⟩; refine ⟨_, rfl, ?_⟩; have hkp := keptRng (lo := lo148) (hi := hi149) hk (fun k_ h_ => by first | exact h_ | exact h_.elim id id); have n0_ := Aside0.mk (krI hkp HO33 (by have h0_ := HE2.out; have h1_ := HE30.out; have h2_ := HE46.out; have h3_ := HE59.out; have h4_ := HE79.out; have h5_ := HE97.out; have h6_ := HE105.out; have h7_ := HE117.out; have h8_ := HE130.out; have h9_ := HE150.out; have h10_ := HE175.out; have h11_ := HE202.out; have h12_ := HE222.out; omega)); have n1_ := Aside0.mk (krI hkp HO36 (by have h0_ := HE2.out; have h1_ := HE30.out; have h2_ := HE46.out; have h3_ := HE59.out; have h4_ := HE79.out; have h5_ := HE97.out; have h6_ := HE105.out; have h7_ := HE117.out; have h8_ := HE130.out; have h9_ := HE150.out; have h10_ := HE175.out; have h11_ := HE202.out; have h12_ := HE222.out; omega)); have n2_ := Aside0.mk (ksI hkp HO49 (by have h0_ := HE2.out; have h1_ := HE30.out; have h2_ := HE46.out; have h3_ := HE59.out; have h4_ := HE79.out; have h5_ := HE97.out; have h6_ := HE105.out; have h7_ := HE117.out; have h8_ := HE130.out; have h9_ := HE150.out; have h10_ := HE175.out; have h11_ := HE202.out; have h12_ := HE222.out; omega)); have n3_ := Aside0.mk (krI hkp HO62 (by have h0_ := HE2.out; have h1_ := HE30.out; have h2_ := HE46.out; have h3_ := HE59.out; have h4_ := HE79.out; have h5_ := HE97.out; have h6_ := HE105.out; have h7_ := HE117.out; have h8_ := HE130.out; have h9_ := HE150.out; have h10_ := HE175.out; have h11_ := HE202.out; have h12_ := HE222.out; omega)); have n4_ := Aside0.mk (ksI hkp HO82 (by have h0_ := HE2.out; have h1_ := HE30.out; have h2_ := HE46.out; have h3_ := HE59.out; have h4_ := HE79.out; have h5_ := HE97.out; have h6_ := HE105.out; have h7_ := HE117.out; have h8_ := HE130.out; have h9_ := HE150.out; have h10_ := HE175.out; have h11_ := HE202.out; have h12_ := HE222.out; omega)); have n5_ := Aside0.mk (krI hkp HO178 (by have h0_ := HE2.out; have h1_ := HE30.out; have h2_ := HE46.out; have h3_ := HE59.out; have h4_ := HE79.out; have h5_ := HE97.out; have h6_ := HE105.out; have h7_ := HE117.out; have h8_ := HE130.out; have h9_ := HE150.out; have h10_ := HE175.out; have h11_ := HE202.out; have h12_ := HE222.out; omega)); have n6_ := Aside0.mk (krI hkp HO181 (by have h0_ := HE2.out; have h1_ := HE30.out; have h2_ := HE46.out; have h3_ := HE59.out; have h4_ := HE79.out; have h5_ := HE97.out; have h6_ := HE105.out; have h7_ := HE117.out; have h8_ := HE130.out; have h9_ := HE150.out; have h10_ := HE175.out; have h11_ := HE202.out; have h12_ := HE222.out; omega)); have n7_ := Aside0.mk (ksI hkp HO205 (by have h0_ := HE2.out; have h1_ := HE30.out; have h2_ := HE46.out; have h3_ := HE59.out; have h4_ := HE79.out; have h5_ := HE97.out; have h6_ := HE105.out; have h7_ := HE117.out; have h8_ := HE130.out; have h9_ := HE150.out; have h10_ := HE175.out; have h11_ := HE202.out; have h12_ := HE222.out; omega)); have n8_ := Aside0.mk (krI hkp HO225 (by have h0_ := HE2.out; have h1_ := HE30.out; have h2_ := HE46.out; have h3_ := HE59.out; have h4_ := HE79.out; have h5_ := HE97.out; have h6_ := HE105.out; have h7_ := HE117.out; have h8_ := HE130.out; have h9_ := HE150.out; have h10_ := HE175.out; have h11_ := HE202.out; have h12_ := HE222.out; omega)); have n9_ := Aside0.mk (Kd.S_mono (ok' := fun _ => True) ho265 (fun _ _ => trivial)); have n10_ := Aside0.mk (hb); have n11_ := Aside0.mk (leK hk HS); have n12_ := Aside0.mk (bkI hkp BKgb1 (by have h0_ := HE2.out; have h1_ := HE30.out; have h2_ := HE46.out; have h3_ := HE59.out; have h4_ := HE79.out; have h5_ := HE97.out; have h6_ := HE105.out; have h7_ := HE117.out; have h8_ := HE130.out; have h9_ := HE150.out; have h10_ := HE175.out; have h11_ := HE202.out; have h12_ := HE222.out; omega)); have n13_ := Aside0.mk (bkI hkp BKgb104 (by have h0_ := HE2.out; have h1_ := HE30.out; have h2_ := HE46.out; have h3_ := HE59.out; have h4_ := HE79.out; have h5_ := HE97.out; have h6_ := HE105.out; have h7_ := HE117.out; have h8_ := HE130.out; have h9_ := HE150.out; have h10_ := HE175.out; have h11_ := HE202.out; have h12_ := HE222.out; omega)); clear HO33 HO36 HO49 HO62 HO82 HO178 HO181 HO205 HO225 HO153 HB HS BKgb1 BKgb104; have HO33 := n0_; have HO36 := n1_; have HO49 := n2_; have HO62 := n3_; have HO82 := n4_; have HO178 := n5_; have HO181 := n6_; have HO205 := n7_; have HO225 := n8_; have HO153 := n9_; have HB := n10_; have HS := n11_; have BKgb1 := n12_; have BKgb104 := n13_; clear n0_ n1_ n2_ n3_ n4_ n5_ n6_ n7_ n8_ n9_ n10_ n11_ n12_ n13_ hb hk hkp ho265; (try clear hczgb1_0); have hczgb1_0 := cz BKgb1.out 0; (try clear hfzgb1_0); have hfzgb1_0 := blk_frozen BKgb1.out 0; (try clear hczgb1_1); have hczgb1_1 := cz BKgb1.out 1; (try clear hfzgb1_1); have hfzgb1_1 := blk_frozen BKgb1.out 1; (try clear hczgb104_0); have hczgb104_0 := cz BKgb104.out 0; (try clear hfzgb104_0); have hfzgb104_0 := blk_frozen BKgb104.out 0; (try clear hczgb104_1); have hczgb104_1 := cz BKgb104.out 1; (try clear hfzgb104_1); have hfzgb104_1 := blk_frozen BKgb104.out 1) | ((with_reducible refine gate_callee (f := 40) rfl ?_); refine gL (some 107) Try.func40 #[.slice Ao151 t134.length co152, .int .i64 1] ?_; refine calls_of_args (args' := #[.slice Ao151 t262.length co152, .int .i64 1]) (by rw [← slI HO153]) ?_; (with_reducible refine (laws_heldPartS.calls k _ _ _ _ _ _ ?s_270 ?s_271 A_268.out).mono ?_); (case s_270 => exact (scI HO153).1); (case s_271 => exact (scR HO153).2); rintro e w_269 ⟨rfl, hb⟩; refine ⟨_, rfl, ?_⟩; have n0_ := Aside0.mk (rbI hb HO33); have n1_ := Aside0.mk (rbI hb HO36); have n2_ := Aside0.mk (sbI hb HO49); have n3_ := Aside0.mk (rbI hb HO62); have n4_ := Aside0.mk (sbI hb HO82); have n5_ := Aside0.mk (sbI hb HO153); have n6_ := Aside0.mk (rbI hb HO178); have n7_ := Aside0.mk (rbI hb HO181); have n8_ := Aside0.mk (sbI hb HO205); have n9_ := Aside0.mk (rbI hb HO225); have n10_ := Aside0.mk (sI hb HB); have n11_ := Aside0.mk (leI hb HS); have n12_ := Aside0.mk (kbI hb BKgb1); have n13_ := Aside0.mk (kbI hb BKgb104); clear HO33 HO36 HO49 HO62 HO82 HO153 HO178 HO181 HO205 HO225 HB HS BKgb1 BKgb104; have HO33 := n0_; have HO36 := n1_; have HO49 := n2_; have HO62 := n3_; have HO82 := n4_; have HO153 := n5_; have HO178 := n6_; have HO181 := n7_; have HO205 := n8_; have HO225 := n9_; have HB := n10_; have HS := n11_; have BKgb1 := n12_; have BKgb104 := n13_; clear n0_ n1_ n2_ n3_ n4_ n5_ n6_ n7_ n8_ n9_ n10_ n11_ n12_ n13_ hb; (try clear hczgb1_0); have hczgb1_0 := cz BKgb1.out 0; (try clear hfzgb1_0); have hfzgb1_0 := blk_frozen BKgb1.out 0; (try clear hczgb1_1); have hczgb1_1 := cz BKgb1.out 1; (try clear hfzgb1_1); have hfzgb1_1 := blk_frozen BKgb1.out 1; (try clear hczgb104_0); have hczgb104_0 := cz BKgb104.out 0; (try clear hfzgb104_0); have hfzgb104_0 := blk_frozen BKgb104.out 0; (try clear hczgb104_1); have hczgb104_1 := cz BKgb104.out 1; (try clear hfzgb104_1); have hfzgb104_1 := blk_frozen BKgb104.out 1) | ((with_reducible refine gate_callee (f := 30) rfl ?_); refine gL (some 115) Try.func30 #[.agg #[.slice A0_0 l0_0.length c0_0, .slice A0_1 l0_1.length c0_1]] ?_; (with_reducible refine (laws_toRecord.calls k _ _ _ _ _ _ _ _ _ ?s_276 ?s_277 ?s_278 ?s_279 A_274.out).mono ?_); (case s_276 => exact Kd.C_below HR0_0.out (eI HB)); (case s_277 => exact HC0_0.out); (case s_278 => exact Kd.C_below HR0_1.out (eI HB)); (case s_279 => exact HC0_1.out); rintro e w_275 ⟨v282, v283, rfl, ho280, ho281, hb⟩; refine ⟨_, rfl, ?_⟩; obtain ⟨lo284, hi285, hle_, hsz_, hin_⟩ := newRng HB HS hb; have ho_0 := Aside0.mk (hin_.r ho280); have ho_1 := Aside0.mk (hin_.r ho281); have n0_ := Aside0.mk (rbI hb HO33); have n1_ := Aside0.mk (rbI hb HO36); have n2_ := Aside0.mk (sbI hb HO49); have n3_ := Aside0.mk (rbI hb HO62); have n4_ := Aside0.mk (sbI hb HO82); have n5_ := Aside0.mk (sbI hb HO153); have n6_ := Aside0.mk (rbI hb HO178); have n7_ := Aside0.mk (rbI hb HO181); have n8_ := Aside0.mk (sbI hb HO205); have n9_ := Aside0.mk (rbI hb HO225); have n10_ := Aside0.mk (sI hb HB); have n11_ := Aside0.mk (hsz_); have n12_ := Aside0.mk (kbI hb BKgb1); have n13_ := Aside0.mk (kbI hb BKgb104); clear HO33 HO36 HO49 HO62 HO82 HO153 HO178 HO181 HO205 HO225 HB HS BKgb1 BKgb104; have HO33 := n0_; have HO36 := n1_; have HO49 := n2_; have HO62 := n3_; have HO82 := n4_; have HO153 := n5_; have HO178 := n6_; have HO181 := n7_; have HO205 := n8_; have HO225 := n9_; have HB := n10_; have HS := n11_; have BKgb1 := n12_; have BKgb104 := n13_; clear n0_ n1_ n2_ n3_ n4_ n5_ n6_ n7_ n8_ n9_ n10_ n11_ n12_ n13_ hb; (try clear hczgb1_0); have hczgb1_0 := cz BKgb1.out 0; (try clear hfzgb1_0); have hfzgb1_0 := blk_frozen BKgb1.out 0; (try clear hczgb1_1); have hczgb1_1 := cz BKgb1.out 1; (try clear hfzgb1_1); have hfzgb1_1 := blk_frozen BKgb1.out 1; (try clear hczgb104_0); have hczgb104_0 := cz BKgb104.out 0; (try clear hfzgb104_0); have hfzgb104_0 := blk_frozen BKgb104.out 0; (try clear hczgb104_1); have hczgb104_1 := cz BKgb104.out 1; (try clear hfzgb104_1); have hfzgb104_1 := blk_frozen BKgb104.out 1; have HE286 := Aside0.mk hle_; clear hle_ hsz_ hin_ ho280 ho281; have HO289 := ho_0; clear ho_0; obtain ⟨Ao287, co288, e_⟩ := Kd.R_slice (HO289.out); subst e_; have HO292 := ho_1; clear ho_1; obtain ⟨Ao290, co291, e_⟩ := Kd.R_slice (HO292.out); subst e_) | ((with_reducible refine gate_callee (f := 31) rfl ?_); refine gL (some 117) Try.func31 #[.slice A1 l1.length c1] ?_; (with_reducible refine (laws_toPartS.calls k _ _ _ _ _ ?s_296 ?s_297 A_294.out).mono ?_); (case s_296 => exact Kd.C_below HR1.out (eI HB)); (case s_297 => exact HC1.out); rintro e w_295 ⟨v299, rfl, ho298, hb⟩; refine ⟨_, rfl, ?_⟩; obtain ⟨lo300, hi301, hle_, hsz_, hin_⟩ := newRng HB HS hb; have ho_0 := Aside0.mk (hin_.s ho298); have n0_ := Aside0.mk (rbI hb HO33); have n1_ := Aside0.mk (rbI hb HO36); have n2_ := Aside0.mk (sbI hb HO49); have n3_ := Aside0.mk (rbI hb HO62); have n4_ := Aside0.mk (sbI hb HO82); have n5_ := Aside0.mk (sbI hb HO153); have n6_ := Aside0.mk (rbI hb HO178); have n7_ := Aside0.mk (rbI hb HO181); have n8_ := Aside0.mk (sbI hb HO205); have n9_ := Aside0.mk (rbI hb HO225); have n10_ := Aside0.mk (rbI hb HO289); have n11_ := Aside0.mk (rbI hb HO292); have n12_ := Aside0.mk (sI hb HB); have n13_ := Aside0.mk (hsz_); have n14_ := Aside0.mk (kbI hb BKgb1); have n15_ := Aside0.mk (kbI hb BKgb104); clear HO33 HO36 HO49 HO62 HO82 HO153 HO178 HO181 HO205 HO225 HO289 HO292 HB HS BKgb1 BKgb104; have HO33 := n0_; have HO36 := n1_; have HO49 := n2_; have HO62 := n3_; have HO82 := n4_; have HO153 := n5_; have HO178 := n6_; have HO181 := n7_; have HO205 := n8_; have HO225 := n9_; have HO289 := n10_; have HO292 := n11_; have HB := n12_; have HS := n13_; have BKgb1 := n14_; have BKgb104 := n15_; clear n0_ n1_ n2_ n3_ n4_ n5_ n6_ n7_ n8_ n9_ n10_ n11_ n12_ n13_ n14_ n15_ hb; (try clear hczgb1_0); have hczgb1_0 := cz BKgb1.out 0; (try clear hfzgb1_0); have hfzgb1_0 := blk_frozen BKgb1.out 0; (try clear hczgb1_1); have hczgb1_1 := cz BKgb1.out 1; (try clear hfzgb1_1); have hfzgb1_1 := blk_frozen BKgb1.out 1; (try clear hczgb104_0); have hczgb104_0 := cz BKgb104.out 0; (try clear hfzgb104_0); have hfzgb104_0 := blk_frozen BKgb104.out 0; (try clear hczgb104_1); have hczgb104_1 := cz BKgb104.out 1; (try clear hfzgb104_1); have hfzgb104_1 := blk_frozen BKgb104.out 1; have HE302 := Aside0.mk hle_; clear hle_ hsz_ hin_ ho298; have HO305 := ho_0; clear ho_0; obtain ⟨Ao303, co304, e_⟩ := Kd.R_slice (Kd.S_R HO305.out); subst e_) | ((with_reducible refine gate_callee (f := 42) rfl ?_); refine gL (some 119) Try.func42 #[.slice A2 l2.length c2] ?_; (with_reducible refine (laws_toIntS.calls k _ _ _ _ _ ?s_309 ?s_310 A_307.out).mono ?_); (case s_309 => exact Kd.C_below HR2.out (eI HB)); (case s_310 => exact HC2.out); rintro e w_308 ⟨v312, rfl, ho311, hb⟩; refine ⟨_, rfl, ?_⟩; obtain ⟨lo313, hi314, hle_, hsz_, hin_⟩ := newRng HB HS hb; have ho_0 := Aside0.mk (hin_.r ho311); have n0_ := Aside0.mk (rbI hb HO33); have n1_ := Aside0.mk (rbI hb HO36); have n2_ := Aside0.mk (sbI hb HO49); have n3_ := Aside0.mk (rbI hb HO62); have n4_ := Aside0.mk (sbI hb HO82); have n5_ := Aside0.mk (sbI hb HO153); have n6_ := Aside0.mk (rbI hb HO178); have n7_ := Aside0.mk (rbI hb HO181); have n8_ := Aside0.mk (sbI hb HO205); have n9_ := Aside0.mk (rbI hb HO225); have n10_ := Aside0.mk (rbI hb HO289); have n11_ := Aside0.mk (rbI hb HO292); have n12_ := Aside0.mk (sbI hb HO305); have n13_ := Aside0.mk (sI hb HB); have n14_ := Aside0.mk (hsz_); have n15_ := Aside0.mk (kbI hb BKgb1); have n16_ := Aside0.mk (kbI hb BKgb104); clear HO33 HO36 HO49 HO62 HO82 HO153 HO178 HO181 HO205 HO225 HO289 HO292 HO305 HB HS BKgb1 BKgb104; have HO33 := n0_; have HO36 := n1_; have HO49 := n2_; have HO62 := n3_; have HO82 := n4_; have HO153 := n5_; have HO178 := n6_; have HO181 := n7_; have HO205 := n8_; have HO225 := n9_; have HO289 := n10_; have HO292 := n11_; have HO305 := n12_; have HB := n13_; have HS := n14_; have BKgb1 := n15_; have BKgb104 := n16_; clear n0_ n1_ n2_ n3_ n4_ n5_ n6_ n7_ n8_ n9_ n10_ n11_ n12_ n13_ n14_ n15_ n16_ hb; (try clear hczgb1_0); have hczgb1_0 := cz BKgb1.out 0; (try clear hfzgb1_0); have hfzgb1_0 := blk_frozen BKgb1.out 0; (try clear hczgb1_1); have hczgb1_1 := cz BKgb1.out 1; (try clear hfzgb1_1); have hfzgb1_1 := blk_frozen BKgb1.out 1; (try clear hczgb104_0); have hczgb104_0 := cz BKgb104.out 0; (try clear hfzgb104_0); have hfzgb104_0 := blk_frozen BKgb104.out 0; (try clear hczgb104_1); have hczgb104_1 := cz BKgb104.out 1; (try clear hfzgb104_1); have hfzgb104_1 := blk_frozen BKgb104.out 1; have HE315 := Aside0.mk hle_; clear hle_ hsz_ hin_ ho311; have HO318 := ho_0; clear ho_0; obtain ⟨Ao316, co317, e_⟩ := Kd.R_slice (HO318.out); subst e_) | ((with_reducible refine gate_callee (f := 43) rfl ?_); refine gL (some 120) Try.func43 #[.agg #[.slice Ao287 t272.length co288, .slice Ao290 t273.length co291], .slice Ao303 t293.length co304, .slice Ao316 t306.length co317] ?_; (with_reducible refine (impl_DropVoid.calls k _ _ _ _ _ _ _ _ _ _ _ _ _ _ _ ?s_323 ?s_324 ?s_325 ?s_326 ?s_327 ?s_328 ?s_329 ?s_330 A_321.out).mono ?_); (case s_323 => exact (rcI HO289).1); (case s_324 => exact (rcR HO289).2); (case s_325 => exact (rcI HO292).1); (case s_326 => exact (rcR HO292).2); (case s_327 => exact (scI HO305).1); (case s_328 => exact (scR HO305).2); (case s_329 => exact (rcI HO318).1); (case s_330 => exact (rcR HO318).2); rintro e w_322 ⟨v332, rfl, ho331, hb⟩; refine ⟨_, rfl, ?_⟩; obtain ⟨lo333, hi334, hle_, hsz_, hin_⟩ := newRng HB HS hb; have ho_0 := Aside0.mk (hin_.s ho331); have n0_ := Aside0.mk (rbI hb HO33); have n1_ := Aside0.mk (rbI hb HO36); have n2_ := Aside0.mk (sbI hb HO49); have n3_ := Aside0.mk (rbI hb HO62); have n4_ := Aside0.mk (sbI hb HO82); have n5_ := Aside0.mk (sbI hb HO153); have n6_ := Aside0.mk (rbI hb HO178); have n7_ := Aside0.mk (rbI hb HO181); have n8_ := Aside0.mk (sbI hb HO205); have n9_ := Aside0.mk (rbI hb HO225); have n10_ := Aside0.mk (rbI hb HO289); have n11_ := Aside0.mk (rbI hb HO292); have n12_ := Aside0.mk (sbI hb HO305); have n13_ := Aside0.mk (rbI hb HO318); have n14_ := Aside0.mk (sI hb HB); have n15_ := Aside0.mk (hsz_); have n16_ := Aside0.mk (kbI hb BKgb1); have n17_ := Aside0.mk (kbI hb BKgb104); clear HO33 HO36 HO49 HO62 HO82 HO153 HO178 HO181 HO205 HO225 HO289 HO292 HO305 HO318 HB HS BKgb1 BKgb104; have HO33 := n0_; have HO36 := n1_; have HO49 := n2_; have HO62 := n3_; have HO82 := n4_; have HO153 := n5_; have HO178 := n6_; have HO181 := n7_; have HO205 := n8_; have HO225 := n9_; have HO289 := n10_; have HO292 := n11_; have HO305 := n12_; have HO318 := n13_; have HB := n14_; have HS := n15_; have BKgb1 := n16_; have BKgb104 := n17_; clear n0_ n1_ n2_ n3_ n4_ n5_ n6_ n7_ n8_ n9_ n10_ n11_ n12_ n13_ n14_ n15_ n16_ n17_ hb; (try clear hczgb1_0); have hczgb1_0 := cz BKgb1.out 0; (try clear hfzgb1_0); have hfzgb1_0 := blk_frozen BKgb1.out 0; (try clear hczgb1_1); have hczgb1_1 := cz BKgb1.out 1; (try clear hfzgb1_1); have hfzgb1_1 := blk_frozen BKgb1.out 1; (try clear hczgb104_0); have hczgb104_0 := cz BKgb104.out 0; (try clear hfzgb104_0); have hfzgb104_0 := blk_frozen BKgb104.out 0; (try clear hczgb104_1); have hczgb104_1 := cz BKgb104.out 1; (try clear hfzgb104_1); have hfzgb104_1 := blk_frozen BKgb104.out 1; have HE335 := Aside0.mk hle_; clear hle_ hsz_ hin_ ho331; have HO338 := ho_0; clear ho_0; obtain ⟨Ao336, co337, e_⟩ := Kd.R_slice (Kd.S_R HO338.out); subst e_) | ((with_reducible refine gate_callee (f := 34) rfl ?_); refine gL (some 125) Try.func34 #[.slice Ao336 t319.length co337, .slice Ao80 t63.length co81] ?_; (with_reducible refine (laws_eqPartS.calls k _ _ _ _ _ _ _ _ ?s_342 ?s_343 ?s_344 ?s_345 A_340.out ⟨rfl⟩).mono ?_); (case s_342 => exact (scI HO338).1); (case s_343 => exact (scR HO338).2); (case s_344 => exact (scI HO82).1); (case s_345 => exact (scR HO82).2); rintro e w_341 ⟨rfl, hb⟩; refine ⟨_, rfl, ?_⟩; have n0_ := Aside0.mk (rbI hb HO33); have n1_ := Aside0.mk (rbI hb HO36); have n2_ := Aside0.mk (sbI hb HO49); have n3_ := Aside0.mk (rbI hb HO62); have n4_ := Aside0.mk (sbI hb HO82); have n5_ := Aside0.mk (sbI hb HO153); have n6_ := Aside0.mk (rbI hb HO178); have n7_ := Aside0.mk (rbI hb HO181); have n8_ := Aside0.mk (sbI hb HO205); have n9_ := Aside0.mk (rbI hb HO225); have n10_ := Aside0.mk (rbI hb HO289); have n11_ := Aside0.mk (rbI hb HO292); have n12_ := Aside0.mk (sbI hb HO305); have n13_ := Aside0.mk (rbI hb HO318); have n14_ := Aside0.mk (sbI hb HO338); have n15_ := Aside0.mk (sI hb HB); have n16_ := Aside0.mk (leI hb HS); have n17_ := Aside0.mk (kbI hb BKgb1); have n18_ := Aside0.mk (kbI hb BKgb104); clear HO33 HO36 HO49 HO62 HO82 HO153 HO178 HO181 HO205 HO225 HO289 HO292 HO305 HO318 HO338 HB HS BKgb1 BKgb104; have HO33 := n0_; have HO36 := n1_; have HO49 := n2_; have HO62 := n3_; have HO82 := n4_; have HO153 := n5_; have HO178 := n6_; have HO181 := n7_; have HO205 := n8_; have HO225 := n9_; have HO289 := n10_; have HO292 := n11_; have HO305 := n12_; have HO318 := n13_; have HO338 := n14_; have HB := n15_; have HS := n16_; have BKgb1 := n17_; have BKgb104 := n18_; clear n0_ n1_ n2_ n3_ n4_ n5_ n6_ n7_ n8_ n9_ n10_ n11_ n12_ n13_ n14_ n15_ n16_ n17_ n18_ hb; (try clear hczgb1_0); have hczgb1_0 := cz BKgb1.out 0; (try clear hfzgb1_0); have hfzgb1_0 := blk_frozen BKgb1.out 0; (try clear hczgb1_1); have hczgb1_1 := cz BKgb1.out 1; (try clear hfzgb1_1); have hfzgb1_1 := blk_frozen BKgb1.out 1; (try clear hczgb104_0); have hczgb104_0 := cz BKgb104.out 0; (try clear hfzgb104_0); have hfzgb104_0 := blk_frozen BKgb104.out 0; (try clear hczgb104_1); have hczgb104_1 := cz BKgb104.out 1; (try clear hfzgb104_1); have hfzgb104_1 := blk_frozen BKgb104.out 1) | ((with_reducible refine gate_callee (f := 40) rfl ?_); refine gL (some 134) Try.func40 #[.slice Ao151 t134.length co152, .int .i64 1] ?_; refine calls_of_args (args' := #[.slice Ao151 t262.length co152, .int .i64 1]) (by rw [← slI HO153]) ?_; (with_reducible refine (laws_heldPartS.calls k _ _ _ _ _ _ ?s_349 ?s_350 A_347.out).mono ?_); (case s_349 => exact (scI HO153).1); (case s_350 => exact (scR HO153).2); rintro e w_348 ⟨rfl, hb⟩; refine ⟨_, rfl, ?_⟩; have n0_ := Aside0.mk (rbI hb HO33); have n1_ := Aside0.mk (rbI hb HO36); have n2_ := Aside0.mk (sbI hb HO49); have n3_ := Aside0.mk (rbI hb HO62); have n4_ := Aside0.mk (sbI hb HO82); have n5_ := Aside0.mk (sbI hb HO153); have n6_ := Aside0.mk (rbI hb HO178); have n7_ := Aside0.mk (rbI hb HO181); have n8_ := Aside0.mk (sbI hb HO205); have n9_ := Aside0.mk (rbI hb HO225); have n10_ := Aside0.mk (rbI hb HO289); have n11_ := Aside0.mk (rbI hb HO292); have n12_ := Aside0.mk (sbI hb HO305); have n13_ := Aside0.mk (rbI hb HO318); have n14_ := Aside0.mk (sbI hb HO338); have n15_ := Aside0.mk (sI hb HB); have n16_ := Aside0.mk (leI hb HS); have n17_ := Aside0.mk (kbI hb BKgb1); have n18_ := Aside0.mk (kbI hb BKgb104); clear HO33 HO36 HO49 HO62 HO82 HO153 HO178 HO181 HO205 HO225 HO289 HO292 HO305 HO318 HO338 HB HS BKgb1 BKgb104; have HO33 := n0_; have HO36 := n1_; have HO49 := n2_; have HO62 := n3_; have HO82 := n4_; have HO153 := n5_; have HO178 := n6_; have HO181 := n7_; have HO205 := n8_; have HO225 := n9_; have HO289 := n10_; have HO292 := n11_; have HO305 := n12_; have HO318 := n13_; have HO338 := n14_; have HB := n15_; have HS := n16_; have BKgb1 := n17_; have BKgb104 := n18_; clear n0_ n1_ n2_ n3_ n4_ n5_ n6_ n7_ n8_ n9_ n10_ n11_ n12_ n13_ n14_ n15_ n16_ n17_ n18_ hb; (try clear hczgb1_0); have hczgb1_0 := cz BKgb1.out 0; (try clear hfzgb1_0); have hfzgb1_0 := blk_frozen BKgb1.out 0; (try clear hczgb1_1); have hczgb1_1 := cz BKgb1.out 1; (try clear hfzgb1_1); have hfzgb1_1 := blk_frozen BKgb1.out 1; (try clear hczgb104_0); have hczgb104_0 := cz BKgb104.out 0; (try clear hfzgb104_0); have hfzgb104_0 := blk_frozen BKgb104.out 0; (try clear hczgb104_1); have hczgb104_1 := cz BKgb104.out 1; (try clear hfzgb104_1); have hfzgb104_1 := blk_frozen BKgb104.out 1))
  go_ret
  exact ⟨rfl, eI HB⟩)
end Go.Proofs.Ytdbhelhoaciodaa.X
set_option linter.unusedVariables false
set_option linter.unusedSimpArgs false
namespace Go.Proofs.Ytdbhelhoaciodaa.Open
open Go.RowKit Go.Proofs.YtdbhelhoaciodaaW.PrintWords

/-- What reads at type t is of kind d, and good. -/
def Opens (P : Program) (t : TypeId) {α : Type} (d : Kd α) (good : α → Prop) : Prop :=
  ∀ (H : Type) (enc : TypeId × Value → H) (w : World) (fuel : Nat) (cs : List Value) (x : DataW H × List MemPlace),
    DataW.trod enc P w 0 (fun _ => true) true fuel t cs = some x → ∃ a, d.K w a cs ∧ good a

theorem opens_int {P : Program} {t : TypeId} {k : IntKind} (ht : P.underlying t = some (.int k)) : Opens P t (Kd.int k) (fun n => (Lit.int k n).wf = true) := by
  intro H enc w fuel cs x hx
  obtain ⟨n, rfl, _, hw⟩ := DataW.trod_int ht hx
  exact ⟨n, rfl, hw⟩
theorem opens_string {P : Program} {t : TypeId} (ht : P.underlying t = some .string) : Opens P t Kd.string (fun s => s.size ≤ 9223372036854775807) := by
  intro H enc w fuel cs x hx
  obtain ⟨n, rfl, _, hw⟩ := DataW.trod_string ht hx
  exact ⟨n, rfl, by simpa [maxLen] using hw⟩

theorem cells_each {w : World} {a : Addr} {n : Nat} {cs : List Value} (h : w.cells? 0 a n = some cs) : cs.length = n ∧ ∀ i u, cs[i]? = some u → w.cell? (a.add i) = some u := by
  have h1 := World.cells?_some h
  refine ⟨h1.2.1, fun i u hu => ?_⟩
  have hi : i < n := by
    have := (List.getElem?_eq_some_iff.1 hu).1
    omega
  rw [h1.2.2 i hi, hu]

theorem opens_slice {P : Program} {t e : TypeId} {α : Type} {d : Kd α} {g : α → Prop} (ht : P.underlying t = some (.slice e)) (hsz : P.cellsOf e = d.sz) (h : Opens P e d g) :
    Opens P t (Kd.slice e d) (fun xs => xs.length ≤ 9223372036854775807 ∧ ∀ x ∈ xs, g x) := by
  intro H enc w fuel cs x hx
  rcases DataW.trod_slice ht hx with ⟨rfl, _⟩ | ⟨a, len, cap, elems, rest, n, rfl, rfl, _, _, hlc, hcap, hel, hget, _, _⟩
  · exact ⟨[], ⟨none, 0, rfl, Nat.le_refl _, Kd.C_nil d w⟩, by simp, by simp⟩
  · simp only [maxLen] at hcap
    have each : ∀ i, i < len → ∃ b : α, ∃ c : List Value, c.length = d.sz ∧ d.K w b c ∧ g b ∧ ∀ j u, c[j]? = some u → w.cell? (a.add (i * d.sz + j)) = some u := by
      intro i hi
      have h1 := hget i hi
      obtain ⟨y, hy⟩ : ∃ y, elems[i]? = some y := ⟨_, List.getElem?_eq_getElem (by omega)⟩
      rw [hy] at h1
      obtain ⟨c, hc, ht'⟩ := Option.bind_eq_some_iff.1 h1
      obtain ⟨b, hK, hg⟩ := h H enc w n c y ht'
      obtain ⟨hl, hcell⟩ := cells_each hc
      refine ⟨b, c, hl.trans hsz, hK, hg, fun j u hu => ?_⟩
      have := hcell j u hu
      rw [Deep.add_add, hsz] at this
      exact this
    have mk : ∀ m, m ≤ len → ∃ xs : List α, xs.length = m ∧ (∀ x ∈ xs, g x) ∧ ∀ j p, xs[j]? = some p → ∃ c, c.length = d.sz ∧ d.K w p c ∧ ∀ i u, c[i]? = some u → w.cell? (a.add (j * d.sz + i)) = some u := by
      intro m
      induction m with
      | zero => exact fun _ => ⟨[], rfl, by simp, by simp⟩
      | succ m ih =>
        intro hm
        obtain ⟨xs, hl, hg, hx⟩ := ih (by omega)
        obtain ⟨b, c, hc1, hc2, hc3, hc4⟩ := each m (by omega)
        refine ⟨xs ++ [b], by simp [hl], ?_, ?_⟩
        · intro x hx'
          rcases List.mem_append.1 hx' with hx' | hx'
          · exact hg x hx'
          · rw [List.mem_singleton.1 hx']; exact hc3
        · intro j p hj
          by_cases hjm : j < m
          · rw [List.getElem?_append_left (by omega)] at hj
            exact hx j p hj
          · have hlt := (List.getElem?_eq_some_iff.1 hj).1
            simp only [List.length_append, List.length_cons, List.length_nil] at hlt
            obtain rfl : j = m := by omega
            rw [List.getElem?_append_right (by omega), hl, Nat.sub_self] at hj
            simp only [List.getElem?_cons_zero, Option.some.injEq] at hj
            subst hj
            exact ⟨c, hc1, hc2, hc4⟩
    obtain ⟨ys, hl, hg, hy⟩ := mk len (Nat.le_refl _)
    subst hl
    exact ⟨ys, ⟨some a, cap, rfl, hlc, rfl, by omega, fun _ => ⟨a, rfl, hy⟩⟩, by omega, hg⟩

def offs (L : List (TypeId × Nat)) (i : Nat) : Nat := ((L.take i).map (·.2)).sum
def Sect (P : Program) (L : List (TypeId × Nat)) {α : Type} (d : Kd α) (good : α → Prop) : Prop :=
  ∀ (H : Type) (enc : TypeId × Value → H) (w : World) (n : Nat) (cs : List Value), cs.length = (L.map (·.2)).sum →
    (∀ i p, L[i]? = some p → ∃ y, DataW.trod enc P w 0 (fun _ => true) true n p.1 ((cs.drop (offs L i)).take p.2) = some y) → ∃ a, d.K w a cs ∧ good a
theorem sect_one {P : Program} {t : TypeId} {s : Nat} {α : Type} {d : Kd α} {g : α → Prop} (h : Opens P t d g) : Sect P [(t, s)] d g := by
  intro H enc w n cs hl hf
  obtain ⟨y, hy⟩ := hf 0 _ rfl
  simp only [offs, List.take_zero, List.map_nil, List.sum_nil, List.drop_zero] at hy
  rw [List.take_of_length_le (by simp at hl; omega)] at hy
  exact h H enc w n cs y hy
theorem sect_cons {P : Program} {t : TypeId} {s : Nat} {L : List (TypeId × Nat)} {α β : Type} {d : Kd α} {d' : Kd β} {g : α → Prop} {g' : β → Prop} (h : Opens P t d g) (h' : Sect P L d' g') :
    Sect P ((t, s) :: L) (Kd.pair d d') (fun x => g x.1 ∧ g' x.2) := by
  intro H enc w n cs hl hf
  obtain ⟨y, hy⟩ := hf 0 _ rfl
  simp only [offs, List.take_zero, List.map_nil, List.sum_nil, List.drop_zero] at hy
  obtain ⟨a, ha, hga⟩ := h H enc w n _ y hy
  obtain ⟨b, hb, hgb⟩ := h' H enc w n (cs.drop s) (by simp only [List.map_cons, List.sum_cons] at hl; rw [List.length_drop, hl]; omega) (by
    intro i p hp
    obtain ⟨z, hz⟩ := hf (i + 1) p (by simpa using hp)
    refine ⟨z, ?_⟩
    simp only [offs, List.take_succ_cons, List.map_cons, List.sum_cons] at hz
    rw [List.drop_drop]
    exact hz)
  exact ⟨(a, b), ⟨cs.take s, cs.drop s, (List.take_append_drop s cs).symm, ha, hb⟩, hga, hgb⟩
theorem opens_struct {P : Program} {t : TypeId} {fs : Array Field} {α β : Type} {d : Kd α} {g : α → Prop} (f : β → α) (k : α → β) (hk : ∀ x, f (k x) = x) (L : List (TypeId × Nat))
    (ht : P.underlying t = some (.struct fs)) (hL : L = fs.toList.map (fun f => (f.type, P.cellsOf f.type))) (ho : fs.toList.map (·.offset) = (List.range L.length).map (offs L)) (hc : P.cellsOf t = (L.map (·.2)).sum)
    (h : Sect P L d g) : Opens P t (Kd.iso d f) (fun x => g (f x)) := by
  intro H enc w fuel cs x hx
  obtain ⟨xs, n, rfl, rfl, hl, hxl, hf⟩ := DataW.trod_struct ht hx
  obtain ⟨a, ha, hg⟩ := h H enc w n cs (hl.trans hc) (by
    intro i p hp
    have hi : i < fs.size := by
      have := (List.getElem?_eq_some_iff.1 hp).1
      rw [hL] at this
      simpa using this
    have hfi : fs[i]? = some fs[i] := Array.getElem?_eq_getElem hi
    have h1 := hf i fs[i] hfi
    obtain ⟨y, hy⟩ : ∃ y, xs[i]? = some y := ⟨_, List.getElem?_eq_getElem (by omega)⟩
    rw [hy] at h1
    refine ⟨y, ?_⟩
    have hp' : p = (fs[i].type, P.cellsOf fs[i].type) := by
      rw [hL] at hp
      simp only [List.getElem?_map, Array.getElem?_toList, hfi, Option.map_some, Option.some.injEq] at hp
      exact hp.symm
    have hoi : fs[i].offset = offs L i := by
      have h2 : (fs.toList.map (·.offset))[i]? = ((List.range L.length).map (offs L))[i]? := by rw [ho]
      have hLl : L.length = fs.size := by rw [hL]; simp
      simp only [List.getElem?_map, Array.getElem?_toList, hfi, Option.map_some, List.getElem?_range (show i < L.length by omega)] at h2
      exact Option.some.inj h2
    rw [hp', ← hoi]
    exact h1)
  refine ⟨k a, ?_, ?_⟩
  · show d.K w (f (k a)) cs
    rw [hk]; exact ha
  · show g (f (k a))
    rw [hk]; exact hg

theorem arg_slice {P : Program} {W : World} {H : Type} {enc : TypeId × Value → H} {t e : TypeId} {α : Type} {d : Kd α} {g : List α → Prop} {v : Value} {x : DataW H} {p : List MemPlace} (h : Opens P t (Kd.slice e d) g)
    (hs : ∃ a len cap, v = .slice a len cap) (hv : DataW.Trod enc P W 0 (fun _ => true) true t v x p) : ∃ A c xs, v = .slice A xs.length c ∧ xs.length ≤ c ∧ Kd.C d W A xs.length xs ∧ g xs := by
  obtain ⟨a, len, cap, rfl⟩ := hs
  obtain ⟨fuel, hf⟩ := hv
  obtain ⟨xs, ⟨A, c, he, hl, hc⟩, hg⟩ := h H enc W fuel _ _ hf
  simp [Value.cells] at he
  obtain ⟨rfl, rfl, rfl⟩ := he
  exact ⟨_, _, xs, rfl, hl, hc, hg⟩
theorem arg_agg {P : Program} {W : World} {H : Type} {enc : TypeId × Value → H} {t : TypeId} {α : Type} {d : Kd α} {g : α → Prop} {v : Value} {x : DataW H} {p : List MemPlace} (h : Opens P t d g)
    (hs : ∃ cs, v = .agg cs) (hv : DataW.Trod enc P W 0 (fun _ => true) true t v x p) : ∃ a cs, v = .agg cs ∧ d.K W a cs.toList ∧ g a := by
  obtain ⟨cs, rfl⟩ := hs
  obtain ⟨fuel, hf⟩ := hv
  obtain ⟨a, hK, hg⟩ := h H enc W fuel _ _ hf
  exact ⟨a, cs, rfl, hK, hg⟩
end Go.Proofs.Ytdbhelhoaciodaa.Open
set_option linter.unusedVariables false
namespace Go.Proofs.Ytdbhelhoaciodaa.X
open Go.RowKit Go.Proofs.YtdbhelhoaciodaaW.PrintWords Go.Proofs.Ytdbhelhoaciodaa.Open
theorem op3 : Opens Try.prog 3 (Kd.int .i64) (fun n => (Lit.int .i64 n).wf = true) := opens_int Try.underlying3
def good142 (x : S142) : Prop := (Lit.int .i64 x.f0).wf = true ∧ (Lit.int .i64 x.f1).wf = true
theorem op142 : Opens Try.prog 142 k142 good142 :=
  opens_struct (fun x : S142 => (x.f0, x.f1)) (fun p => ⟨p.1, p.2⟩) (fun _ => rfl) [(3, 1), (3, 1)] Try.underlying142 (by kernel_rfl) (by decide) (by kernel_rfl) (sect_cons op3 (sect_one op3))
theorem op45 : Opens Try.prog 45 (Kd.slice 142 k142) (fun xs => (xs.length ≤ 9223372036854775807 ∧ ∀ y ∈ xs, good142 y)) := opens_slice Try.underlying45 (by kernel_rfl) op142
def good146 (x : S146) : Prop := (Lit.int .i64 x.f0).wf = true ∧ (Lit.int .i64 x.f1).wf = true
theorem op146 : Opens Try.prog 146 k146 good146 :=
  opens_struct (fun x : S146 => (x.f0, x.f1)) (fun p => ⟨p.1, p.2⟩) (fun _ => rfl) [(3, 1), (3, 1)] Try.underlying146 (by kernel_rfl) (by decide) (by kernel_rfl) (sect_cons op3 (sect_one op3))
theorem op46 : Opens Try.prog 46 (Kd.slice 146 k146) (fun xs => (xs.length ≤ 9223372036854775807 ∧ ∀ y ∈ xs, good146 y)) := opens_slice Try.underlying46 (by kernel_rfl) op146
def good48 (x : S48) : Prop := (x.f0.length ≤ 9223372036854775807 ∧ ∀ y ∈ x.f0, good142 y) ∧ (x.f1.length ≤ 9223372036854775807 ∧ ∀ y ∈ x.f1, good146 y)
theorem op48 : Opens Try.prog 48 k48 good48 :=
  opens_struct (fun x : S48 => (x.f0, x.f1)) (fun p => ⟨p.1, p.2⟩) (fun _ => rfl) [(45, 1), (46, 1)] Try.underlying48 (by kernel_rfl) (by decide) (by kernel_rfl) (sect_cons op45 (sect_one op46))
theorem op9 : Opens Try.prog 9 Kd.string (fun s => s.size ≤ 9223372036854775807) := opens_string Try.underlying9
theorem op26 : Opens Try.prog 26 (Kd.slice 3 (Kd.int .i64)) (fun xs => (xs.length ≤ 9223372036854775807 ∧ ∀ y ∈ xs, (Lit.int .i64 y).wf = true)) := opens_slice Try.underlying26 (by kernel_rfl) op3
def good51 (x : S51) : Prop := (Lit.int .i64 x.f0).wf = true ∧ x.f1.size ≤ 9223372036854775807 ∧ (x.f2.length ≤ 9223372036854775807 ∧ ∀ y ∈ x.f2, (Lit.int .i64 y).wf = true)
theorem op51 : Opens Try.prog 51 k51 good51 :=
  opens_struct (fun x : S51 => (x.f0, x.f1, x.f2)) (fun p => ⟨p.1, p.2.1, p.2.2⟩) (fun _ => rfl) [(3, 1), (9, 1), (26, 1)] Try.underlying51 (by kernel_rfl) (by decide) (by kernel_rfl) (sect_cons op3 (sect_cons op9 (sect_one op26)))
theorem op49 : Opens Try.prog 49 (Kd.slice 51 k51) (fun xs => (xs.length ≤ 9223372036854775807 ∧ ∀ y ∈ xs, good51 y)) := opens_slice Try.underlying49 (by kernel_rfl) op51
end Go.Proofs.Ytdbhelhoaciodaa.X
namespace Go.Proofs.Ytdbhelhoaciodaa.X
open Go.RowKit Go.Proofs.YtdbhelhoaciodaaW.PrintWords
def PureFnExactDropVoid : Prop := ∀ (a0 : S48) (a1 : List (S51)) (a2 : List (Int)), good48 a0 → (a1.length ≤ 9223372036854775807 ∧ ∀ y ∈ a1, good51 y) → (a2.length ≤ 9223372036854775807 ∧ ∀ y ∈ a2, (Lit.int .i64 y).wf = true) → ∃ k, laws_FnExactDropVoid.f k (a0.f0) (a0.f1) a1 a2 = some true
end Go.Proofs.Ytdbhelhoaciodaa.X
set_option linter.unusedVariables false
set_option linter.unusedSimpArgs false
namespace Go.Proofs.Ytdbhelhoaciodaa.X
open Go.RowKit Go.Proofs.YtdbhelhoaciodaaW.PrintWords Go.Proofs.Ytdbhelhoaciodaa.E
theorem specIn_eq (a l h : Int) : spec_l1In.f a l h = some (decide (l ≤ a ∧ a ≤ h)) := by
  unfold spec_l1In.f
  by_cases h1 : a ≥ l
  · rw [if_pos h1]; congr 1; simp [h1]
  · rw [if_neg h1]; congr 1; symm; simp; intro h2; omega
theorem implIn_eq (a l h : Int) : impl_within.f a l h = some (decide (l ≤ a ∧ a ≤ h)) := by
  unfold impl_within.f
  by_cases h1 : a ≥ l
  · rw [if_pos h1]; congr 1; simp [h1]
  · rw [if_neg h1]; congr 1; symm; simp; intro h2; omega
theorem isNumber_eq (a : Int) : impl_isNumber.f a = some (decide (1 ≤ a ∧ a ≤ 999)) := by unfold impl_isNumber.f; rw [implIn_eq]; rfl
theorem isKind_eq (a : Int) : impl_isKind.f a = some (decide (1 ≤ a ∧ a ≤ 4)) := by unfold impl_isKind.f; rw [implIn_eq]; rfl
def findC (cs : List S140) (n : Int) : Int := idxG (fun x : S140 => x.f0 == n) 0 cs
theorem indexOf_eq (cs : List S140) (rs : List S144) (n : Int) : impl_indexOf.f cs rs n = some (findC cs n) := rfl
theorem l2Find_ev (cs : List S140) (rs : List S144) (n : Int) (hl : cs.length ≤ 9223372036854775807) : Ev (fun k => spec_l2Find.f k cs rs n) (findC cs n) := by
  have h := ev_walk (L := fun k i => spec_l2Find.l0 k n i cs rs) (G := fun i r => idxG (fun x : S140 => x.f0 == n) i r) cs (Ev.step (fun k => rfl) (ev_neg (by omega) (ev_now rfl))) ?step
  case step =>
    intro i x r hi hd hx hk
    refine Ev.step (fun k => rfl) (ev_pos (by omega) (ev_pos (by omega) ?_))
    simp only [rd_T140, Int.toNat_natCast, hx]
    by_cases c : x.f0 = n
    · exact ev_pos c (ev_now (by simp [idxG, c]))
    · refine ev_neg c ?_
      rw [wrap_succ hi hl]
      exact ev_cast hk (by simp [idxG, c])
  exact h
def CtxP (cs : List S140) (i : Nat) : Prop := (1 ≤ (rd_T140 cs i).f0 ∧ (rd_T140 cs i).f0 ≤ 999) ∧ (1 ≤ (rd_T140 cs i).f1 ∧ (rd_T140 cs i).f1 ≤ 4) ∧ (0 < i → (rd_T140 cs ((i - 1 : Nat) : Int)).f0 < (rd_T140 cs i).f0)
def befP (x y : S144) : Prop := x.f0 < y.f0 ∨ (x.f0 = y.f0 ∧ x.f1 < y.f1)
def RelP (cs : List S140) (rs : List S144) (i : Nat) : Prop := (rd_T144 rs i).f0 ≠ (rd_T144 rs i).f1 ∧ 0 ≤ findC cs (rd_T144 rs i).f0 ∧ 0 ≤ findC cs (rd_T144 rs i).f1 ∧ (0 < i → befP (rd_T144 rs ((i - 1 : Nat) : Int)) (rd_T144 rs i))
instance (x y : S144) : Decidable (befP x y) := by unfold befP; exact inferInstance
instance (cs : List S140) (i : Nat) : Decidable (CtxP cs i) := by unfold CtxP; exact inferInstance
instance (cs : List S140) (rs : List S144) (i : Nat) : Decidable (RelP cs rs i) := by unfold RelP; exact inferInstance
def relsB (cs : List S140) (rs : List S144) : Bool := (List.range rs.length).all (fun i => decide (RelP cs rs i))
def recOk (cs : List S140) (rs : List S144) : Bool := decide (cs.length ≤ 10 ∧ rs.length ≤ 24) && ((List.range cs.length).all (fun i => decide (CtxP cs i)) && relsB cs rs)
def sg (a b : Int) : Int := if a < b then -1 else if a > b then 1 else 0
theorem compare_eq (a b : Int) : cmp_Compare_int.f a b = some (sg a b) := by
  have hn : ∀ z : Int, cmp_isNaN_int.f z = some false := fun z => by unfold cmp_isNaN_int.f; simp
  unfold cmp_Compare_int.f sg
  rw [hn, hn]
  simp only [Option.bind_some, Bool.false_eq_true, if_false]
  by_cases h : a < b
  · rw [if_pos h, if_pos h]
  · rw [if_neg h, if_neg h]
    by_cases h2 : a > b
    · rw [if_pos h2, if_pos h2]
    · rw [if_neg h2, if_neg h2]
theorem or_ev (a b : Int) : Ev (fun k => cmp_Or_int.f k [a, b]) (if a = 0 then b else a) := by
  have r0 : rd [a, b] 0 = a := rfl
  have r1 : rd [a, b] 1 = b := rfl
  have w1 : wrap64 (0 + 1) = 1 := by rw [wrap_id (by omega) (by omega)]; rfl
  have w2 : wrap64 (1 + 1) = 2 := by rw [wrap_id (by omega) (by omega)]; rfl
  unfold cmp_Or_int.f
  refine Ev.step (fun k => rfl) (ev_pos (by simp) (ev_pos (by omega) (ev_pos (by simp) ?_)))
  rw [r0, w1]
  by_cases h : a = 0
  · rw [if_pos h]
    refine ev_pos h (Ev.step (fun k => rfl) (ev_pos (by simp) (ev_pos (by omega) (ev_pos (by simp) ?_))))
    rw [r1, w2]
    by_cases h2 : b = 0
    · exact ev_pos h2 (Ev.step (fun k => rfl) (ev_neg (by simp) (ev_now h2.symm)))
    · exact ev_neg h2 (ev_now rfl)
  · rw [if_neg h]
    exact ev_neg h (ev_now rfl)
theorem compareRel_ev (x y : S144) : ∃ c, Ev (fun k => impl_compareRelations.f k x.f0 x.f1 y.f0 y.f1) c ∧ (c ≥ 0 ↔ ¬ befP x y) := by
  refine ⟨if sg x.f0 y.f0 = 0 then sg x.f1 y.f1 else sg x.f0 y.f0, ?_, ?_⟩
  · unfold impl_compareRelations.f
    exact ev_bind0 (compare_eq _ _) (ev_bind0 (compare_eq _ _) (Ev.bind (or_ev _ _) (ev_now rfl)))
  · unfold sg befP
    repeat' split
    all_goals omega
theorem before_eq (x y : S144) : spec_l2Before.f x.f0 x.f1 y.f0 y.f1 = some (decide (befP x y)) := by
  have hb : befP x y ↔ (x.f0 < y.f0 ∨ (x.f0 = y.f0 ∧ x.f1 < y.f1)) := Iff.rfl
  unfold spec_l2Before.f
  by_cases h1 : x.f0 < y.f0
  · rw [if_pos h1, decide_eq_true (hb.2 (Or.inl h1))]
  · rw [if_neg h1]
    by_cases h2 : x.f0 = y.f0
    · rw [if_pos h2]; congr 1; rw [decide_eq_decide, hb]; omega
    · rw [if_neg h2, decide_eq_false (fun h => by have := hb.1 h; omega)]
theorem implRels_ev (cs : List S140) (rs : List S144) (hr : rs.length ≤ 24) : Ev (fun k => impl_IsValidRecord.l1 k rs (rs.length : Int) 0 cs rs) (relsB cs rs) := by
  have h := ev_all0 (L := fun k i => impl_IsValidRecord.l1 k rs (rs.length : Int) i cs rs) rs.length (fun i => decide (RelP cs rs i)) false true (fun _ => Ev.step (fun k => rfl) (ev_neg (by omega) (ev_now rfl))) ?h1 ?h2
  case h1 =>
    intro i hi _ hc y hy
    obtain ⟨c1, c2, c3, c4⟩ := of_decide_eq_true hc
    refine Ev.step (fun k => rfl) (ev_pos (by omega) (ev_pos (by omega) (ev_pos (by omega) (ev_neg c1 (ev_bind0 (indexOf_eq _ _ _) (ev_neg (by omega) (ev_bind0 (indexOf_eq _ _ _) (Ev.step (fun k => rfl) (ev_neg (by rw [decide_eq_true_eq]; omega) ?_)))))))))
    rw [wrap_succ hi (by omega)]
    rcases Nat.eq_zero_or_pos i with h0 | h0
    · exact ev_neg (by omega) hy
    · rw [wrap_pred h0 (by omega)]
      obtain ⟨c, hv, hcc⟩ := compareRel_ev (rd_T144 rs ((i - 1 : Nat) : Int)) (rd_T144 rs i)
      exact ev_pos (by omega) (ev_pos (by omega) (ev_pos (by omega) (Ev.bind hv (ev_neg (fun e => hcc.1 e (c4 h0)) hy))))
  case h2 =>
    intro i hi _ hc
    have hc' := of_decide_eq_false hc
    refine Ev.step (fun k => rfl) (ev_pos (by omega) (ev_pos (by omega) (ev_pos (by omega) (ev_ite (fun _ => Ev.step (fun k => rfl) (ev_now rfl)) (fun c1 => ev_bind0 (indexOf_eq _ _ _) (ev_ite (fun _ => Ev.step (fun k => rfl) (ev_now rfl)) (fun c2 => ev_bind0 (indexOf_eq _ _ _) (Ev.step (fun k => rfl) (ev_ite (fun _ => ev_now rfl) (fun c3 => ?_))))))))))
    rw [decide_eq_true_eq] at c3
    rcases Nat.eq_zero_or_pos i with h0 | h0
    · exact absurd ⟨c1, by omega, by omega, fun h => by omega⟩ hc'
    · rw [wrap_pred h0 (by omega)]
      obtain ⟨c, hv, hcc⟩ := compareRel_ev (rd_T144 rs ((i - 1 : Nat) : Int)) (rd_T144 rs i)
      exact ev_pos (by omega) (ev_pos (by omega) (ev_pos (by omega) (Ev.bind hv (ev_pos (hcc.2 (fun e => hc' ⟨c1, by omega, by omega, fun _ => e⟩)) (ev_now rfl)))))
  refine ev_cast h ?_
  unfold relsB
  cases (List.range rs.length).all (fun i => decide (RelP cs rs i)) <;> rfl
theorem specRels_ev (cs : List S140) (rs : List S144) (hcl : cs.length ≤ 10) (hr : rs.length ≤ 24) : Ev (fun k => spec_l2Good.l1 k 0 cs rs) (relsB cs rs) := by
  have hf : ∀ n, Ev (fun k => spec_l2Find.f k cs rs n) (findC cs n) := fun n => l2Find_ev cs rs n (by omega)
  have h := ev_all0 (L := fun k i => spec_l2Good.l1 k i cs rs) rs.length (fun i => decide (RelP cs rs i)) false true (fun _ => Ev.step (fun k => rfl) (ev_neg (by omega) (ev_now rfl))) ?h1 ?h2
  case h1 =>
    intro i hi _ hc y hy
    obtain ⟨c1, c2, c3, c4⟩ := of_decide_eq_true hc
    refine Ev.step (fun k => rfl) (ev_pos (by omega) (ev_pos (by omega) (ev_neg c1 (Ev.bind (hf _) (ev_neg (by omega) (Ev.bind (hf _) (ev_neg (by omega) ?_)))))))
    rw [wrap_succ hi (by omega)]
    rcases Nat.eq_zero_or_pos i with h0 | h0
    · exact ev_neg (by omega) hy
    · rw [wrap_pred h0 (by omega)]
      exact ev_pos (by omega) (ev_pos (by omega) (ev_pos (by omega) (ev_bind0 (before_eq _ _) (ev_pos (decide_eq_true (c4 h0)) hy))))
  case h2 =>
    intro i hi _ hc
    have hc' := of_decide_eq_false hc
    refine Ev.step (fun k => rfl) (ev_pos (by omega) (ev_pos (by omega) (ev_ite (fun _ => ev_now rfl) (fun c1 => Ev.bind (hf _) (ev_ite (fun _ => ev_now rfl) (fun c2 => Ev.bind (hf _) (ev_ite (fun _ => ev_now rfl) (fun c3 => ?_))))))))
    rcases Nat.eq_zero_or_pos i with h0 | h0
    · exact absurd ⟨c1, by omega, by omega, fun h => by omega⟩ hc'
    · rw [wrap_pred h0 (by omega)]
      exact ev_pos (by omega) (ev_pos (by omega) (ev_pos (by omega) (ev_bind0 (before_eq _ _) (ev_neg (fun e => hc' ⟨c1, by omega, by omega, fun _ => of_decide_eq_true e⟩) (ev_now rfl)))))
  refine ev_cast h ?_
  unfold relsB
  cases (List.range rs.length).all (fun i => decide (RelP cs rs i)) <;> rfl
theorem implRecord_ev (cs : List S140) (rs : List S144) : Ev (fun k => impl_IsValidRecord.f k cs rs) (recOk cs rs) := by
  unfold impl_IsValidRecord.f recOk
  refine ev_ite (fun c => ?_) (fun c => Ev.step (fun k => rfl) (ev_ite (fun d => ev_now ?_) (fun d => ?_)))
  · rw [decide_eq_false (by omega), Bool.false_and]
    exact Ev.step (fun k => rfl) (ev_now rfl)
  · rw [decide_eq_true_eq] at d
    rw [decide_eq_false (by omega), Bool.false_and]
  rw [decide_eq_true_eq] at d
  rw [decide_eq_true (by omega), Bool.true_and]
  have h := ev_all0 (L := fun k i => impl_IsValidRecord.l0 k cs (cs.length : Int) i cs rs) cs.length (fun i => decide (CtxP cs i)) false (relsB cs rs) (fun _ => Ev.step (fun k => rfl) (ev_neg (by omega) (implRels_ev cs rs (by omega)))) ?h1 ?h2
  case h1 =>
    intro i hi _ hc y hy
    obtain ⟨c1, c2, c3⟩ := of_decide_eq_true hc
    refine Ev.step (fun k => rfl) (ev_pos (by omega) (ev_pos (by omega) (ev_pos (by omega) (ev_bind0 (isNumber_eq _) (ev_pos (decide_eq_true c1) (ev_bind0 (isKind_eq _) (ev_pos (decide_eq_true c2) ?_)))))))
    rw [wrap_succ hi (by omega)]
    rcases Nat.eq_zero_or_pos i with h0 | h0
    · exact ev_neg (by omega) hy
    · rw [wrap_pred h0 (by omega)]
      exact ev_pos (by omega) (ev_pos (by omega) (ev_pos (by omega) (ev_neg (by have := c3 h0; omega) hy)))
  case h2 =>
    intro i hi _ hc
    have hc' := of_decide_eq_false hc
    refine Ev.step (fun k => rfl) (ev_pos (by omega) (ev_pos (by omega) (ev_pos (by omega) (ev_bind0 (isNumber_eq _) (ev_ite (fun c1 => ev_bind0 (isKind_eq _) (ev_ite (fun c2 => ?_) (fun _ => ev_now rfl))) (fun _ => ev_now rfl))))))
    rcases Nat.eq_zero_or_pos i with h0 | h0
    · exact absurd ⟨of_decide_eq_true c1, of_decide_eq_true c2, fun h => by omega⟩ hc'
    · rw [wrap_pred h0 (by omega)]
      exact ev_pos (by omega) (ev_pos (by omega) (ev_pos (by omega) (ev_pos (Classical.byContradiction fun e => hc' ⟨of_decide_eq_true c1, of_decide_eq_true c2, fun _ => by omega⟩) (ev_now rfl))))
  refine ev_cast h ?_
  cases (List.range cs.length).all (fun i => decide (CtxP cs i)) <;> simp
theorem specRecord_ev (cs : List S140) (rs : List S144) : Ev (fun k => spec_l2Good.f k cs rs) (recOk cs rs) := by
  unfold spec_l2Good.f recOk
  refine ev_ite (fun c => ?_) (fun c => Ev.step (fun k => rfl) (ev_ite (fun d => ev_now ?_) (fun d => ?_)))
  · rw [decide_eq_false (by omega), Bool.false_and]
    exact Ev.step (fun k => rfl) (ev_now rfl)
  · rw [decide_eq_true_eq] at d
    rw [decide_eq_false (by omega), Bool.false_and]
  rw [decide_eq_true_eq] at d
  rw [decide_eq_true (by omega), Bool.true_and]
  have h := ev_all0 (L := fun k i => spec_l2Good.l0 k i cs rs) cs.length (fun i => decide (CtxP cs i)) false (relsB cs rs) (fun _ => Ev.step (fun k => rfl) (ev_neg (by omega) (specRels_ev cs rs (by omega) (by omega)))) ?h1 ?h2
  case h1 =>
    intro i hi _ hc y hy
    obtain ⟨c1, c2, c3⟩ := of_decide_eq_true hc
    refine Ev.step (fun k => rfl) (ev_pos (by omega) (ev_pos (by omega) (ev_bind0 (specIn_eq _ _ _) (ev_pos (decide_eq_true c1) (ev_bind0 (specIn_eq _ _ _) (ev_pos (decide_eq_true c2) ?_))))))
    rw [wrap_succ hi (by omega)]
    rcases Nat.eq_zero_or_pos i with h0 | h0
    · exact ev_neg (by omega) hy
    · rw [wrap_pred h0 (by omega)]
      exact ev_pos (by omega) (ev_pos (by omega) (ev_pos (by omega) (ev_neg (by have := c3 h0; omega) hy)))
  case h2 =>
    intro i hi _ hc
    have hc' := of_decide_eq_false hc
    refine Ev.step (fun k => rfl) (ev_pos (by omega) (ev_pos (by omega) (ev_bind0 (specIn_eq _ _ _) (ev_ite (fun c1 => ev_bind0 (specIn_eq _ _ _) (ev_ite (fun c2 => ?_) (fun _ => ev_now rfl))) (fun _ => ev_now rfl)))))
    rcases Nat.eq_zero_or_pos i with h0 | h0
    · exact absurd ⟨of_decide_eq_true c1, of_decide_eq_true c2, fun h => by omega⟩ hc'
    · rw [wrap_pred h0 (by omega)]
      exact ev_pos (by omega) (ev_pos (by omega) (ev_pos (by omega) (ev_pos (Classical.byContradiction fun e => hc' ⟨of_decide_eq_true c1, of_decide_eq_true c2, fun _ => by omega⟩) (ev_now rfl))))
  refine ev_cast h ?_
  cases (List.range cs.length).all (fun i => decide (CtxP cs i)) <;> simp
end Go.Proofs.Ytdbhelhoaciodaa.X
set_option linter.unusedVariables false
set_option linter.unusedSimpArgs false
namespace Go.Proofs.Ytdbhelhoaciodaa.X
open Go.RowKit Go.Proofs.YtdbhelhoaciodaaW.PrintWords Go.Proofs.Ytdbhelhoaciodaa.E
def textAt (s : ByteArray) (i : Nat) : Bool := decide (32 ≤ bt s i ∧ bt s i ≤ 126)
def textB (s : ByteArray) : Bool := (List.range s.size).all (textAt s) && decide ((s.size : Int) ≤ 40)
theorem isText_ev (s : ByteArray) (hs : s.size ≤ 9223372036854775807) : Ev (fun k => impl_isText.f k s) (textB s) := by
  have h := ev_all0 (L := fun k i => impl_isText.l0 k s (s.size : Int) i) s.size (textAt s) false (decide ((s.size : Int) ≤ 40)) (fun _ => Ev.step (fun k => rfl) (ev_neg (by omega) (ev_now rfl))) ?h1 ?h2
  case h1 =>
    intro i hi _ hc y hy
    simp only [textAt, decide_eq_true_eq] at hc
    refine Ev.step (fun k => rfl) (ev_pos (by omega) (ev_pos (by omega) (ev_pos (by omega) ?_)))
    rw [wrap_succ hi hs]
    exact ev_neg (by omega) (ev_neg (by omega) hy)
  case h2 =>
    intro i hi _ hc
    simp only [textAt, decide_eq_false_iff_not] at hc
    refine Ev.step (fun k => rfl) (ev_pos (by omega) (ev_pos (by omega) (ev_pos (by omega) ?_)))
    refine ev_ite (fun _ => ev_now rfl) (fun _ => ev_ite (fun _ => ev_now rfl) (fun _ => ?_))
    exfalso; omega
  refine ev_cast h ?_
  unfold textB
  cases (List.range s.size).all (textAt s) <;> simp
theorem l21Text_ev (s : ByteArray) (hs : s.size ≤ 9223372036854775807) : Ev (fun k => spec_l21Text.f k s) (textB s) := by
  -- within the first forty bytes as the program; a longer one is refused at the forty-second step or before
  have h := ev_all0 (L := fun k i => spec_l21Text.l0 k s i) (min s.size 41) (textAt s) false (decide ((s.size : Int) ≤ 40)) ?h0 ?h1 ?h2
  case h0 =>
    intro _
    by_cases c : s.size ≤ 40
    · rw [Nat.min_eq_left (by omega)]
      exact Ev.step (fun k => rfl) (ev_neg (by omega) (Ev.step (fun k => rfl) (ev_now rfl)))
    · rw [Nat.min_eq_right (by omega)]
      refine Ev.step (fun k => rfl) ?_
      show Ev (fun k => if ((41 : Nat) : Int) < (s.size : Int) then spec_l21Text.j1 k s ((41 : Nat) : Int) (decide (((41 : Nat) : Int) ≤ 40)) else spec_l21Text.j1 k s ((41 : Nat) : Int) false) _
      rw [decide_eq_false (show ¬ (((41 : Nat) : Int) ≤ 40) by omega)]
      exact ev_ite (fun _ => Ev.step (fun k => rfl) (ev_now rfl)) (fun _ => Ev.step (fun k => rfl) (ev_now rfl))
  case h1 =>
    intro i hi _ hc y hy
    simp only [textAt, decide_eq_true_eq] at hc
    have hi' : i < s.size := by omega
    refine Ev.step (fun k => rfl) (ev_pos (by omega) ?_)
    rw [decide_eq_true (show (i : Int) ≤ 40 by omega)]
    refine Ev.step (fun k => rfl) ?_
    show Ev (fun k => if 0 ≤ (i : Int) then (if (i : Int) < (s.size : Int) then (if (bt s i) < 32 then (some false) else (if (bt s i) > 126 then (some false) else (spec_l21Text.l0 k s (wrap64 ((i : Int) + 1))))) else none) else none) y
    rw [wrap_succ hi' hs]
    exact ev_pos (by omega) (ev_pos (by omega) (ev_neg (by omega) (ev_neg (by omega) hy)))
  case h2 =>
    intro i hi _ hc
    simp only [textAt, decide_eq_false_iff_not] at hc
    have hi' : i < s.size := by omega
    refine Ev.step (fun k => rfl) (ev_pos (by omega) ?_)
    rw [decide_eq_true (show (i : Int) ≤ 40 by omega)]
    refine Ev.step (fun k => rfl) ?_
    show Ev (fun k => if 0 ≤ (i : Int) then (if (i : Int) < (s.size : Int) then (if (bt s i) < 32 then (some false) else (if (bt s i) > 126 then (some false) else (spec_l21Text.l0 k s (wrap64 ((i : Int) + 1))))) else none) else none) _
    refine ev_pos (by omega) (ev_pos (by omega) (ev_ite (fun _ => ev_now rfl) (fun _ => ev_ite (fun _ => ev_now rfl) (fun _ => ?_))))
    exfalso; omega
  refine ev_cast h ?_
  unfold textB
  by_cases c : s.size ≤ 40
  · rw [Nat.min_eq_left (by omega)]
    cases (List.range s.size).all (textAt s) <;> simp
  · rw [decide_eq_false (show ¬ ((s.size : Int) ≤ 40) by omega)]
    simp
end Go.Proofs.Ytdbhelhoaciodaa.X
set_option linter.unusedVariables false
set_option linter.unusedSimpArgs false
namespace Go.Proofs.Ytdbhelhoaciodaa.X
open Go.RowKit Go.Proofs.YtdbhelhoaciodaaW.PrintWords Go.Proofs.YtdbhelhoaciodaaW.PrintMore Go.Proofs.Ytdbhelhoaciodaa.E
def AreP (cs : List S140) (l : List Int) (i : Nat) : Prop := 0 ≤ findC cs (rd l i) ∧ (0 < i → rd l ((i - 1 : Nat) : Int) < rd l i)
instance (cs : List S140) (l : List Int) (i : Nat) : Decidable (AreP cs l i) := by unfold AreP; exact inferInstance
def areB (cs : List S140) (l : List Int) : Bool := (List.range l.length).all (fun i => decide (AreP cs l i))
theorem areContexts_ev (cs : List S140) (rs : List S144) (l : List Int) (hl : l.length ≤ 9223372036854775807) : Ev (fun k => impl_areContexts.f k cs rs l) (areB cs l) := by
  have h := ev_all0 (L := fun k i => impl_areContexts.l0 k l l (l.length : Int) i cs rs) l.length (fun i => decide (AreP cs l i)) false true (fun _ => Ev.step (fun k => rfl) (ev_neg (by omega) (ev_now rfl))) ?h1 ?h2
  case h1 =>
    intro i hi _ hc y hy
    obtain ⟨c1, c2⟩ := of_decide_eq_true hc
    refine Ev.step (fun k => rfl) (ev_pos (by omega) (ev_pos (by omega) (ev_pos (by omega) (ev_bind0 (indexOf_eq _ _ _) (ev_neg (by omega) ?_)))))
    rw [wrap_succ hi hl]
    rcases Nat.eq_zero_or_pos i with h0 | h0
    · exact ev_neg (by omega) hy
    · rw [wrap_pred h0 (by omega)]
      exact ev_pos (by omega) (ev_pos (by omega) (ev_pos (by omega) (ev_neg (by have := c2 h0; omega) hy)))
  case h2 =>
    intro i hi _ hc
    have hc' := of_decide_eq_false hc
    refine Ev.step (fun k => rfl) (ev_pos (by omega) (ev_pos (by omega) (ev_pos (by omega) (ev_bind0 (indexOf_eq _ _ _) (ev_ite (fun _ => ev_now rfl) (fun c1 => ?_))))))
    rcases Nat.eq_zero_or_pos i with h0 | h0
    · exact absurd ⟨by omega, fun h => by omega⟩ hc'
    · rw [wrap_pred h0 (by omega)]
      exact ev_pos (by omega) (ev_pos (by omega) (ev_pos (by omega) (ev_pos (Classical.byContradiction fun e => hc' ⟨by omega, fun _ => by omega⟩) (ev_now rfl))))
  refine ev_cast h ?_
  unfold areB
  cases (List.range l.length).all (fun i => decide (AreP cs l i)) <;> rfl
theorem l24Contexts_ev (cs : List S140) (rs : List S144) (hcl : cs.length ≤ 9223372036854775807) (l : List Int) (hl : l.length ≤ 9223372036854775807) : Ev (fun k => spec_l24Contexts.f k cs rs l) (areB cs l) := by
  have hf : ∀ n, Ev (fun k => spec_l2Find.f k cs rs n) (findC cs n) := fun n => l2Find_ev cs rs n hcl
  have h := ev_all0 (L := fun k i => spec_l24Contexts.l0 k l i cs rs) l.length (fun i => decide (AreP cs l i)) false true (fun _ => Ev.step (fun k => rfl) (ev_neg (by omega) (ev_now rfl))) ?h1 ?h2
  case h1 =>
    intro i hi _ hc y hy
    obtain ⟨c1, c2⟩ := of_decide_eq_true hc
    refine Ev.step (fun k => rfl) (ev_pos (by omega) (ev_pos (by omega) (Ev.bind (hf _) (ev_neg (by omega) ?_))))
    rw [wrap_succ hi hl]
    rcases Nat.eq_zero_or_pos i with h0 | h0
    · exact ev_neg (by omega) hy
    · rw [wrap_pred h0 (by omega)]
      exact ev_pos (by omega) (ev_pos (by omega) (ev_pos (by omega) (ev_neg (by have := c2 h0; omega) hy)))
  case h2 =>
    intro i hi _ hc
    have hc' := of_decide_eq_false hc
    refine Ev.step (fun k => rfl) (ev_pos (by omega) (ev_pos (by omega) (Ev.bind (hf _) (ev_ite (fun _ => ev_now rfl) (fun c1 => ?_)))))
    rcases Nat.eq_zero_or_pos i with h0 | h0
    · exact absurd ⟨by omega, fun h => by omega⟩ hc'
    · rw [wrap_pred h0 (by omega)]
      exact ev_pos (by omega) (ev_pos (by omega) (ev_pos (by omega) (ev_pos (Classical.byContradiction fun e => hc' ⟨by omega, fun _ => by omega⟩) (ev_now rfl))))
  refine ev_cast h ?_
  unfold areB
  cases (List.range l.length).all (fun i => decide (AreP cs l i)) <;> rfl
/-- A part behind a heading of a level. -/
def partB (cs : List S140) (p : S64) (lv : Int) : Bool :=
  if p.f0 = 1 then (if p.f1.toList = ([] : List UInt8) then false else textB p.f1 && decide ((p.f2.length : Int) = 1) && decide (1 ≤ rd p.f2 0 ∧ rd p.f2 0 ≤ mn 3 (wrap64 (lv + 1))))
  else if p.f0 = 2 then textB p.f1 && ((p.f2.length : Int) == 0)
  else if p.f0 = 3 then (if p.f1.toList = ([] : List UInt8) then decide ((p.f2.length : Int) > 0) && areB cs p.f2 else false)
  else if p.f0 = 4 then (if p.f1.toList = ([] : List UInt8) then decide ((p.f2.length : Int) = 2) && (decide (rd p.f2 0 ≠ rd p.f2 1) && (decide (findC cs (rd p.f2 0) ≥ 0) && decide (findC cs (rd p.f2 1) ≥ 0))) else false)
  else false
theorem isPart_ev (cs : List S140) (rs : List S144) (p : S64) (lv : Int) (h1 : p.f1.size ≤ 9223372036854775807) (h2 : p.f2.length ≤ 9223372036854775807) : Ev (fun k => impl_isPart.f k cs rs p.f0 p.f1 p.f2 lv) (partB cs p lv) := by
  unfold impl_isPart.f partB
  refine ev_ite (fun k1 => ?_) (fun k1 => ev_ite (fun k2 => ?_) (fun k2 => ev_ite (fun k3 => ?_) (fun k3 => ev_ite (fun k4 => ?_) (fun k4 => ?_))))
  · rw [if_pos k1]
    refine ev_ite (fun c => ev_now (if_pos c).symm) (fun c => ?_)
    rw [if_neg c]
    refine Ev.bind (isText_ev _ h1) (ev_ite (fun d => ?_) (fun d => ev_now ?_))
    · rw [d, Bool.true_and]
      refine ev_ite (fun e => ev_pos (by omega) (ev_bind0 (implIn_eq _ _ _) (ev_now ?_))) (fun e => ev_now ?_)
      · rw [decide_eq_true e, Bool.true_and]
      · rw [decide_eq_false e, Bool.false_and]
    · rw [Bool.not_eq_true] at d; rw [d]; simp
  · rw [if_neg k1, if_pos k2]
    refine Ev.bind (isText_ev _ h1) (ev_ite (fun d => ev_now ?_) (fun d => ev_now ?_))
    · rw [d, Bool.true_and]
    · rw [Bool.not_eq_true] at d; rw [d]; simp
  · rw [if_neg k1, if_neg k2, if_pos k3]
    refine ev_ite (fun c => ?_) (fun c => ev_now (if_neg c).symm)
    rw [if_pos c]
    refine ev_ite (fun d => ?_) (fun d => ev_now ?_)
    · rw [decide_eq_true d, Bool.true_and]
      exact Ev.bind (areContexts_ev cs rs p.f2 h2) (ev_now rfl)
    · rw [decide_eq_false d, Bool.false_and]
  · rw [if_neg k1, if_neg k2, if_neg k3, if_pos k4]
    refine ev_ite (fun c => ?_) (fun c => ev_now (if_neg c).symm)
    rw [if_pos c]
    refine ev_ite (fun d => ?_) (fun d => ev_now ?_)
    · rw [decide_eq_true d, Bool.true_and]
      refine ev_pos (by omega) (ev_pos (by omega) (ev_ite (fun e => ev_now ?_) (fun e => ?_)))
      · rw [decide_eq_false (by simpa using e), Bool.false_and]
      · rw [decide_eq_true e, Bool.true_and]
        refine ev_bind0 (indexOf_eq _ _ _) (ev_ite (fun g => ?_) (fun g => ev_now ?_))
        · rw [decide_eq_true g, Bool.true_and]
          exact ev_bind0 (indexOf_eq _ _ _) (ev_now rfl)
        · rw [decide_eq_false g, Bool.false_and]
    · rw [decide_eq_false d, Bool.false_and]
  · rw [if_neg k1, if_neg k2, if_neg k3, if_neg k4]
    exact ev_now rfl
theorem least_eq (a : Int) : spec_l1Least.f a 3 = some (mn 3 a) := by
  unfold spec_l1Least.f mn
  by_cases h : a < 3
  · rw [if_pos h, if_pos h]
  · rw [if_neg h, if_neg h]
theorem l24Part_ev (cs : List S140) (rs : List S144) (hcl : cs.length ≤ 9223372036854775807) (p : S64) (lv : Int) (h1 : p.f1.size ≤ 9223372036854775807) (h2 : p.f2.length ≤ 9223372036854775807) : Ev (fun k => spec_l24Part.f k cs rs p.f0 p.f1 p.f2 lv) (partB cs p lv) := by
  have hf : ∀ n, Ev (fun k => spec_l2Find.f k cs rs n) (findC cs n) := fun n => l2Find_ev cs rs n hcl
  unfold spec_l24Part.f partB
  refine ev_ite (fun k1 => ?_) (fun k1 => ev_ite (fun k2 => ?_) (fun k2 => ev_ite (fun k3 => ?_) (fun k3 => ev_ite (fun k4 => ?_) (fun k4 => ?_))))
  · rw [if_pos k1]
    refine ev_ite (fun c => ev_now (if_pos c).symm) (fun c => ?_)
    rw [if_neg c]
    refine Ev.bind (l21Text_ev _ h1) (ev_ite (fun d => ?_) (fun d => ev_now ?_))
    · rw [d, Bool.true_and]
      refine ev_ite (fun e => ev_pos (by omega) (ev_bind0 (least_eq _) (ev_bind0 (specIn_eq _ _ _) (ev_now ?_)))) (fun e => ev_now ?_)
      · rw [decide_eq_true e, Bool.true_and]
      · rw [decide_eq_false e, Bool.false_and]
    · rw [Bool.not_eq_true] at d; rw [d]; simp
  · rw [if_neg k1, if_pos k2]
    refine Ev.bind (l21Text_ev _ h1) (ev_ite (fun d => ev_now ?_) (fun d => ev_now ?_))
    · rw [d, Bool.true_and]
    · rw [Bool.not_eq_true] at d; rw [d]; simp
  · rw [if_neg k1, if_neg k2, if_pos k3]
    refine ev_ite (fun c => ?_) (fun c => ev_now (if_neg c).symm)
    rw [if_pos c]
    refine ev_ite (fun d => ?_) (fun d => ev_now ?_)
    · rw [decide_eq_true d, Bool.true_and]
      exact Ev.bind (l24Contexts_ev cs rs hcl p.f2 h2) (ev_now rfl)
    · rw [decide_eq_false d, Bool.false_and]
  · rw [if_neg k1, if_neg k2, if_neg k3, if_pos k4]
    refine ev_ite (fun c => ?_) (fun c => ev_now (if_neg c).symm)
    rw [if_pos c]
    refine ev_ite (fun d => ?_) (fun d => ev_now ?_)
    · rw [decide_eq_true d, Bool.true_and]
      refine ev_pos (by omega) (ev_pos (by omega) (ev_ite (fun e => ev_now ?_) (fun e => ?_)))
      · rw [decide_eq_false (by simpa using e), Bool.false_and]
      · rw [decide_eq_true e, Bool.true_and]
        refine Ev.bind (hf _) (ev_ite (fun g => ?_) (fun g => ev_now ?_))
        · rw [decide_eq_true g, Bool.true_and]
          exact Ev.bind (hf _) (ev_now rfl)
        · rw [decide_eq_false g, Bool.false_and]
    · rw [decide_eq_false d, Bool.false_and]
  · rw [if_neg k1, if_neg k2, if_neg k3, if_neg k4]
    exact ev_now rfl
/-- The level ahead of the part of a number. -/
def lvAt (ps : List S64) : Nat → Int
  | 0 => 0
  | i + 1 => if (rd_T64 ps i).f0 = 1 then rd (rd_T64 ps i).f2 0 else lvAt ps i
def partsB (cs : List S140) (ps : List S64) : Bool := (List.range ps.length).all (fun i => partB cs (rd_T64 ps i) (lvAt ps i))
def repOk (cs : List S140) (rs : List S144) (ps : List S64) : Bool := partsB cs ps && (recOk cs rs && decide ((ps.length : Int) ≤ 16))
theorem part_one {cs : List S140} {p : S64} {lv : Int} (h : partB cs p lv = true) (h1 : p.f0 = 1) : (p.f2.length : Int) = 1 := by
  unfold partB at h
  rw [if_pos h1] at h
  by_cases c : p.f1.toList = ([] : List UInt8)
  · rw [if_pos c] at h; exact absurd h (by simp)
  · rw [if_neg c, Bool.and_eq_true, Bool.and_eq_true] at h
    exact of_decide_eq_true h.1.2
theorem rd_mem (ps : List S64) (i : Nat) (hi : i < ps.length) : rd_T64 ps i ∈ ps := by
  unfold rd_T64
  rw [Int.toNat_natCast, getD_in hi]
  exact List.getElem_mem hi
theorem implReport_ev (cs : List S140) (rs : List S144) (ps : List S64) (hl : ps.length ≤ 9223372036854775807) (hp : ∀ p ∈ ps, p.f1.size ≤ 9223372036854775807 ∧ p.f2.length ≤ 9223372036854775807) : Ev (fun k => impl_IsValidReport.f k cs rs ps) (repOk cs rs ps) := by
  have hpart : ∀ i, i < ps.length → ∀ lv, Ev (fun k => impl_isPart.f k cs rs (rd_T64 ps i).f0 (rd_T64 ps i).f1 (rd_T64 ps i).f2 lv) (partB cs (rd_T64 ps i) lv) := fun i hi lv => isPart_ev cs rs _ lv (hp _ (rd_mem ps i hi)).1 (hp _ (rd_mem ps i hi)).2
  have hend : Ev (fun k => (impl_IsValidRecord.f k cs rs).bind fun t102 => (if t102 = true then (some (decide ((ps.length : Int) ≤ 16))) else (some false))) (recOk cs rs && decide ((ps.length : Int) ≤ 16)) := by
    refine Ev.bind (implRecord_ev cs rs) (ev_ite (fun c => ev_now ?_) (fun c => ev_now ?_))
    · rw [c, Bool.true_and]
    · rw [Bool.not_eq_true] at c; rw [c, Bool.false_and]
  have h := ev_all (L := fun k (lv : Int) i => impl_IsValidReport.l0 k ps lv ps (ps.length : Int) i cs rs) ps.length (lvAt ps) (fun i => partB cs (rd_T64 ps i) (lvAt ps i)) false (recOk cs rs && decide ((ps.length : Int) ≤ 16)) (fun _ => Ev.step (fun k => rfl) (ev_neg (by omega) hend)) ?h1 ?h2
  case h1 =>
    intro i hi _ hc y hy
    refine Ev.step (fun k => rfl) (ev_pos (by omega) (ev_pos (by omega) (ev_pos (by omega) (Ev.bind (hpart i hi _) (ev_pos hc ?_)))))
    rw [wrap_succ hi hl]
    rw [lvAt] at hy
    by_cases c : (rd_T64 ps i).f0 = 1
    · rw [if_pos c] at hy
      have := part_one hc c
      exact ev_pos c (ev_pos (by omega) hy)
    · rw [if_neg c] at hy
      exact ev_neg c hy
  case h2 =>
    intro i hi _ hc
    exact Ev.step (fun k => rfl) (ev_pos (by omega) (ev_pos (by omega) (ev_pos (by omega) (Ev.bind (hpart i hi _) (ev_neg (by rw [hc]; simp) (ev_now rfl))))))
  refine ev_cast h ?_
  unfold repOk partsB
  cases (List.range ps.length).all (fun i => partB cs (rd_T64 ps i) (lvAt ps i)) <;> simp
theorem recOk_len {cs : List S140} {rs : List S144} (h : recOk cs rs = true) : cs.length ≤ 10 ∧ rs.length ≤ 24 := by
  unfold recOk at h
  rw [Bool.and_eq_true] at h
  exact of_decide_eq_true h.1
theorem specReport_ev (cs : List S140) (rs : List S144) (ps : List S64) (hp : ∀ p ∈ ps, p.f1.size ≤ 9223372036854775807 ∧ p.f2.length ≤ 9223372036854775807) : Ev (fun k => spec_l24Good.f k cs rs ps) (repOk cs rs ps) := by
  unfold spec_l24Good.f repOk
  refine Ev.bind (specRecord_ev cs rs) (ev_ite (fun c => ?_) (fun c => ?_))
  case refine_2 =>
    rw [Bool.not_eq_true] at c
    rw [c, Bool.false_and, Bool.and_false]
    exact Ev.step (fun k => rfl) (ev_now rfl)
  rw [c, Bool.true_and]
  have hcl := (recOk_len c).1
  refine Ev.step (fun k => rfl) (ev_ite (fun d => ev_now ?_) (fun d => ?_))
  · rw [decide_eq_true_eq] at d
    rw [decide_eq_false (by omega), Bool.and_false]
  rw [decide_eq_true_eq] at d
  rw [decide_eq_true (show (ps.length : Int) ≤ 16 by omega), Bool.and_true]
  have hpart : ∀ i, i < ps.length → ∀ lv, Ev (fun k => spec_l24Part.f k cs rs (rd_T64 ps i).f0 (rd_T64 ps i).f1 (rd_T64 ps i).f2 lv) (partB cs (rd_T64 ps i) lv) := fun i hi lv => l24Part_ev cs rs (by omega) _ lv (hp _ (rd_mem ps i hi)).1 (hp _ (rd_mem ps i hi)).2
  have h := ev_all (L := fun k (lv : Int) i => spec_l24Good.l0 k ps lv i cs rs) ps.length (lvAt ps) (fun i => partB cs (rd_T64 ps i) (lvAt ps i)) false true (fun _ => Ev.step (fun k => rfl) (ev_neg (by omega) (ev_now rfl))) ?h1 ?h2
  case h1 =>
    intro i hi _ hc y hy
    refine Ev.step (fun k => rfl) (ev_pos (by omega) (ev_pos (by omega) (Ev.bind (hpart i hi _) (ev_pos hc ?_))))
    rw [wrap_succ hi (by omega)]
    rw [lvAt] at hy
    by_cases c : (rd_T64 ps i).f0 = 1
    · rw [if_pos c] at hy
      have := part_one hc c
      exact ev_pos c (ev_pos (by omega) hy)
    · rw [if_neg c] at hy
      exact ev_neg c hy
  case h2 =>
    intro i hi _ hc
    exact Ev.step (fun k => rfl) (ev_pos (by omega) (ev_pos (by omega) (Ev.bind (hpart i hi _) (ev_neg (by rw [hc]; simp) (ev_now rfl)))))
  refine ev_cast h ?_
  unfold partsB
  cases (List.range ps.length).all (fun i => partB cs (rd_T64 ps i) (lvAt ps i)) <;> simp
end Go.Proofs.Ytdbhelhoaciodaa.X
set_option linter.unusedVariables false
set_option linter.unusedSimpArgs false
namespace Go.Proofs.Ytdbhelhoaciodaa.X
open Go.RowKit Go.Proofs.YtdbhelhoaciodaaW.PrintWords Go.Proofs.YtdbhelhoaciodaaW.PrintLast Go.Proofs.YtdbhelhoaciodaaW.PrintMore Go.Proofs.Ytdbhelhoaciodaa.E
theorem l1Own_eq (l : List Int) (h : l.length < 17592186044416) : spec_l1Own.f l = some l := by
  unfold spec_l1Own.f
  show (if ([] : List Int).length + l.length < 17592186044416 then some ([] ++ l) else none) = some l
  rw [if_pos (by simpa using h), List.nil_append]
theorem l24Copy_eq (x : S64) (h : x.f2.length < 17592186044416) : spec_l24Copy.f x.f0 x.f1 x.f2 = some (x.f0, x.f1, x.f2) := by
  unfold spec_l24Copy.f
  rw [l1Own_eq _ h]
  rfl
theorem l24Cites_eq (cs : List S140) (rs : List S144) (s : ByteArray) (l void : List Int) (h : l.length ≤ 1048576) (hv : void.length ≤ 1048576) : spec_l24Cites.f cs rs 3 s l void = some (l.filter (fun n => !(decide (n ∈ void)))) := by
  unfold spec_l24Cites.f
  rw [if_pos ⟨rfl, by omega, by omega⟩]
theorem any_two {l : List Int} (h : l.length = 2) (p : Int → Bool) : l.any p = (p (rd l 0) || p (rd l 1)) := by
  match l, h with
  | [a, b], _ => simp [rd]
theorem dropLoop_ev (cs : List S140) (rs : List S144) (ps : List S64) (void : List Int) (hv : void.length ≤ 1048576) (hl : ps.length ≤ 1048576) (hp : ∀ p ∈ ps, p.f2.length ≤ 1048576 ∧ (p.f0 = 4 → p.f2.length = 2)) :
    Ev (fun k => spec_DropVoid.l0 k ps void [] 0 cs rs) (ps.flatMap (dvKeep void), true) := by
  have h := ev_scan0 (L := fun k (s : List S64) i => spec_DropVoid.l0 k ps void s i cs rs) (G := fun s _ r => (s ++ r.flatMap (dvKeep void), true)) (fun s i r => s.length ≤ i) ps [] (Nat.le_refl _) ?h1 ?h2
  case h1 =>
    intro s hs
    exact Ev.step (fun k => rfl) (ev_neg (by omega) (ev_now (by simp)))
  case h2 =>
    intro s i x r hs hi hd hx hk
    have hxm : x ∈ ps := List.mem_of_mem_drop (by rw [hd]; exact List.mem_cons_self)
    obtain ⟨hx1, hx2⟩ := hp x hxm
    have hrd : rd_T64 ps (i : Int) = x := by unfold rd_T64; rw [Int.toNat_natCast]; exact hx _
    have hw : wrap64 ((i : Int) + 1) = ((i + 1 : Nat) : Int) := wrap_succ hi (by omega)
    have hhas : ∀ n, Ev (fun k => spec_l1Has.f k void n) (decide (n ∈ void)) := fun n => l1Has_ev void n (by omega)
    have hskip : dvKeep void x = [] → Ev (fun k => spec_DropVoid.l0 k ps void s ((i + 1 : Nat) : Int) cs rs) (s ++ (x :: r).flatMap (dvKeep void), true) := by
      intro e
      have := hk s (by omega)
      rwa [show s ++ (x :: r).flatMap (dvKeep void) = s ++ r.flatMap (dvKeep void) by rw [List.flatMap_cons, e, List.nil_append]]
    have hput : ∀ p, dvKeep void x = [p] → Ev (fun k => spec_DropVoid.l0 k ps void (s ++ [p]) ((i + 1 : Nat) : Int) cs rs) (s ++ (x :: r).flatMap (dvKeep void), true) := by
      intro p e
      have := hk (s ++ [p]) (by rw [List.length_append, List.length_singleton]; omega)
      rwa [show s ++ (x :: r).flatMap (dvKeep void) = s ++ [p] ++ r.flatMap (dvKeep void) by rw [List.flatMap_cons, e, List.append_assoc]]
    refine Ev.step (fun k => rfl) (ev_pos (by omega) (ev_pos (by omega) ?_))
    simp only [hrd, hw]
    refine ev_bind0 (l24Copy_eq x (by omega)) ?_
    simp only []
    by_cases k3 : x.f0 = 3
    · refine ev_pos k3 ?_
      rw [k3]
      refine ev_bind0 (l24Cites_eq cs rs x.f1 x.f2 void hx1 hv) ?_
      by_cases z : (dvLeft void x).length = 0
      · exact ev_neg (by show ¬ ((dvLeft void x).length : Int) > 0; omega) (hskip (by unfold dvKeep; rw [if_pos k3, if_pos z]))
      · exact ev_pos (by show ((dvLeft void x).length : Int) > 0; omega) (ev_pos (by omega) (hput ⟨3, x.f1, dvLeft void x⟩ (by unfold dvKeep; rw [if_pos k3, if_neg z, k3])))
    · refine ev_neg k3 ?_
      by_cases k4 : x.f0 = 4
      · have h2 := hx2 k4
        have ha := any_two h2 (fun n => decide (n ∈ void))
        refine ev_pos k4 (ev_pos (by omega) (Ev.bind (hhas _) ?_))
        by_cases c1 : rd x.f2 0 ∈ void
        · exact ev_pos (decide_eq_true c1) (hskip (by unfold dvKeep; rw [if_neg k3, if_pos k4, if_pos (by rw [ha, decide_eq_true c1]; rfl)]))
        · refine ev_neg (by simpa using c1) (ev_pos (by omega) (Ev.bind (hhas _) ?_))
          by_cases c2 : rd x.f2 1 ∈ void
          · exact ev_pos (decide_eq_true c2) (hskip (by unfold dvKeep; rw [if_neg k3, if_pos k4, if_pos (by rw [ha, decide_eq_true c2, Bool.or_true])]))
          · exact ev_neg (by simpa using c2) (ev_pos (by omega) (hput x (by unfold dvKeep; rw [if_neg k3, if_pos k4, if_neg (by rw [ha, decide_eq_false c1, decide_eq_false c2]; simp)])))
      · exact ev_neg k4 (ev_pos (by omega) (hput x (by unfold dvKeep; rw [if_neg k3, if_neg k4])))
  rw [List.nil_append] at h
  exact h
theorem part_four {cs : List S140} {p : S64} {lv : Int} (h : partB cs p lv = true) (h4 : p.f0 = 4) : p.f2.length = 2 := by
  unfold partB at h
  rw [if_neg (by omega), if_neg (by omega), if_neg (by omega), if_pos h4] at h
  by_cases c : p.f1.toList = ([] : List UInt8)
  · rw [if_pos c, Bool.and_eq_true] at h
    have := of_decide_eq_true h.1
    omega
  · rw [if_neg c] at h; exact absurd h (by simp)
theorem repOk_four {cs : List S140} {rs : List S144} {ps : List S64} (h : repOk cs rs ps = true) : ∀ p ∈ ps, p.f0 = 4 → p.f2.length = 2 := by
  unfold repOk partsB at h
  rw [Bool.and_eq_true] at h
  intro p hp h4
  obtain ⟨i, hi, rfl⟩ := List.mem_iff_getElem.1 hp
  have h1 := all_range.1 h.1 i hi
  have hr : rd_T64 ps (i : Int) = ps[i] := by unfold rd_T64; rw [Int.toNat_natCast, getD_in hi]
  rw [hr] at h1
  exact part_four h1 h4
theorem repOk_rec {cs : List S140} {rs : List S144} {ps : List S64} (h : repOk cs rs ps = true) : recOk cs rs = true := by
  unfold repOk at h
  rw [Bool.and_eq_true, Bool.and_eq_true] at h
  exact h.2.1
theorem asked_both (cs : List S140) (rs : List S144) (ps : List S64) (void : List Int) (hv : void.length ≤ 1048576) (hl : ps.length ≤ 1048576) (hp : ∀ p ∈ ps, p.f1.size ≤ 9223372036854775807 ∧ p.f2.length ≤ 1048576) :
    Ev (fun k => spec_l24Asked.f k cs rs ps void) (repOk cs rs ps && areB cs void) ∧ Ev (fun k => impl_isVoidList.f k cs rs ps void) (repOk cs rs ps && areB cs void) := by
  have hp' : ∀ p ∈ ps, p.f1.size ≤ 9223372036854775807 ∧ p.f2.length ≤ 9223372036854775807 := fun p h => ⟨(hp p h).1, by have := (hp p h).2; omega⟩
  constructor
  · unfold spec_l24Asked.f
    refine Ev.bind (specReport_ev cs rs ps hp') (ev_ite (fun c => ?_) (fun c => ?_))
    · rw [c, Bool.true_and]
      have := (recOk_len (repOk_rec c)).1
      exact Ev.bind (l24Contexts_ev cs rs (by omega) void (by omega)) (ev_now rfl)
    · rw [Bool.not_eq_true] at c
      rw [c]
      exact ev_now rfl
  · unfold impl_isVoidList.f
    refine Ev.bind (implReport_ev cs rs ps (by omega) hp') (ev_ite (fun c => ?_) (fun c => ?_))
    · rw [c, Bool.true_and]
      exact Ev.bind (areContexts_ev cs rs void (by omega)) (ev_now rfl)
    · rw [Bool.not_eq_true] at c
      rw [c]
      exact ev_now rfl
theorem drop_both (cs : List S140) (rs : List S144) (ps : List S64) (void : List Int) (hv : void.length ≤ 1048576) (hl : ps.length ≤ 1048576) (hp : ∀ p ∈ ps, p.f1.size ≤ 9223372036854775807 ∧ p.f2.length ≤ 1048576) :
    ∃ a r, (a = [] ∨ a = ps.flatMap (dvKeep void)) ∧ Ev (fun k => spec_DropVoid.f k cs rs ps void) (a, r) ∧ Ev (fun k => impl_DropVoid.f k cs rs ps void) (a, r) := by
  obtain ⟨h1, h2⟩ := asked_both cs rs ps void hv hl hp
  by_cases c : (repOk cs rs ps && areB cs void) = true
  · rw [c] at h1 h2
    rw [Bool.and_eq_true] at c
    refine ⟨_, true, .inr rfl, ?_, ?_⟩
    · unfold spec_DropVoid.f
      exact ev_some (Ev.bind h1 (ev_pos rfl (dropLoop_ev cs rs ps void hv hl (fun p h => ⟨(hp p h).2, repOk_four c.1 p h⟩))))
    · unfold impl_DropVoid.f
      refine Ev.bind h2 (ev_pos rfl (ev_pos (by omega) (ev_bind0 (a := ps) ?_ (ev_now rfl))))
      unfold impl_copyParts.f
      rw [if_pos]
      rw [Bool.and_eq_true, decide_eq_true_eq, List.all_eq_true]
      exact ⟨by omega, fun x hx => decide_eq_true (by have := (hp x hx).2; omega)⟩
  · rw [Bool.not_eq_true] at c
    rw [c] at h1 h2
    refine ⟨[], false, .inl rfl, ?_, ?_⟩
    · unfold spec_DropVoid.f
      exact ev_some (Ev.bind h1 (ev_neg (by simp) (ev_now rfl)))
    · unfold impl_DropVoid.f
      exact Ev.bind h2 (ev_neg (by simp) (ev_now rfl))
end Go.Proofs.Ytdbhelhoaciodaa.X
set_option linter.unusedVariables false
set_option linter.unusedSimpArgs false
namespace Go.Proofs.Ytdbhelhoaciodaa.X
open Go.RowKit Go.Proofs.YtdbhelhoaciodaaW.PrintWords Go.Proofs.Ytdbhelhoaciodaa.E
theorem markLoop : ∀ (n : Nat) (x : Int) (s : ByteArray), x.toNat = n → 0 ≤ x → s.size + n ≤ 4611686018427387905 → ∃ r, Ev (fun k => laws_markText.l0 k x s) r := by
  intro n
  induction n using Nat.strongRecOn with
  | _ n ih =>
    intro x s hn h0 hb
    by_cases c : x > 0
    · have hs : (strOfNums [(wrap64 (48 + (Int.tmod x 10))) % 256]).size = 1 := by rw [strOfNums_size]; rfl
      have hd : wrap64 (Int.tdiv x 10) = x / 10 := by rw [Int.tdiv_eq_ediv_of_nonneg h0, wrap_id (by omega) (by omega)]
      obtain ⟨r, h⟩ := ih (x / 10).toNat (by omega) (x / 10) (strOfNums [(wrap64 (48 + (Int.tmod x 10))) % 256] ++ s) rfl (by omega) (by rw [ByteArray.size_append, hs]; omega)
      refine ⟨r, Ev.step (fun k => rfl) (ev_pos c (ev_some (ev_pos (by rw [hs]; omega) ?_)))⟩
      rw [hd]
      exact h
    · exact ⟨_, Ev.step (fun k => rfl) (ev_neg c (ev_pos (by omega) (ev_now rfl)))⟩
theorem mark_ex (q : Int) (h : q ≤ 4611686018427387905) : ∃ r, Ev (fun k => laws_markText.f k q) r := by
  unfold laws_markText.f
  by_cases c : q ≤ 0
  · exact ⟨_, ev_pos c (ev_now rfl)⟩
  · obtain ⟨r, h⟩ := markLoop q.toNat q (⟨#[]⟩ : ByteArray) rfl (by omega) (by rw [show (⟨#[]⟩ : ByteArray).size = 0 from rfl]; omega)
    exact ⟨r, ev_neg c h⟩
open Classical in
noncomputable def mt (q : Int) : ByteArray := if h : ∃ r, Ev (fun k => laws_markText.f k q) r then Classical.choose h else (⟨#[]⟩ : ByteArray)
theorem mt_ev (q : Int) (h : q ≤ 4611686018427387905) : Ev (fun k => laws_markText.f k q) (mt q) := by
  unfold mt
  rw [dif_pos (mark_ex q h)]
  exact Classical.choose_spec (mark_ex q h)
end Go.Proofs.Ytdbhelhoaciodaa.X
set_option linter.unusedVariables false
set_option linter.unusedSimpArgs false
namespace Go.Proofs.Ytdbhelhoaciodaa.X
open Go.RowKit Go.Proofs.YtdbhelhoaciodaaW.PrintWords Go.Proofs.Ytdbhelhoaciodaa.E
def mkI (q : Int) (_ : Int) : Int := q
theorem sum1i {α : Type} (L : List α) : (L.map (fun _ => 1)).sum = L.length := by
  induction L with
  | nil => rfl
  | cons e L ih => rw [List.map_cons, List.sum_cons, ih, List.length_cons]; omega
theorem markInt (L : List Int) (q : Int) (h0 : 0 ≤ q) (hq : q + L.length ≤ 4611686018427387904) : Ev (fun k => laws_markIntS.f k L q) (q + (L.length : Nat), markAll mkI (fun _ => 1) q L) := by
  have h := ev_mark (L := fun k l q i => laws_markIntS.l0 k l q i) L mkI (fun _ => 1) (fun out q ho => Ev.step (fun k => rfl) (ev_neg (by omega) (ev_now rfl))) ?hs q h0 (by rw [sum1i]; omega)
  case hs =>
    intro out q i x y hi ho hx hxm hg h0 hb h
    have hw1 : wrap64 (q + 1) = q + (1 : Nat) := by rw [wrap_id (by omega) (by omega)]; omega
    refine Ev.step (fun k => rfl) (ev_pos (by omega) (ev_pos (by omega) ?_))
    rw [hw1, wrap_succ hi (by omega), Int.toNat_natCast]
    exact h
  rw [sum1i] at h
  exact h
theorem heldInt (L : List Int) (q0 : Int) (h0 : 0 ≤ q0) (hq : q0 + L.length ≤ 4611686018427387904) : Ev (fun k => laws_heldIntS.f k (markAll mkI (fun _ => 1) q0 L) q0) (q0 + (L.length : Nat)) := by
  have hlen := markAll_length mkI (fun _ => 1) L q0
  have h := ev_held (H := fun k q i => laws_heldIntS.l0 k (markAll mkI (fun _ => 1) q0 L) q i) L (markAll mkI (fun _ => 1) q0 L) mkI (fun _ => 1) q0 rfl (fun q => Ev.step (fun k => rfl) (ev_neg (by omega) (ev_now rfl))) ?hs h0 (by rw [sum1i]; omega)
  case hs =>
    intro q i x y hi hxm hx hg h0 hb h
    have hw1 : wrap64 (q + 1) = q + (1 : Nat) := by rw [wrap_id (by omega) (by omega)]; omega
    have hr : rd (markAll mkI (fun _ => 1) q0 L) (i : Int) = q := by unfold rd; rw [Int.toNat_natCast]; exact hg _
    refine Ev.step (fun k => rfl) (ev_pos (by omega) (ev_pos (by omega) (ev_pos hr ?_)))
    rw [hw1, wrap_succ hi (by omega)]
    exact h
  rw [sum1i] at h
  exact h
end Go.Proofs.Ytdbhelhoaciodaa.X
set_option linter.unusedVariables false
set_option linter.unusedSimpArgs false
namespace Go.Proofs.Ytdbhelhoaciodaa.X
open Go.RowKit Go.Proofs.YtdbhelhoaciodaaW.PrintWords Go.Proofs.Ytdbhelhoaciodaa.E
noncomputable def mkP (q : Int) (x : S64) : S64 := ⟨q, mt (q + 1), markAll mkI (fun _ => 1) (q + 2) x.f2⟩
def wP (x : S64) : Nat := 2 + x.f2.length
theorem wP_len (L : List S64) : L.length ≤ (L.map wP).sum := by
  induction L with
  | nil => exact Nat.le_refl _
  | cons e L ih => rw [List.map_cons, List.sum_cons, List.length_cons]; unfold wP at *; omega
theorem markPart (L : List S64) (q : Int) (h0 : 0 ≤ q) (hq : q + (((L.map wP).sum : Nat) : Int) ≤ 4611686018427387904) : Ev (fun k => laws_markPartS.f k L q) (q + (((L.map wP).sum : Nat) : Int), markAll mkP wP q L) := by
  refine ev_mark (L := fun k l q i => laws_markPartS.l0 k l q i) L mkP wP (fun out q ho => Ev.step (fun k => rfl) (ev_neg (by omega) (ev_now rfl))) ?hs q h0 (by omega)
  case hs =>
    intro out q i x y hi ho hx hxm hg h0 hb h
    have hc : (wP x : Int) = 2 + (x.f2.length : Int) := by unfold wP; omega
    have hle : wP x ≤ (L.map wP).sum := le_sum hxm
    have hll := wP_len L
    have e1 : wrap64 (q + 1) = q + 1 := wrap_id (by omega) (by omega)
    have e2 : wrap64 (q + 1 + 1) = q + 2 := by rw [wrap_id (by omega) (by omega)]; omega
    have hrd : rd_T64 out (i : Int) = x := by unfold rd_T64; rw [Int.toNat_natCast]; exact hg _
    refine Ev.step (fun k => rfl) (ev_pos (by omega) (ev_pos (by omega) ?_))
    simp only [e1, e2, hrd]
    refine Ev.bind (mt_ev (q + 1) (by omega)) (Ev.bind (markInt x.f2 (q + 2) (by omega) (by omega)) ?_)
    have e3 : q + 2 + ((x.f2.length : Nat) : Int) = q + (wP x : Int) := by omega
    simp only [e3]
    rw [wrap_succ hi (by omega), Int.toNat_natCast]
    exact h
end Go.Proofs.Ytdbhelhoaciodaa.X
set_option linter.unusedVariables false
set_option linter.unusedSimpArgs false
namespace Go.Proofs.Ytdbhelhoaciodaa.X
open Go.RowKit Go.Proofs.YtdbhelhoaciodaaW.PrintWords Go.Proofs.Ytdbhelhoaciodaa.E
theorem heldPart (L : List S64) (q0 : Int) (h0 : 0 ≤ q0) (hq : q0 + (((L.map wP).sum : Nat) : Int) ≤ 4611686018427387904) : Ev (fun k => laws_heldPartS.f k (markAll mkP wP q0 L) q0) (q0 + (((L.map wP).sum : Nat) : Int)) := by
  have hlen := markAll_length mkP wP L q0
  refine ev_held (H := fun k q i => laws_heldPartS.l0 k (markAll mkP wP q0 L) q i) L (markAll mkP wP q0 L) mkP wP q0 rfl (fun q => Ev.step (fun k => rfl) (ev_neg (by omega) (ev_now rfl))) ?hs h0 (by omega)
  case hs =>
    intro q i x y hi hxm hx hg h0 hb h
    have hc : (wP x : Int) = 2 + (x.f2.length : Int) := by unfold wP; omega
    have hle : wP x ≤ (L.map wP).sum := le_sum hxm
    have hll := wP_len L
    have e1 : wrap64 (q + 1) = q + 1 := wrap_id (by omega) (by omega)
    have e2 : wrap64 (q + 1 + 1) = q + 2 := by rw [wrap_id (by omega) (by omega)]; omega
    have hrd : rd_T64 (markAll mkP wP q0 L) (i : Int) = mkP q x := by unfold rd_T64; rw [Int.toNat_natCast]; exact hg _
    refine Ev.step (fun k => rfl) (ev_pos (by omega) (ev_pos (by omega) ?_))
    simp only [e1, e2, hrd]
    refine ev_pos rfl (Ev.bind (mt_ev (q + 1) (by omega)) (ev_pos rfl (Ev.bind (heldInt x.f2 (q + 2) (by omega) (by omega)) (ev_neg (by omega) ?_))))
    have e3 : q + 2 + ((x.f2.length : Nat) : Int) = q + (wP x : Int) := by omega
    simp only [e3]
    rw [wrap_succ hi (by omega)]
    exact h
end Go.Proofs.Ytdbhelhoaciodaa.X
set_option linter.unusedVariables false
set_option linter.unusedSimpArgs false
namespace Go.Proofs.Ytdbhelhoaciodaa.X
open Go.RowKit Go.Proofs.YtdbhelhoaciodaaW.PrintWords Go.Proofs.Ytdbhelhoaciodaa.E
def mkC (q : Int) (_ : S140) : S140 := ⟨q, q + 1⟩
def mkR (q : Int) (_ : S144) : S144 := ⟨q, q + 1⟩
theorem sum2 {α : Type} (L : List α) : (L.map (fun _ => 2)).sum = 2 * L.length := by
  induction L with
  | nil => rfl
  | cons e L ih => rw [List.map_cons, List.sum_cons, ih, List.length_cons]; omega
theorem markC (L : List S140) (q : Int) (h0 : 0 ≤ q) (hq : q ≤ 4294967296) (hL : L.length ≤ 1048576) : Ev (fun k => laws_markContextS.f k L q) (q + (2 * L.length : Nat), markAll mkC (fun _ => 2) q L) := by
  have h := ev_mark (L := fun k l q i => laws_markContextS.l0 k l q i) L mkC (fun _ => 2) (fun out q ho => Ev.step (fun k => rfl) (ev_neg (by omega) (ev_now rfl))) ?hs q h0 (by rw [sum2]; omega)
  case hs =>
    intro out q i x y hi ho hx hxm hg h0 hb h
    have hw1 : wrap64 (q + 1) = q + 1 := wrap_id (by omega) (by omega)
    have hw2 : wrap64 (q + 1 + 1) = q + (2 : Nat) := by rw [wrap_id (by omega) (by omega)]; omega
    refine Ev.step (fun k => rfl) (ev_pos (by omega) (ev_pos (by omega) (ev_some ?_)))
    rw [hw1, hw2, wrap_succ hi (by omega), Int.toNat_natCast, List.set_set, show (rd_T140 (out.set i (⟨q, (rd_T140 out i).f1⟩ : S140)) (i : Int)).f0 = q by unfold rd_T140; rw [Int.toNat_natCast, List.getD_eq_getElem?_getD, List.getElem?_set_self (by omega)]; rfl]
    exact h
  rw [sum2] at h
  exact h
theorem markR (L : List S144) (q : Int) (h0 : 0 ≤ q) (hq : q ≤ 4294967296) (hL : L.length ≤ 1048576) : Ev (fun k => laws_markRelationS.f k L q) (q + (2 * L.length : Nat), markAll mkR (fun _ => 2) q L) := by
  have h := ev_mark (L := fun k l q i => laws_markRelationS.l0 k l q i) L mkR (fun _ => 2) (fun out q ho => Ev.step (fun k => rfl) (ev_neg (by omega) (ev_now rfl))) ?hs q h0 (by rw [sum2]; omega)
  case hs =>
    intro out q i x y hi ho hx hxm hg h0 hb h
    have hw1 : wrap64 (q + 1) = q + 1 := wrap_id (by omega) (by omega)
    have hw2 : wrap64 (q + 1 + 1) = q + (2 : Nat) := by rw [wrap_id (by omega) (by omega)]; omega
    refine Ev.step (fun k => rfl) (ev_pos (by omega) (ev_pos (by omega) (ev_some ?_)))
    rw [hw1, hw2, wrap_succ hi (by omega), Int.toNat_natCast, List.set_set, show (rd_T144 (out.set i (⟨q, (rd_T144 out i).f1⟩ : S144)) (i : Int)).f0 = q by unfold rd_T144; rw [Int.toNat_natCast, List.getD_eq_getElem?_getD, List.getElem?_set_self (by omega)]; rfl]
    exact h
  rw [sum2] at h
  exact h
theorem markRec (M1 : List S140) (M2 : List S144) (h1 : M1.length ≤ 1048576) (h2 : M2.length ≤ 1048576) : Ev (fun k => laws_markRecord.f k M1 M2 1) (1 + (2 * M1.length : Nat) + (2 * M2.length : Nat), markAll mkC (fun _ => 2) 1 M1, markAll mkR (fun _ => 2) (1 + (2 * M1.length : Nat)) M2) := by
  unfold laws_markRecord.f
  exact Ev.bind (markC M1 1 (by omega) (by omega) h1) (Ev.bind (markR M2 _ (by omega) (by omega) h2) (ev_now rfl))
end Go.Proofs.Ytdbhelhoaciodaa.X
set_option linter.unusedVariables false
namespace Go.Proofs.Ytdbhelhoaciodaa.X
open Go.RowKit Go.Proofs.YtdbhelhoaciodaaW.PrintWords Go.Proofs.Ytdbhelhoaciodaa.E
def wt48 (x : S48) : Nat := x.f0.length + x.f1.length
def wt51 (x : S51) : Nat := x.f1.size + x.f2.length
end Go.Proofs.Ytdbhelhoaciodaa.X
set_option linter.unusedVariables false
namespace Go.Proofs.Ytdbhelhoaciodaa.X
open Go.RowKit Go.Proofs.YtdbhelhoaciodaaW.PrintWords Go.Proofs.Ytdbhelhoaciodaa.E
theorem laws_szContextS_ev (x : List (S142)) (g0 : x.length ≤ 9223372036854775807) (left : Int) (h0 : 0 ≤ left) (h1 : left ≤ 4611686018427387904) :
    Ev (fun k => laws_szContextS.f x left) (if ((x.length : Nat) : Int) ≤ left then left - ((x.length : Nat) : Int) else -1) := by
  unfold laws_szContextS.f
  have e0 : wrap64 (left - ((x.length : Nat) : Int)) = left - ((x.length : Nat) : Int) := wrap_id (by omega) (by omega)
  simp only [e0]
  by_cases c : ((x.length : Nat) : Int) ≤ left
  case neg => exact ev_pos (by omega) (ev_now (by first | rfl | rw [if_neg (by omega)]))
  refine ev_neg (by omega) ?_
  exact ev_now (by first | rfl | rw [if_pos (by omega)])
end Go.Proofs.Ytdbhelhoaciodaa.X
set_option linter.unusedVariables false
namespace Go.Proofs.Ytdbhelhoaciodaa.X
open Go.RowKit Go.Proofs.YtdbhelhoaciodaaW.PrintWords Go.Proofs.Ytdbhelhoaciodaa.E
theorem laws_szRelationS_ev (x : List (S146)) (g0 : x.length ≤ 9223372036854775807) (left : Int) (h0 : 0 ≤ left) (h1 : left ≤ 4611686018427387904) :
    Ev (fun k => laws_szRelationS.f x left) (if ((x.length : Nat) : Int) ≤ left then left - ((x.length : Nat) : Int) else -1) := by
  unfold laws_szRelationS.f
  have e0 : wrap64 (left - ((x.length : Nat) : Int)) = left - ((x.length : Nat) : Int) := wrap_id (by omega) (by omega)
  simp only [e0]
  by_cases c : ((x.length : Nat) : Int) ≤ left
  case neg => exact ev_pos (by omega) (ev_now (by first | rfl | rw [if_neg (by omega)]))
  refine ev_neg (by omega) ?_
  exact ev_now (by first | rfl | rw [if_pos (by omega)])
end Go.Proofs.Ytdbhelhoaciodaa.X
set_option linter.unusedVariables false
namespace Go.Proofs.Ytdbhelhoaciodaa.X
open Go.RowKit Go.Proofs.YtdbhelhoaciodaaW.PrintWords Go.Proofs.Ytdbhelhoaciodaa.E
theorem laws_szRecord_ev (x : S48) (g0 : x.f0.length ≤ 9223372036854775807) (g1 : x.f1.length ≤ 9223372036854775807) (left : Int) (h0 : 0 ≤ left) (h1 : left ≤ 4611686018427387904) :
    Ev (fun k => laws_szRecord.f (x.f0) (x.f1) left) (if (((wt48 x) : Nat) : Int) ≤ left then left - (((wt48 x) : Nat) : Int) else -1) := by
  unfold laws_szRecord.f
  unfold wt48
  refine Ev.bind (laws_szContextS_ev _ (by assumption) _ (by omega) (by omega)) ?_
  by_cases c0 : ((x.f0.length : Nat) : Int) ≤ left
  case neg =>
    rw [if_neg c0]
    exact ev_pos (by omega) (ev_now (by first | rfl | rw [if_neg (by omega)]))
  rw [if_pos c0]
  refine ev_neg (by omega) ?_
  refine Ev.bind (laws_szRelationS_ev _ (by assumption) _ (by omega) (by omega)) ?_
  by_cases c1 : ((x.f1.length : Nat) : Int) ≤ (left - ((x.f0.length : Nat) : Int))
  case neg =>
    rw [if_neg c1]
    exact ev_pos (by omega) (ev_now (by first | rfl | rw [if_neg (by omega)]))
  rw [if_pos c1]
  refine ev_neg (by omega) ?_
  exact ev_now (by first | rfl | omega | (rw [if_pos (by omega)]; omega))
end Go.Proofs.Ytdbhelhoaciodaa.X
set_option linter.unusedVariables false
namespace Go.Proofs.Ytdbhelhoaciodaa.X
open Go.RowKit Go.Proofs.YtdbhelhoaciodaaW.PrintWords Go.Proofs.Ytdbhelhoaciodaa.E
theorem laws_szIntS_ev (x : List (Int)) (g0 : x.length ≤ 9223372036854775807) (left : Int) (h0 : 0 ≤ left) (h1 : left ≤ 4611686018427387904) :
    Ev (fun k => laws_szIntS.f x left) (if ((x.length : Nat) : Int) ≤ left then left - ((x.length : Nat) : Int) else -1) := by
  unfold laws_szIntS.f
  have e0 : wrap64 (left - ((x.length : Nat) : Int)) = left - ((x.length : Nat) : Int) := wrap_id (by omega) (by omega)
  simp only [e0]
  by_cases c : ((x.length : Nat) : Int) ≤ left
  case neg => exact ev_pos (by omega) (ev_now (by first | rfl | rw [if_neg (by omega)]))
  refine ev_neg (by omega) ?_
  exact ev_now (by first | rfl | rw [if_pos (by omega)])
end Go.Proofs.Ytdbhelhoaciodaa.X
set_option linter.unusedVariables false
namespace Go.Proofs.Ytdbhelhoaciodaa.X
open Go.RowKit Go.Proofs.YtdbhelhoaciodaaW.PrintWords Go.Proofs.Ytdbhelhoaciodaa.E
theorem laws_szPart_ev (x : S51) (g0 : x.f1.size ≤ 9223372036854775807) (g1 : x.f2.length ≤ 9223372036854775807) (left : Int) (h0 : 0 ≤ left) (h1 : left ≤ 4611686018427387904) :
    Ev (fun k => laws_szPart.f (x.f0) (x.f1) (x.f2) left) (if (((wt51 x) : Nat) : Int) ≤ left then left - (((wt51 x) : Nat) : Int) else -1) := by
  unfold laws_szPart.f
  unfold wt51
  have e1 : wrap64 (left - ((x.f1.size : Nat) : Int)) = left - ((x.f1.size : Nat) : Int) := wrap_id (by omega) (by omega)
  simp only [e1]
  by_cases c1 : ((x.f1.size : Nat) : Int) ≤ left
  case neg =>
    exact ev_pos (by omega) (ev_now (by first | rfl | rw [if_neg (by omega)]))
  refine ev_neg (by omega) ?_
  refine Ev.bind (laws_szIntS_ev _ (by assumption) _ (by omega) (by omega)) ?_
  by_cases c2 : ((x.f2.length : Nat) : Int) ≤ (left - ((x.f1.size : Nat) : Int))
  case neg =>
    rw [if_neg c2]
    exact ev_pos (by omega) (ev_now (by first | rfl | rw [if_neg (by omega)]))
  rw [if_pos c2]
  refine ev_neg (by omega) ?_
  exact ev_now (by first | rfl | omega | (rw [if_pos (by omega)]; omega))
end Go.Proofs.Ytdbhelhoaciodaa.X
set_option linter.unusedVariables false
namespace Go.Proofs.Ytdbhelhoaciodaa.X
open Go.RowKit Go.Proofs.YtdbhelhoaciodaaW.PrintWords Go.Proofs.Ytdbhelhoaciodaa.E
theorem laws_szPartS_ev (x : List (S51)) (g0 : x.length ≤ 9223372036854775807) (g1 : ∀ y ∈ x, (y.f1.size ≤ 9223372036854775807) ∧ (y.f2.length ≤ 9223372036854775807)) (left : Int) (h0 : 0 ≤ left) (h1 : left ≤ 4611686018427387904) :
    Ev (fun k => laws_szPartS.f k x left) (if (((x.length + (x.map (fun y => (wt51 y))).sum) : Nat) : Int) ≤ left then left - (((x.length + (x.map (fun y => (wt51 y))).sum) : Nat) : Int) else -1) := by
  unfold laws_szPartS.f
  have e0 : wrap64 (left - ((x.length : Nat) : Int)) = left - ((x.length : Nat) : Int) := wrap_id (by omega) (by omega)
  simp only [e0]
  by_cases c : ((x.length : Nat) : Int) ≤ left
  case neg => exact ev_pos (by omega) (ev_now (by first | rfl | rw [if_neg (by omega)]))
  refine ev_neg (by omega) ?_
  have h := ev_sz (L := fun k l i => laws_szPartS.l0 k x l i) x (fun y => (wt51 y)) (fun l => Ev.step (fun k => rfl) (ev_neg (by omega) (ev_now rfl))) ?step (left - ((x.length : Nat) : Int)) (by omega) (by omega)
  case step =>
    intro l i y r l0 l1 hi hm hd hy hn
    refine Ev.step (fun k => rfl) (ev_pos (by omega) (ev_pos (by omega) ?_))
    simp only [rd_T51, Int.toNat_natCast, hd]
    have hg := g1 y hm
    obtain ⟨q0, q1⟩ := hg
    refine Ev.bind (laws_szPart_ev y (by assumption) (by assumption) l l0 l1) ?_
    by_cases c1 : (((wt51 y) : Nat) : Int) ≤ l
    case neg => rw [if_neg c1]; exact ev_pos (by omega) (ev_now (hn c1).symm)
    rw [if_pos c1]
    refine ev_neg (by omega) ?_
    rw [wrap_succ hi (by omega)]
    exact hy c1
  refine ev_cast h ?_
  by_cases c2 : (((x.map (fun y => (wt51 y))).sum : Nat) : Int) ≤ left - ((x.length : Nat) : Int)
  · rw [if_pos c2, if_pos (by omega)]; omega
  · rw [if_neg c2, if_neg (by omega)]
end Go.Proofs.Ytdbhelhoaciodaa.X
set_option linter.unusedVariables false
namespace Go.Proofs.Ytdbhelhoaciodaa.X
open Go.RowKit Go.Proofs.YtdbhelhoaciodaaW.PrintWords Go.Proofs.Ytdbhelhoaciodaa.E
def conv142 (x : S142) : S140 := ⟨x.f0, x.f1⟩
theorem laws_toContext_ev (x : S142) : Ev (fun k => laws_toContext.f (x.f0) (x.f1)) ((conv142 x).f0, (conv142 x).f1) := by
  unfold laws_toContext.f
  exact ev_now rfl
end Go.Proofs.Ytdbhelhoaciodaa.X
set_option linter.unusedVariables false
namespace Go.Proofs.Ytdbhelhoaciodaa.X
open Go.RowKit Go.Proofs.YtdbhelhoaciodaaW.PrintWords Go.Proofs.Ytdbhelhoaciodaa.E
theorem laws_toContextS_ev (x : List (S142)) (hb : x.length ≤ 1048576) : Ev (fun k => laws_toContextS.f k x) (x.map conv142) := by
  unfold laws_toContextS.f
  refine ev_pos (by omega) (ev_pos (by simp only [Int.toNat_natCast]; omega) ?_)
  simp only [Int.toNat_natCast]
  refine ev_fill (L := fun k o i => laws_toContextS.l0 k x o i) x conv142 _ (fun o => Ev.step (fun k => rfl) (ev_neg (by omega) (ev_now rfl))) ?_
  intro o i y r hi hx hd hl hk
  refine Ev.step (fun k => rfl) (ev_pos (by omega) (ev_pos (by omega) ?_))
  simp only [rd_T142, Int.toNat_natCast, hd]
  refine Ev.bind (laws_toContext_ev y) ?_
  refine ev_pos (by omega) ?_
  rw [wrap_succ hi (by omega)]
  exact hk
end Go.Proofs.Ytdbhelhoaciodaa.X
set_option linter.unusedVariables false
namespace Go.Proofs.Ytdbhelhoaciodaa.X
open Go.RowKit Go.Proofs.YtdbhelhoaciodaaW.PrintWords Go.Proofs.Ytdbhelhoaciodaa.E
def conv146 (x : S146) : S144 := ⟨x.f0, x.f1⟩
theorem laws_toRelation_ev (x : S146) : Ev (fun k => laws_toRelation.f (x.f0) (x.f1)) ((conv146 x).f0, (conv146 x).f1) := by
  unfold laws_toRelation.f
  exact ev_now rfl
end Go.Proofs.Ytdbhelhoaciodaa.X
set_option linter.unusedVariables false
namespace Go.Proofs.Ytdbhelhoaciodaa.X
open Go.RowKit Go.Proofs.YtdbhelhoaciodaaW.PrintWords Go.Proofs.Ytdbhelhoaciodaa.E
theorem laws_toRelationS_ev (x : List (S146)) (hb : x.length ≤ 1048576) : Ev (fun k => laws_toRelationS.f k x) (x.map conv146) := by
  unfold laws_toRelationS.f
  refine ev_pos (by omega) (ev_pos (by simp only [Int.toNat_natCast]; omega) ?_)
  simp only [Int.toNat_natCast]
  refine ev_fill (L := fun k o i => laws_toRelationS.l0 k x o i) x conv146 _ (fun o => Ev.step (fun k => rfl) (ev_neg (by omega) (ev_now rfl))) ?_
  intro o i y r hi hx hd hl hk
  refine Ev.step (fun k => rfl) (ev_pos (by omega) (ev_pos (by omega) ?_))
  simp only [rd_T146, Int.toNat_natCast, hd]
  refine Ev.bind (laws_toRelation_ev y) ?_
  refine ev_pos (by omega) ?_
  rw [wrap_succ hi (by omega)]
  exact hk
end Go.Proofs.Ytdbhelhoaciodaa.X
set_option linter.unusedVariables false
namespace Go.Proofs.Ytdbhelhoaciodaa.X
open Go.RowKit Go.Proofs.YtdbhelhoaciodaaW.PrintWords Go.Proofs.Ytdbhelhoaciodaa.E
def conv48 (x : S48) : S61 := ⟨(x.f0.map conv142), (x.f1.map conv146)⟩
theorem laws_toRecord_ev (x : S48) (hb : (wt48 x) ≤ 1048576) : Ev (fun k => laws_toRecord.f k (x.f0) (x.f1)) ((conv48 x).f0, (conv48 x).f1) := by
  unfold laws_toRecord.f
  unfold wt48 at hb
  refine Ev.bind (laws_toContextS_ev x.f0 (by omega)) ?_
  refine Ev.bind (laws_toRelationS_ev x.f1 (by omega)) ?_
  exact ev_now rfl
end Go.Proofs.Ytdbhelhoaciodaa.X
set_option linter.unusedVariables false
namespace Go.Proofs.Ytdbhelhoaciodaa.X
open Go.RowKit Go.Proofs.YtdbhelhoaciodaaW.PrintWords Go.Proofs.Ytdbhelhoaciodaa.E
theorem laws_toIntS_ev (x : List (Int)) (hb : x.length ≤ 1048576) : Ev (fun k => laws_toIntS.f k x) (x) := by
  unfold laws_toIntS.f
  refine ev_pos (by omega) (ev_pos (by simp only [Int.toNat_natCast]; omega) ?_)
  simp only [Int.toNat_natCast]
  refine ev_cast (r := x.map id) ?_ (List.map_id x)
  refine ev_fill (L := fun k o i => laws_toIntS.l0 k x o i) x id _ (fun o => Ev.step (fun k => rfl) (ev_neg (by omega) (ev_now rfl))) ?_
  intro o i y r hi hx hd hl hk
  refine Ev.step (fun k => rfl) (ev_pos (by omega) (ev_pos (by omega) ?_))
  simp only [rd, Int.toNat_natCast, hd]
  refine ev_pos (by omega) ?_
  rw [wrap_succ hi (by omega)]
  exact hk
end Go.Proofs.Ytdbhelhoaciodaa.X
set_option linter.unusedVariables false
namespace Go.Proofs.Ytdbhelhoaciodaa.X
open Go.RowKit Go.Proofs.YtdbhelhoaciodaaW.PrintWords Go.Proofs.Ytdbhelhoaciodaa.E
def conv51 (x : S51) : S64 := ⟨x.f0, x.f1, x.f2⟩
theorem laws_toPart_ev (x : S51) (hb : (wt51 x) ≤ 1048576) : Ev (fun k => laws_toPart.f k (x.f0) (x.f1) (x.f2)) ((conv51 x).f0, (conv51 x).f1, (conv51 x).f2) := by
  unfold laws_toPart.f
  unfold wt51 at hb
  refine Ev.bind (laws_toIntS_ev x.f2 (by omega)) ?_
  exact ev_now rfl
end Go.Proofs.Ytdbhelhoaciodaa.X
set_option linter.unusedVariables false
namespace Go.Proofs.Ytdbhelhoaciodaa.X
open Go.RowKit Go.Proofs.YtdbhelhoaciodaaW.PrintWords Go.Proofs.Ytdbhelhoaciodaa.E
theorem laws_toPartS_ev (x : List (S51)) (hb : (x.length + (x.map (fun y => (wt51 y))).sum) ≤ 1048576) : Ev (fun k => laws_toPartS.f k x) (x.map conv51) := by
  unfold laws_toPartS.f
  refine ev_pos (by omega) (ev_pos (by simp only [Int.toNat_natCast]; omega) ?_)
  simp only [Int.toNat_natCast]
  refine ev_fill (L := fun k o i => laws_toPartS.l0 k x o i) x conv51 _ (fun o => Ev.step (fun k => rfl) (ev_neg (by omega) (ev_now rfl))) ?_
  intro o i y r hi hx hd hl hk
  refine Ev.step (fun k => rfl) (ev_pos (by omega) (ev_pos (by omega) ?_))
  simp only [rd_T51, Int.toNat_natCast, hd]
  have hq := le_sum (f := fun y => (wt51 y)) (List.mem_of_getElem? hx)
  refine Ev.bind (laws_toPart_ev y (by omega)) ?_
  refine ev_pos (by omega) ?_
  rw [wrap_succ hi (by omega)]
  exact hk
end Go.Proofs.Ytdbhelhoaciodaa.X
set_option linter.unusedVariables false
namespace Go.Proofs.Ytdbhelhoaciodaa.X
open Go.RowKit Go.Proofs.YtdbhelhoaciodaaW.PrintWords Go.Proofs.Ytdbhelhoaciodaa.E
theorem laws_eqContext_ev (x : S140) : Ev (fun k => laws_eqContext.f (x.f0) (x.f1) (x.f0) (x.f1)) true := by
  unfold laws_eqContext.f
  repeat' (first | exact ev_now rfl | refine ev_pos rfl ?_ | refine ev_neg (by simp) ?_)
end Go.Proofs.Ytdbhelhoaciodaa.X
set_option linter.unusedVariables false
namespace Go.Proofs.Ytdbhelhoaciodaa.X
open Go.RowKit Go.Proofs.YtdbhelhoaciodaaW.PrintWords Go.Proofs.Ytdbhelhoaciodaa.E
theorem laws_eqContextS_ev (x : List (S140)) (hl0 : x.length ≤ 9223372036854775807) : Ev (fun k => laws_eqContextS.f k x x) true := by
  unfold laws_eqContextS.f
  refine ev_pos rfl ?_
  refine ev_same (L := fun k i => laws_eqContextS.l0 k x x i) x.length (Ev.step (fun k => rfl) (ev_neg (by omega) (ev_now rfl))) ?_
  intro i hi hk
  refine Ev.step (fun k => rfl) (ev_pos (by omega) (ev_pos (by omega) (ev_pos (by omega) ?_)))
  refine Ev.bind (laws_eqContext_ev _) ?_
  refine ev_pos rfl ?_
  rw [wrap_succ hi (by omega)]
  exact hk
end Go.Proofs.Ytdbhelhoaciodaa.X
set_option linter.unusedVariables false
namespace Go.Proofs.Ytdbhelhoaciodaa.X
open Go.RowKit Go.Proofs.YtdbhelhoaciodaaW.PrintWords Go.Proofs.Ytdbhelhoaciodaa.E
theorem laws_eqRelation_ev (x : S144) : Ev (fun k => laws_eqRelation.f (x.f0) (x.f1) (x.f0) (x.f1)) true := by
  unfold laws_eqRelation.f
  repeat' (first | exact ev_now rfl | refine ev_pos rfl ?_ | refine ev_neg (by simp) ?_)
end Go.Proofs.Ytdbhelhoaciodaa.X
set_option linter.unusedVariables false
namespace Go.Proofs.Ytdbhelhoaciodaa.X
open Go.RowKit Go.Proofs.YtdbhelhoaciodaaW.PrintWords Go.Proofs.Ytdbhelhoaciodaa.E
theorem laws_eqRelationS_ev (x : List (S144)) (hl0 : x.length ≤ 9223372036854775807) : Ev (fun k => laws_eqRelationS.f k x x) true := by
  unfold laws_eqRelationS.f
  refine ev_pos rfl ?_
  refine ev_same (L := fun k i => laws_eqRelationS.l0 k x x i) x.length (Ev.step (fun k => rfl) (ev_neg (by omega) (ev_now rfl))) ?_
  intro i hi hk
  refine Ev.step (fun k => rfl) (ev_pos (by omega) (ev_pos (by omega) (ev_pos (by omega) ?_)))
  refine Ev.bind (laws_eqRelation_ev _) ?_
  refine ev_pos rfl ?_
  rw [wrap_succ hi (by omega)]
  exact hk
end Go.Proofs.Ytdbhelhoaciodaa.X
set_option linter.unusedVariables false
namespace Go.Proofs.Ytdbhelhoaciodaa.X
open Go.RowKit Go.Proofs.YtdbhelhoaciodaaW.PrintWords Go.Proofs.Ytdbhelhoaciodaa.E
theorem laws_eqRecord_ev (x : S61) (hl0 : x.f0.length ≤ 9223372036854775807) (hl1 : x.f1.length ≤ 9223372036854775807) : Ev (fun k => laws_eqRecord.f k (x.f0) (x.f1) (x.f0) (x.f1)) true := by
  unfold laws_eqRecord.f
  repeat' (first | exact ev_now rfl | refine ev_pos rfl ?_ | refine ev_neg (by simp) ?_ | refine Ev.bind (laws_eqContextS_ev _ (by assumption)) ?_ | refine Ev.bind (laws_eqRelationS_ev _ (by assumption)) ?_)
end Go.Proofs.Ytdbhelhoaciodaa.X
set_option linter.unusedVariables false
namespace Go.Proofs.Ytdbhelhoaciodaa.X
open Go.RowKit Go.Proofs.YtdbhelhoaciodaaW.PrintWords Go.Proofs.Ytdbhelhoaciodaa.E
theorem laws_eqIntS_ev (x : List (Int)) (hl0 : x.length ≤ 9223372036854775807) : Ev (fun k => laws_eqIntS.f k x x) true := by
  unfold laws_eqIntS.f
  refine ev_pos rfl ?_
  refine ev_same (L := fun k i => laws_eqIntS.l0 k x x i) x.length (Ev.step (fun k => rfl) (ev_neg (by omega) (ev_now rfl))) ?_
  intro i hi hk
  refine Ev.step (fun k => rfl) (ev_pos (by omega) (ev_pos (by omega) (ev_pos (by omega) ?_)))
  refine ev_pos rfl ?_
  rw [wrap_succ hi (by omega)]
  exact hk
end Go.Proofs.Ytdbhelhoaciodaa.X
set_option linter.unusedVariables false
namespace Go.Proofs.Ytdbhelhoaciodaa.X
open Go.RowKit Go.Proofs.YtdbhelhoaciodaaW.PrintWords Go.Proofs.Ytdbhelhoaciodaa.E
theorem laws_eqPart_ev (x : S64) (hl0 : x.f2.length ≤ 9223372036854775807) : Ev (fun k => laws_eqPart.f k (x.f0) (x.f1) (x.f2) (x.f0) (x.f1) (x.f2)) true := by
  unfold laws_eqPart.f
  repeat' (first | exact ev_now rfl | refine ev_pos rfl ?_ | refine ev_neg (by simp) ?_ | refine Ev.bind (laws_eqIntS_ev _ (by assumption)) ?_)
end Go.Proofs.Ytdbhelhoaciodaa.X
set_option linter.unusedVariables false
namespace Go.Proofs.Ytdbhelhoaciodaa.X
open Go.RowKit Go.Proofs.YtdbhelhoaciodaaW.PrintWords Go.Proofs.Ytdbhelhoaciodaa.E
theorem laws_eqPartS_ev (x : List (S64)) (hl0 : x.length ≤ 9223372036854775807) (hl1 : ∀ y ∈ x, (y.f2.length ≤ 9223372036854775807)) : Ev (fun k => laws_eqPartS.f k x x) true := by
  unfold laws_eqPartS.f
  refine ev_pos rfl ?_
  refine ev_same (L := fun k i => laws_eqPartS.l0 k x x i) x.length (Ev.step (fun k => rfl) (ev_neg (by omega) (ev_now rfl))) ?_
  intro i hi hk
  refine Ev.step (fun k => rfl) (ev_pos (by omega) (ev_pos (by omega) (ev_pos (by omega) ?_)))
  have hy := hl1 _ (List.getElem_mem hi)
  have hr : rd_T64 x (i : Int) = x[i] := by simp [rd_T64, List.getD_eq_getElem?_getD, List.getElem?_eq_getElem hi]
  rw [hr]
  refine Ev.bind (laws_eqPart_ev _ (by first | exact hy | exact hy)) ?_
  refine ev_pos rfl ?_
  rw [wrap_succ hi (by omega)]
  exact hk
end Go.Proofs.Ytdbhelhoaciodaa.X
set_option linter.unusedVariables false
set_option linter.unusedSimpArgs false
namespace Go.Proofs.Ytdbhelhoaciodaa.Pure
open Go.RowKit Go.Proofs.Ytdbhelhoaciodaa.X Go.Proofs.YtdbhelhoaciodaaW.PrintWords Go.Proofs.Ytdbhelhoaciodaa.E
theorem sum_part (ps : List S51) : ((ps.map conv51).map wP).sum ≤ 2 * ps.length + (ps.map (fun y => wt51 y)).sum := by
  induction ps with
  | nil => simp
  | cons y l ih =>
    rw [List.map_cons, List.map_cons, List.sum_cons, List.map_cons, List.sum_cons, List.length_cons]
    have h1 : wP (conv51 y) = 2 + y.f2.length := rfl
    have h2 : wt51 y = y.f1.size + y.f2.length := rfl
    omega
theorem keep_sum (void : List Int) (x : S64) : ((dvKeep void x).map wP).sum ≤ wP x := by
  have h0 : (dvLeft void x).length ≤ x.f2.length := List.length_filter_le _ _
  unfold dvKeep
  split
  · split
    · simp
    · simp only [List.map_cons, List.map_nil, List.sum_cons, List.sum_nil, Nat.add_zero]
      unfold wP
      show 2 + (dvLeft void x).length ≤ _
      omega
  · split
    · split <;> simp
    · simp
theorem sum_drop (void : List Int) (ps : List S64) : ((ps.flatMap (dvKeep void)).map wP).sum ≤ (ps.map wP).sum := by
  induction ps with
  | nil => simp
  | cons x l ih =>
    have := keep_sum void x
    rw [List.flatMap_cons, List.map_append, List.sum_append, List.map_cons, List.sum_cons]
    omega
theorem FnExactDropVoid : PureFnExactDropVoid := by
  intro x ps void hx hp hvd
  unfold laws_FnExactDropVoid.f
  by_cases b : (void.length : Int) > 1048576
  · exact ⟨0, if_pos b⟩
  refine ev_get (ev_neg b (Ev.bind (laws_szRecord_ev x hx.1.1 hx.2.1 1048576 (by omega) (by omega)) ?_))
  by_cases c : (((wt48 x) : Nat) : Int) ≤ 1048576
  case neg => rw [if_neg c]; exact ev_pos (by omega) (ev_now rfl)
  rw [if_pos c]
  refine ev_neg (by omega) (Ev.bind (laws_szPartS_ev ps hp.1 (fun y hy => ⟨(hp.2 y hy).2.1, (hp.2 y hy).2.2.1⟩) _ (by omega) (by omega)) ?_)
  by_cases d : (((ps.length + (ps.map (fun y => (wt51 y))).sum) : Nat) : Int) ≤ 1048576 - (((wt48 x) : Nat) : Int)
  case neg => rw [if_neg d]; exact ev_pos (by omega) (ev_now rfl)
  rw [if_pos d]
  refine ev_neg (by omega) ?_
  have htr := laws_toRecord_ev x (by omega)
  have htp := laws_toPartS_ev ps (by omega)
  have hti := laws_toIntS_ev void (by omega)
  have hw : ∀ p ∈ ps.map conv51, p.f1.size ≤ 9223372036854775807 ∧ p.f2.length ≤ 1048576 := by
    intro p hp'
    obtain ⟨y, hy, rfl⟩ := List.mem_map.1 hp'
    have h1 : wt51 y ≤ (ps.map (fun y => wt51 y)).sum := le_sum hy
    have h2 : wt51 y = y.f1.size + y.f2.length := rfl
    exact ⟨(hp.2 y hy).2.1, (by show y.f2.length ≤ 1048576; omega)⟩
  have hlp : (ps.map conv51).length = ps.length := List.length_map ..
  have hlc : (x.f0.map conv142).length = x.f0.length := List.length_map ..
  have hlr : (x.f1.map conv146).length = x.f1.length := List.length_map ..
  have hwt : wt48 x = x.f0.length + x.f1.length := rfl
  obtain ⟨a, r, ha, g1, g2⟩ := drop_both (conv48 x).f0 (conv48 x).f1 (ps.map conv51) void (by omega) (by omega) hw
  have hs := sum_part ps
  have hsa : ((a.map wP).sum) ≤ ((ps.map conv51).map wP).sum := by
    rcases ha with rfl | rfl
    · simp
    · exact sum_drop void _
  have hla := wP_len a
  have hwa : ∀ y ∈ a, y.f2.length ≤ 9223372036854775807 := by
    intro y hy
    have h1 : wP y ≤ (a.map wP).sum := le_sum hy
    have h2 : wP y = 2 + y.f2.length := rfl
    omega
  have heR := laws_eqRecord_ev (conv48 x) (by show (x.f0.map conv142).length ≤ _; omega) (by show (x.f1.map conv146).length ≤ _; omega)
  have heP := laws_eqPartS_ev (ps.map conv51) (by omega) (fun y hy => by have := (hw y hy).2; omega)
  have heI := laws_eqIntS_ev void (by omega)
  have hea := laws_eqPartS_ev a (by omega) hwa
  have hm1 := markRec (conv48 x).f0 (conv48 x).f1 (by show (x.f0.map conv142).length ≤ _; omega) (by show (x.f1.map conv146).length ≤ _; omega)
  have hl0 : (conv48 x).f0.length = x.f0.length := hlc
  have hl1 : (conv48 x).f1.length = x.f1.length := hlr
  have hm2 := markPart (ps.map conv51) (1 + ((2 * (conv48 x).f0.length : Nat) : Int) + ((2 * (conv48 x).f1.length : Nat) : Int)) (by omega) (by omega)
  have hm3 := markInt void (1 + ((2 * (conv48 x).f0.length : Nat) : Int) + ((2 * (conv48 x).f1.length : Nat) : Int) + ((((ps.map conv51).map wP).sum : Nat) : Int)) (by omega) (by omega)
  have hm4 := markPart a 1 (by omega) (by omega)
  have hh4 := heldPart a 1 (by omega) (by omega)
  refine Ev.bind htr (Ev.bind htp (Ev.bind hti (Ev.bind g1 (Ev.bind htr (Ev.bind htp (Ev.bind hti (Ev.bind g2 (Ev.bind hea (ev_pos rfl (ev_pos rfl ?_))))))))))
  refine Ev.bind htr (Ev.bind heR (ev_pos rfl (Ev.bind htp (Ev.bind heP (ev_pos rfl (Ev.bind hti (Ev.bind heI (ev_pos rfl ?_))))))))
  refine Ev.bind hm1 (Ev.bind hm2 (Ev.bind hm3 (ev_pos (by omega) ?_)))
  refine Ev.bind hea (ev_pos rfl (ev_pos rfl (Ev.bind hm4 ?_)))
  refine Ev.bind hh4 (ev_pos (by omega) (ev_pos rfl ?_))
  refine Ev.bind htr (Ev.bind htp (Ev.bind hti (Ev.bind g2 (Ev.bind hea (ev_pos rfl (ev_pos rfl ?_))))))
  exact Ev.bind hh4 (ev_pos (by omega) (ev_pos rfl (ev_now rfl)))
end Go.Proofs.Ytdbhelhoaciodaa.Pure
namespace Go.Proofs.Ytdbhelhoaciodaa.fnExactDropVoid
open Go.ChangeShapes Go.WideShapes Go.ChangeAt Go.RowKit Go.Joins Go.Proofs.YtdbhelhoaciodaaW.PrintWords Go.Proofs.Ytdbhelhoaciodaa.Open Go.Proofs.Ytdbhelhoaciodaa.X
open Go.ChangeMaps (open_string shut_string)
set_option linter.unusedVariables false
theorem own : ownKnob Try.prog.godebug = none := by kernel_rfl
theorem laidOut : laidOutB Try.prog = true := by kernel_rfl
set_option maxRecDepth 100000 in
theorem lifted (os : Os) (started : os.Started) (H : Type) (enc : TypeId × Value → H) :
    ReturnsInHanded {} Try.checked os 7 .any (Rows.fnExactDropVoidSpec.pre6 enc Try.prog Try.f7 Rows.fnExactDropVoidRow.domain false) (Rows.fnExactDropVoidSpec.post enc Try.prog Try.f7 false true false false) := by
  refine returnsInHanded_of_change_sized (C := Try.checked) own started (by kernel_rfl) Try.func7
    (ChangeSpec.witness6 (enc := enc) (C := Try.checked) false ⟨#[], #[.agg #[.slice none 0 0, .slice none 0 0], .slice none 0 0, .slice none 0 0], []⟩ 8 (by kernel_rfl) (by kernel_rfl) (by kernel_rfl) (by kernel_rfl)) ?_
  intro W base args ds gs before hval0 hW hcnd hsz0 _
  have hval : ∀ (j : Nat) t v, Try.f7.params[j]? = some t → args[j]? = some v → Value.okWide Try.prog W .any base t v := hval0
  have hW' := hW
  obtain ⟨p, q, hA0, hV, rfl, hfz, hnd⟩ := hW
  have hA : DataW.TrodAll enc Try.prog W 0 (fun _ => true) true Try.f7.params.toList args.toList ds p := hA0
  rw [Try.params7] at hA hval
  obtain ⟨v0, vs0, d0, ds0, p0, q0, hargs, rfl, rfl, h0, r0⟩ := trodAll_cons hA
  obtain ⟨v1, vs1, d1, ds1, p1, q1, rfl, rfl, rfl, h1, r1⟩ := trodAll_cons r0
  obtain ⟨v2, vs2, d2, ds2, p2, q2, rfl, rfl, rfl, h2, r2⟩ := trodAll_cons r1
  obtain ⟨rfl, rfl, rfl⟩ := trodAll_nil r2
  obtain rfl : args = #[v0, v1, v2] := by cases args; simp_all
  obtain ⟨rfl, rfl⟩ := trodVars_none hV
  have kk0 := h0
  have lt0 : ∀ x ∈ p0, x.block < W.heap.size := by obtain ⟨m, hm⟩ := kk0; exact DataW.trod_lt m _ _ _ hm
  obtain ⟨a0, cs0, rfl, hK0, g0⟩ := arg_agg op48 (by obtain ⟨cs, e, _⟩ := okWide_struct Try.underlying48 (hval 0 48 v0 rfl rfl); exact ⟨cs, e⟩) h0
  obtain ⟨A0_0, c0_0, A0_1, c0_1, he0, hc0_0, hr0_0, hc0_1, hr0_1⟩ := k48_open hK0
  obtain rfl : cs0 = #[.slice A0_0 a0.f0.length c0_0, .slice A0_1 a0.f1.length c0_1] := by cases cs0; simp_all
  have kk1 := h1
  have lt1 : ∀ x ∈ p1, x.block < W.heap.size := by obtain ⟨m, hm⟩ := kk1; exact DataW.trod_lt m _ _ _ hm
  obtain ⟨A1, c1, a1, rfl, hc1, hr1, g1⟩ := arg_slice op49 (okWide_slice Try.underlying49 (hval 1 49 v1 rfl rfl)) h1
  have kk2 := h2
  have lt2 : ∀ x ∈ p2, x.block < W.heap.size := by obtain ⟨m, hm⟩ := kk2; exact DataW.trod_lt m _ _ _ hm
  obtain ⟨A2, c2, a2, rfl, hc2, hr2, g2⟩ := arg_slice op26 (okWide_slice Try.underlying26 (hval 2 26 v2 rfl rfl)) h2
  clear hA0 hval0 hsz0
  obtain ⟨k, hk⟩ := Pure.FnExactDropVoid a0 a1 a2 g0 g1 g2
  refine (X.laws_FnExactDropVoid.calls k _ _ a0.f0 _ _ a0.f1 _ _ a1 _ _ a2 true W hr0_0 hc0_0 hr0_1 hc0_1 hr1 hc1 hr2 hc2 hk).mono ?_
  rintro e W' ⟨he, bel0⟩
  have bel : Below W.heap.size W W' := by first | exact bel0 | exact bel0.below
  subst he
  exact ⟨_, rfl, _, _, _, [], _, [], hW', trodAll_mk1 (shut_bool Try.underlying4 _), (trodAll_cons_mk (Below.trod laidOut (by kernel_rfl) (of_decide_eq_true (by kernel_rfl)) kk0 bel lt0) (trodAll_cons_mk (Below.trod laidOut (by kernel_rfl) (of_decide_eq_true (by kernel_rfl)) kk1 bel lt1) (trodAll_cons_mk (Below.trod laidOut (by kernel_rfl) (of_decide_eq_true (by kernel_rfl)) kk2 bel lt2) trodAll_mk0))), rfl, bel.frame _, fun h => by cases h⟩
theorem over : Rows.fnExactDropVoidRow.holds Try.pinned (OpenSpec.ofChange Rows.fnExactDropVoidSpec) :=
  OpenClaim.holds_of_wide 7 Try.f7 rfl rfl rfl rfl rfl rfl rfl ⟨rfl, rfl, rfl, rfl, rfl⟩ rfl rfl rfl rfl rfl (by kernel_rfl) Try.func7 (by kernel_rfl)
    (of_decide_eq_true (by kernel_rfl)) (by unfold Func.isWrapper; first | (rw [if_pos (by decide +kernel)]; kernel_rfl) | (rw [if_neg (by decide +kernel)]; exact ⟨rfl, rfl⟩))
    (fun os started H enc _ => lifted os started H enc)
theorem proved : Rows.FnExactDropVoidSaid := over
#print axioms proved
end Go.Proofs.Ytdbhelhoaciodaa.fnExactDropVoid
namespace Go.Proofs.Ytdbhelhoaciodaa
/-- The row, under a short name, for the claim. -/
theorem fnExactDropVoid_holds : Rows.FnExactDropVoidSaid := fnExactDropVoid.proved
end Go.Proofs.Ytdbhelhoaciodaa
