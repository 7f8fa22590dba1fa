/- What the laws' proofs have in common: contracts of the program's functions, whatever memory they are called in. Conditions stand in each statement (part 12 of 12). -/
import Derived.ArgAppend
import Derived.Below
import Derived.BigQuiet
import Derived.Deep.AppendLies
import Derived.Deep.CutBlock
import Derived.Deep.DeepCutAuto
import Derived.Deep.Draws
import Derived.Deep.LoopGhost
import Derived.Deep.OwnRows
import Derived.Deep.QuietTactic
import Derived.Deep.RegionHeld3
import Derived.DeepKeys5
import Derived.Defers
import Derived.KernelRfl
import Derived.Laws.BitsLemmas
import Derived.Laws.BytesArg
import Derived.Laws.CopyOwn
import Derived.Laws.IdiomCopy
import Derived.Laws.MakeOwn
import Derived.Laws.OwnMore
import Derived.Laws.Rows
import Derived.Laws.Slices
import Derived.Laws.StructEq
import Derived.Laws.Tables
import Derived.Lib.AppendStr
import Derived.Lib.ConvBytes
import Derived.Lib.ItoaLen
import Derived.Maps.AppendAt
import Derived.Maps.OwnOps
import Derived.OrdersHeld
import Derived.OwnWalk
import Derived.OwnWalkIn
import Derived.RangeFuncCalls
import Derived.RangeFuncKeeps
import Derived.RangeFuncLeaves
import Derived.Recover
import Derived.RowKit
import Derived.RowKit3
import Derived.Shelf.LaysM
import Derived.Shelf.Small.Wraps
import Derived.Shelf.Strconv.Itoa0
import Derived.Shelf.Strconv.Itoa1
import Derived.Shelf.Strconv.Itoa2
import Derived.Shelf.Strconv.Itoa3
import Derived.Shelf.Strings.Builder1
import Derived.Shelf.Strings.Builder2
import Derived.Shelf.Strings.Builder2Cap
import Derived.Shelf.Strings.BuilderCap
import Derived.Shelf.Strings.BuilderF
import Derived.Shelf.Strings.BuilderK
import Derived.Shelf.Strings.OnBuilder
import Derived.Tactics
import Derived.Tactics2
import Derived.TacticsInMore
import Derived.Test.YtnllidgonghckaaGreatDoorProg
import Derived.WalkKit
import Derived.WalkLawsBesides
import Derived.WideKeyEntry
import Derived.WideLaws
import Derived.Test.YtnllidgonghckaaGreatDoorC10
namespace Go.Proofs.YtnllidgonghckaaGreatDoor.X
open Go.RowKit Go.Proofs.YtnllidgonghckaaGreatDoorW.PrintWords Go.Proofs.YtnllidgonghckaaGreatDoorW.PrintLast Go.Proofs.YtnllidgonghckaaGreatDoorW.PrintMore Go.Proofs.YtnllidgonghckaaGreatDoor.Dm
set_option linter.unusedVariables false
set_option linter.unusedSimpArgs false
attribute [local go_sem] max2_int min2_int max_two min_two max_three min_three max_four min_four
theorem add_off (g j : Nat) : (⟨g, 0, none⟩ : Addr).add j = ⟨g, j, none⟩ := by unfold Addr.add; split <;> simp_all
theorem cF_1 {W : World} {g t : Nat} (x : S74) (h : W.heap[g]? = some (.cells #[.int .i64 x.f0, .int .i64 x.f1, .int .i64 x.f2, .int .i64 x.f3] t (0, 0))) : Kd.C k74 W (some ⟨g, 0, none⟩) 1 [x] := by
  refine ⟨rfl, by decide, fun _ => ⟨_, rfl, fun j p hj => ?_⟩⟩
  cases j with
  | zero =>
    cases hj
    refine ⟨_, rfl, k74_mk W x, fun i u hu => ?_⟩
    rw [show 0 * k74.sz + i = i by omega, add_off, blk_cell h i]
    simpa using hu
  | succ j => simp at hj
theorem cF_2 {W : World} {g t : Nat} (x y : S74) (h : W.heap[g]? = some (.cells #[.int .i64 x.f0, .int .i64 x.f1, .int .i64 x.f2, .int .i64 x.f3, .int .i64 y.f0, .int .i64 y.f1, .int .i64 y.f2, .int .i64 y.f3] t (0, 0))) : Kd.C k74 W (some ⟨g, 0, none⟩) 2 [x, y] := by
  refine ⟨rfl, by decide, fun _ => ⟨_, rfl, fun j p hj => ?_⟩⟩
  rcases j with _ | _ | j
  · cases hj
    refine ⟨_, rfl, k74_mk W x, fun i u hu => ?_⟩
    rw [show 0 * k74.sz + i = i by omega, add_off, blk_cell h i]
    rcases i with _ | _ | _ | _ | i <;> simp at hu ⊢ <;> exact hu
  · cases hj
    refine ⟨_, rfl, k74_mk W y, fun i u hu => ?_⟩
    rw [show (0 + 1) * k74.sz + i = 4 + i from rfl, add_off, blk_cell h (4 + i)]
    rcases i with _ | _ | _ | _ | i <;> simp at hu ⊢ <;> exact hu
  · simp at hj
theorem lit_step {P : Program} {ops : Array Oper} {o : Oper} {a : Act} {Q : Exit → Act → World → Prop} {Kc : Act → World → Prop} {W : World} {N : Option Tmp} {cs : Array Value} {t n : Nat} (hw : Region.wanted o (yielded ops a.tmps) = true) (hN : o.dst = N) (hrun : (execOp a.eval o).run P W = .ok (.value (.slice (some ⟨W.heap.size, 0, none⟩) n n)) (W.alloc (.cells cs t)))
    (h : ∀ g w1, w1.heap[g]? = some (.cells cs t (0, 0)) → Below W.heap.size W w1 → Kc (a.put N (.slice (some ⟨g, 0, none⟩) n n)) w1) : if Region.wanted o (yielded ops a.tmps) = true then Oper.wp P o a W Kc Q else Kc (a.put N undef) W := by
  subst hN
  rw [if_pos hw]
  unfold Oper.wp
  rw [hrun]
  exact h _ _ (blk_new W _) (below_alloc (Below.refl _ _) _)
def Kn9.T : Bool × List (List Nat × List Nat) := (true, [([], []), ([0], []), ([], []), ([], []), ([2, 3], [2, 3]), ([0, 1, 4, 1], [0, 1, 4]), ([5], [5]), ([6], [6]), ([6], [6]), ([7, 5, 0, 1, 2, 3, 4, 5, 6, 7], [7]), ([8, 9, 0, 1, 2, 3, 4, 5, 6, 7, 8, 9], [8])])
def Kn9.B : List Nat := [0, 1, 0, 0, 12, 31, 63, 127, 127, 255, 1023]
theorem Kn9.tab : rtab .any (opsOf Tryz.f11 9) = Kn9.T := by kernel_rfl
theorem Kn9.bits : waitsOk Kn9.T.2 Kn9.B = true := by kernel_rfl
def Kn10.T : Bool × List (List Nat × List Nat) := (true, [([], []), ([0], []), ([], []), ([2], [2]), ([], []), ([], []), ([4, 5], [4, 5]), ([0, 1, 3, 6, 1], [0, 1, 3, 6]), ([7], [7]), ([8], [8]), ([8], [8]), ([8], [8]), ([9, 7, 0, 1, 2, 3, 4, 5, 6, 7, 8, 9], [9]), ([10, 12, 0, 1, 2, 3, 4, 5, 6, 7, 8, 9, 10, 12], [10]), ([11, 13, 0, 1, 2, 3, 4, 5, 6, 7, 8, 9, 10, 11, 12, 13], [11])])
def Kn10.B : List Nat := [0, 1, 0, 4, 0, 0, 48, 127, 255, 511, 511, 511, 1023, 6143, 16383]
theorem Kn10.tab : rtab .any (opsOf Tryz.f11 10) = Kn10.T := by kernel_rfl
theorem Kn10.bits : waitsOk Kn10.T.2 Kn10.B = true := by kernel_rfl
def Kn11.T : Bool × List (List Nat × List Nat) := (true, [([], []), ([0], []), ([], []), ([2], [2]), ([0, 1, 3, 1], [0, 1, 3]), ([4], [4]), ([5], [5]), ([5], [5]), ([6, 4, 0, 1, 2, 3, 4, 5, 6], [6]), ([7, 8, 0, 1, 2, 3, 4, 5, 6, 7, 8], [7])])
def Kn11.B : List Nat := [0, 1, 0, 4, 15, 31, 63, 63, 127, 511]
theorem Kn11.tab : rtab .any (opsOf Tryz.f11 11) = Kn11.T := by kernel_rfl
theorem Kn11.bits : waitsOk Kn11.T.2 Kn11.B = true := by kernel_rfl
def Kn14.T : Bool × List (List Nat × List Nat) := (true, [([], []), ([0], [0]), ([1], [1]), ([2], [2]), ([2, 2], [2]), ([3, 4, 2], [2, 3, 4]), ([2, 5], [2, 5]), ([6, 4], [6]), ([7], [7]), ([8, 7], [7, 8]), ([7, 9], [7, 9]), ([10, 7], [10]), ([11], [11]), ([12, 11], [11, 12]), ([11, 13], [11, 13]), ([14, 11], [14]), ([15], [15]), ([16, 15], [15, 16]), ([15, 17], [15, 17]), ([18, 15], [18]), ([19], [19]), ([19], [19]), ([20, 21, 19, 19], [19, 20, 21]), ([22, 19], [19, 22]), ([19, 23], [19, 23]), ([24, 22], [24]), ([25], [25]), ([25, 25], [25]), ([26, 27, 25], [25, 26, 27]), ([25, 28], [25, 28])])
def Kn14.B : List Nat := [0, 1, 3, 7, 7, 31, 63, 127, 255, 511, 1023, 2047, 4095, 8191, 16383, 32767, 65535, 131071, 262143, 524287, 1048575, 1048575, 4194303, 8388607, 16777215, 33554431, 67108863, 67108863, 268435455, 536870911]
theorem Kn14.tab : rtab .any (opsOf Tryz.f11 14) = Kn14.T := by kernel_rfl
theorem Kn14.bits : waitsOk Kn14.T.2 Kn14.B = true := by kernel_rfl
theorem same_l (k : Nat) (A0 : Option Addr) (c0 : Nat) (l0 : List Int) (n0 : Nat) (h0 : l0.length = n0) (A1 : Option Addr) (c1 : Nat) (l1 : List Int) (n1 : Nat) (h1 : l1.length = n1) (r : Bool) (w : World) (hr0 : Kd.C (Kd.int .i64) w A0 l0.length l0) (hc0 : n0 ≤ c0) (hr1 : Kd.C (Kd.int .i64) w A1 l1.length l1) (hc1 : n1 ≤ c1) (h : tellurionref06_Same.f k l0 l1 = some r) :
    Calls Tryz.prog 45 #[.slice A0 n0 c0, .slice A1 n1 c1] w fun e w' => e = .returned (.bool r) ∧ Below w.heap.size w w' := by
  subst h0
  subst h1
  exact (tellurionref06_Same.calls k A0 c0 l0 A1 c1 l1 r w hr0 hc0 hr1 hc1 h).mono fun _ _ q => ⟨q.1, q.2.below⟩
theorem cI {W : World} {g t : Nat} (xs : List Int) (hl : xs.length ≤ 1000) (h : W.heap[g]? = some (.cells (xs.map (Value.int .i64)).toArray t (0, 0))) : Kd.C (Kd.int .i64) W (some ⟨g, 0, none⟩) xs.length xs := by
  refine ⟨rfl, by omega, fun _ => ⟨_, rfl, fun j p hj => ⟨[.int .i64 p], rfl, rfl, fun i u hu => ?_⟩⟩⟩
  cases i with
  | zero =>
    cases hu
    rw [show j * (Kd.int .i64).sz + 0 = j from by show j * 1 + 0 = j; omega, add_off, blk_cell h j]
    simp [hj]
  | succ i => simp at hu
theorem cI1 {W : World} {g t : Nat} (a : Int) (h : W.heap[g]? = some (.cells #[.int .i64 a] t (0, 0))) : Kd.C (Kd.int .i64) W (some ⟨g, 0, none⟩) [a].length [a] := cI [a] (by simp) h
theorem cI2 {W : World} {g t : Nat} (a b : Int) (h : W.heap[g]? = some (.cells #[.int .i64 a, .int .i64 b] t (0, 0))) : Kd.C (Kd.int .i64) W (some ⟨g, 0, none⟩) [a, b].length [a, b] := cI [a, b] (by simp) h
theorem cI3 {W : World} {g t : Nat} (a b c : Int) (h : W.heap[g]? = some (.cells #[.int .i64 a, .int .i64 b, .int .i64 c] t (0, 0))) : Kd.C (Kd.int .i64) W (some ⟨g, 0, none⟩) [a, b, c].length [a, b, c] := cI [a, b, c] (by simp) h
set_option maxHeartbeats 8000000 in
set_option maxRecDepth 100000 in
theorem known_b (w : World) (hT : Tab w) : Calls Tryz.prog 11 #[] w fun e w' => e = .returned (.bool true) ∧ Below w.heap.size w w' := by
  have hu0 := Tryz.underlying24
  have hu1 := Tryz.underlying38
  have hu2 := Tryz.underlying45
  have hu3 := Tryz.underlying63
  have hu4 := Tryz.underlying74
  have hu5 := Tryz.underlying76
  have hu6 := Tryz.underlying22
  have HT := Aside0.mk hT
  clear hT
  have HB := Aside0.mk (Below.refl w.heap.size w)
  go_enter Tryz.func11, Tryz.ntmps11
  go_upto_region 2 with (first
    | (go_at_call 31; refine (tellurionlaw06_N.calls 2 [4, 100, 400] _ (by kernel_rfl)).mono ?_; rintro e w1 ⟨v1, rfl, hv, hb⟩; obtain ⟨A1, c1, rfl⟩ := Kd.R_slice hv; have hq := Kd.R_reads' hv; (try clear HC1 HL1); replace HB := zW HB hb; have HC1 := Aside0.mk hq.2.2; have HL1 := Aside0.mk hq.2.1; clear hv hq; clear hb)
    | (go_at_call 32; refine (tellurionlaw06_date.calls 1 1 2000 _ _ _ _ rfl).mono ?_; rintro e w2 ⟨rfl, hb⟩; replace HB := zW HB hb; replace HC1 := zc HC1 hb; clear hb)
    | (go_at_call 19; refine (kn_Day A1 c1 _ HC1.out HL1.out).mono ?_; rintro e w3 ⟨rfl, hb⟩; clear HC1 HL1; replace HB := zW HB hb; clear hb))
  go_upto_region 3 with (first
    | (go_at_call 34; refine (tellurionlaw06_R.calls 0 [4] 2 [4, 100, 400] 578102 _ (by kernel_rfl)).mono ?_; rintro e w4 ⟨v1, v3, rfl, hv, hvn, hb⟩; obtain ⟨A1, c1, rfl⟩ := Kd.R_slice hv; obtain ⟨A2, c2, rfl⟩ := Kd.R_slice hvn; have hq := Kd.R_reads' hv; have hqn := Kd.R_reads' hvn; (try clear HC1 HL1 HC2 HL2); replace HB := zW HB hb; have HC1 := Aside0.mk hq.2.2; have HL1 := Aside0.mk hq.2.1; have HC2 := Aside0.mk hqn.2.2; have HL2 := Aside0.mk hqn.2.1; clear hv hq hvn hqn; clear hb)
    | (go_at_call 33; refine (kn_On A1 c1 A2 c2 _ HC1.out HL1.out HC2.out HL2.out).mono ?_; rintro e w5 ⟨rfl, hb⟩; clear HC1 HL1 HC2 HL2; replace HB := zW HB hb; clear hb)
    | ((with_reducible refine zG 3 rfl ?_); refine zBox 3 #[.int .i64 0, .int .i64 0, .int .i64 0] 38 ?_; intro g3 hg w6 hbox hb; have GEg3 := zge hg HB; replace HB := zW HB hb; have BKg3 := Aside0.mk hbox; clear hb hbox hg; have z6_g30 := zC BKg3)
    | ((with_reducible refine zH 38 3 rfl ?_); refine zSto 38 3 #[.int .i64 1582, .int .i64 10, .int .i64 15] BKg3 ?_; intro w7 hw; replace HB := zWS hw GEg3 HB; replace BKg3 := znew hw BKg3; clear hw; (try clear z6_g30); have z7_g30 := zC BKg3))
  go_upto_region 4 with (first
    | (go_at_call 31; refine (tellurionlaw06_N.calls 2 [4, 100, 400] _ (by kernel_rfl)).mono ?_; rintro e w8 ⟨v1, rfl, hv, hb⟩; obtain ⟨A1, c1, rfl⟩ := Kd.R_slice hv; have hq := Kd.R_reads' hv; (try clear HC1 HL1); replace HB := zW HB hb; replace BKg3 := zb BKg3 hb; have HC1 := Aside0.mk hq.2.2; have HL1 := Aside0.mk hq.2.1; clear hv hq; clear hb; (try clear z7_g30); have z8_g30 := zC BKg3)
    | (go_at_call 12; refine (kn_Letters A1 c1 _ HC1.out HL1.out).mono ?_; rintro e w9 ⟨rfl, hb⟩; clear HC1 HL1; replace HB := zW HB hb; replace BKg3 := zb BKg3 hb; clear hb; (try clear z8_g30); have z9_g30 := zC BKg3))
  go_upto_region 5 with (first
    | (go_at_call 31; refine (tellurionlaw06_N.calls 2 [4, 100, 400] _ (by kernel_rfl)).mono ?_; rintro e wa ⟨v1, rfl, hv, hb⟩; obtain ⟨A1, c1, rfl⟩ := Kd.R_slice hv; have hq := Kd.R_reads' hv; (try clear HC1 HL1); replace HB := zW HB hb; replace BKg3 := zb BKg3 hb; have HC1 := Aside0.mk hq.2.2; have HL1 := Aside0.mk hq.2.1; clear hv hq; clear hb; (try clear z9_g30); have z10_g30 := zC BKg3)
    | (go_at_call 13; refine (kn_Like A1 c1 _ HC1.out HL1.out).mono ?_; rintro e wb ⟨rfl, hb⟩; clear HC1 HL1; replace HB := zW HB hb; replace BKg3 := zb BKg3 hb; clear hb; (try clear z10_g30); have z11_g30 := zC BKg3))
  go_upto_region 6 with (first
    | (go_at_call 36; refine (tellurionlaw06_S.calls 2 [4, 100, 400] 0 [4] 578103 _ (by kernel_rfl)).mono ?_; rintro e wc ⟨v1, v3, rfl, hv, hvn, hb⟩; obtain ⟨A1, c1, rfl⟩ := Kd.R_slice hv; obtain ⟨A2, c2, rfl⟩ := Kd.R_slice hvn; have hq := Kd.R_reads' hv; have hqn := Kd.R_reads' hvn; (try clear HC1 HL1 HC2 HL2); replace HB := zW HB hb; replace BKg3 := zb BKg3 hb; have HC1 := Aside0.mk hq.2.2; have HL1 := Aside0.mk hq.2.1; have HC2 := Aside0.mk hqn.2.2; have HL2 := Aside0.mk hqn.2.1; clear hv hq hvn hqn; clear hb; (try clear z11_g30); have z12_g30 := zC BKg3)
    | (go_at_call 32; refine (tellurionlaw06_date.calls 10 10 1582 _ _ _ _ rfl).mono ?_; rintro e wd ⟨rfl, hb⟩; replace HB := zW HB hb; replace BKg3 := zb BKg3 hb; replace HC1 := zc HC1 hb; replace HC2 := zc HC2 hb; clear hb; (try clear z12_g30); have z13_g30 := zC BKg3)
    | (go_at_call 35; refine (kn_Days A1 c1 A2 c2 _ HC1.out HL1.out HC2.out HL2.out).mono ?_; rintro e we ⟨vl, rfl, hv, hb⟩; clear HC1 HL1 HC2 HL2; replace HB := zW HB hb; replace BKg3 := zb BKg3 hb; obtain ⟨Al, cl, rfl⟩ := Kd.R_slice hv; have HOl := Aside0.mk hv; clear hv; clear hb; (try clear z13_g30); have z14_g30 := zC BKg3))
  go_upto_region 7 with (first
    | (go_at_call 38; refine (tellurionlaw06_O.calls 0 [4] _ (by kernel_rfl)).mono ?_; rintro e wf ⟨v1, rfl, hv, hb⟩; obtain ⟨A1, c1, rfl⟩ := Kd.R_slice hv; have hq := Kd.R_reads' hv; (try clear HC1 HL1); replace HB := zW HB hb; replace BKg3 := zb BKg3 hb; replace HOl := zr HOl hb; have HC1 := Aside0.mk hq.2.2; have HL1 := Aside0.mk hq.2.1; clear hv hq; clear hb; (try clear z14_g30); have z15_g30 := zC BKg3)
    | (go_at_call 39; refine (tellurionlaw06_M.calls 59 2 0 _ rfl).mono ?_; rintro e wg ⟨rfl, hb⟩; replace HB := zW HB hb; replace BKg3 := zb BKg3 hb; replace HOl := zr HOl hb; replace HC1 := zc HC1 hb; clear hb; (try clear z15_g30); have z16_g30 := zC BKg3)
    | (go_at_call 37; refine (kn_Easter A1 c1 _ HC1.out HL1.out).mono ?_; rintro e wh ⟨rfl, hb⟩; clear HC1 HL1; replace HB := zW HB hb; replace BKg3 := zb BKg3 hb; replace HOl := zr HOl hb; clear hb; (try clear z16_g30); have z17_g30 := zC BKg3)
    | ((with_reducible refine zG 12 rfl ?_); refine zBox 12 #[.int .i64 0, .int .i64 0, .int .i64 0] 38 ?_; intro g12 hg wi hbox hb; have GEg12 := zge hg HB; have NEg3_g12 := zne hg BKg3; replace HB := zW HB hb; replace BKg3 := zb BKg3 hb; replace HOl := zr HOl hb; have BKg12 := Aside0.mk hbox; clear hb hbox hg; (try clear z17_g30); have z18_g30 := zC BKg3; have z18_g120 := zC BKg12)
    | ((with_reducible refine zH 38 12 rfl ?_); refine zSto 38 12 #[.int .i64 0, .int .i64 4, .int .i64 18] BKg12 ?_; intro wj hw; replace HB := zWS hw GEg12 HB; replace BKg3 := zfar hw (by first | exact NEg3_g12.out | exact NEg12_g3.out.symm) BKg3; replace HOl := Aside0.mk (R_setRow' hw (by first | decide | (intro q hq; simp [askKd, kQ] at hq; omega)) BKg12.out HOl.out); replace BKg12 := znew hw BKg12; clear hw; (try clear z18_g30 z18_g120); have z19_g30 := zC BKg3; have z19_g120 := zC BKg12))
  go_upto_region 8 with (first
    | (go_at_call 41; refine (tellurionlaw06_T.calls 0 [4] 0 [4] 0 _ (by kernel_rfl)).mono ?_; rintro e wk ⟨v1, v3, rfl, hv, hvn, hb⟩; obtain ⟨A1, c1, rfl⟩ := Kd.R_slice hv; obtain ⟨A2, c2, rfl⟩ := Kd.R_slice hvn; have hq := Kd.R_reads' hv; have hqn := Kd.R_reads' hvn; (try clear HC1 HL1 HC2 HL2); replace HB := zW HB hb; replace BKg3 := zb BKg3 hb; replace HOl := zr HOl hb; replace BKg12 := zb BKg12 hb; have HC1 := Aside0.mk hq.2.2; have HL1 := Aside0.mk hq.2.1; have HC2 := Aside0.mk hqn.2.2; have HL2 := Aside0.mk hqn.2.1; clear hv hq hvn hqn; clear hb; (try clear z19_g30 z19_g120); have z20_g30 := zC BKg3; have z20_g120 := zC BKg12)
    | (go_at_call 40; refine (kn_Keep A1 c1 A2 c2 _ HC1.out HL1.out HC2.out HL2.out).mono ?_; rintro e wl ⟨vs, rfl, hv, hb⟩; clear HC1 HL1 HC2 HL2; replace HB := zW HB hb; replace BKg3 := zb BKg3 hb; replace HOl := zr HOl hb; replace BKg12 := zb BKg12 hb; obtain ⟨As, cs, rfl⟩ := Kd.R_slice hv; have HOs := Aside0.mk hv; clear hv; clear hb; (try clear z20_g30 z20_g120); have z21_g30 := zC BKg3; have z21_g120 := zC BKg12))
  go_upto_region 9 with (first
    | ((with_reducible refine zG 17 rfl ?_); refine zBox 17 #[.int .i64 0, .int .i64 0, .int .i64 0, .int .i64 0] 74 ?_; intro g17 hg wm hbox hb; have GEg17 := zge hg HB; have NEg3_g17 := zne hg BKg3; have NEg12_g17 := zne hg BKg12; replace HB := zW HB hb; replace BKg3 := zb BKg3 hb; replace HOl := zr HOl hb; replace BKg12 := zb BKg12 hb; replace HOs := zr HOs hb; have BKg17 := Aside0.mk hbox; clear hb hbox hg; (try clear z21_g30 z21_g120); have z22_g30 := zC BKg3; have z22_g120 := zC BKg12; have z22_g170 := zC BKg17)
    | ((with_reducible refine zH 74 17 rfl ?_); refine zSto 74 17 #[.int .i64 5, .int .i64 0, .int .i64 0, .int .i64 366] BKg17 ?_; intro wn hw; replace HB := zWS hw GEg17 HB; replace BKg3 := zfar hw (by first | exact NEg3_g17.out | exact NEg17_g3.out.symm) BKg3; replace HOl := Aside0.mk (R_setRow' hw (by first | decide | (intro q hq; simp [askKd, kQ] at hq; omega)) BKg17.out HOl.out); replace BKg12 := zfar hw (by first | exact NEg12_g17.out | exact NEg17_g12.out.symm) BKg12; replace HOs := Aside0.mk (R_setRow' hw (by first | decide | (intro q hq; simp [askKd, kQ] at hq; omega)) BKg17.out HOs.out); replace BKg17 := znew hw BKg17; clear hw; (try clear z22_g30 z22_g120 z22_g170); have z23_g30 := zC BKg3; have z23_g120 := zC BKg12; have z23_g170 := zC BKg17))
  replace HB := zWD HB
  replace BKg3 := zbD BKg3
  replace HOl := zrD HOl
  replace BKg12 := zbD BKg12
  replace HOs := zrD HOs
  replace BKg17 := zbD BKg17
  refine zStart 11 (fun w' => zCells w' g17 0 [.int .i64 5, .int .i64 0, .int .i64 0, .int .i64 366]) #[false, false, false, false, false, false, false, false, false, false, false] Kn9.tab Kn9.bits (zS BKg17) (fun hHeld HT_ HW_ => ?_)
  generalize wn.drew = y0 at HB BKg3 HOl BKg12 HOs BKg17 hHeld ⊢
  refine zT 2 (some 69) HT_ HW_ hHeld ?_
  refine zP 3 (some 70) HT_ ?_
  refine join_ (σ := Option Addr × Nat × Nat) 6 #[true, true, true, true, true, false, false, false, false, false, false] (fun s => [(67, .agg #[.int .i64 0, .slice s.1 1 s.2.1]), (68, .agg #[.int .i64 59, .int .i64 2, .int .i64 0]), (71, .slice (some ⟨s.2.2, 0, none⟩) 2 2)]) (fun s w' => Below w.heap.size w w' ∧ w'.heap[g3]? = some (.cells #[.int .i64 1582, .int .i64 10, .int .i64 15] 38 (0, 0)) ∧ Kd.R (Kd.int .i64) 3 w' wd.heap.size (fun _ => True) (.slice Al 2 cl) [578098, 578108] ∧ w'.heap[g12]? = some (.cells #[.int .i64 0, .int .i64 4, .int .i64 18] 38 (0, 0)) ∧ Kd.R (Kd.int .i64) 3 w' wk.heap.size (fun _ => True) (.slice As 1 cs) [430] ∧ w'.heap[g17]? = some (.cells #[.int .i64 5, .int .i64 0, .int .i64 0, .int .i64 366] 74 (0, 0)) ∧ Kd.C (Kd.int .i64) w' s.1 1 [4] ∧ 1 ≤ s.2.1 ∧ w'.heap[s.2.2]? = some (.cells #[.int .i64 5, .int .i64 0, .int .i64 0, .int .i64 366, .int .i64 1, .int .i64 1, .int .i64 1, .int .i64 4] 74 (0, 0))) ?_ ?_
  rotate_left
  · intro hCont
    refine two_ (i := 0) (j := 4) (Ni := some 67) (Nj := some 71) #[true, false, true, true, false, false, false, false, false, false, false] #[false, false, true, true, true, false, false, false, false, false, false] rfl rfl rfl rfl (two_of HT_.out (by kernel_rfl)) (by decide) (by decide) (fun K hK => ?_) (fun K hK => ?_)
    · refine goes_ Tryz.func38 (by kernel_rfl) rfl #[] (by rfl) rfl rfl (by (try simp only [List.map_toArray, List.map_cons, List.map_nil]); first | done | rfl) ?_
      refine (tellurionlaw06_O.calls 0 [4] _ (by kernel_rfl)).mono ?_
      rintro e x1 ⟨v1, rfl, hv, hb⟩
      obtain ⟨AO, cO, rfl⟩ := Kd.R_slice hv
      have hq := Kd.R_reads' hv
      refine ⟨_, rfl, ?_⟩
      replace HB := zW HB hb
      replace BKg3 := zb BKg3 hb
      replace HOl := zr HOl hb
      replace BKg12 := zb BKg12 hb
      replace HOs := zr HOs hb
      replace BKg17 := zb BKg17 hb
      have HCO := Aside0.mk hq.2.2
      have HLO := Aside0.mk hq.2.1
      clear hb hv hq hHeld
      refine hK.out _ _ (zS BKg17) (fun hHeld => ?_)
      clear hK K
      refine zN ?_
      refine two_ (i := 1) (j := 4) (Ni := some 68) (Nj := some 71) #[true, true, true, true, false, false, false, false, false, false, false] #[true, false, true, true, true, false, false, false, false, false, false] rfl rfl rfl rfl (two_of HT_.out (by kernel_rfl)) (by decide) (by decide) (fun K hK => ?_) (fun K hK => ?_)
      · refine goes_ Tryz.func39 (by kernel_rfl) rfl #[] (by rfl) rfl rfl (by (try simp only [List.map_toArray, List.map_cons, List.map_nil]); first | done | rfl) ?_
        refine (tellurionlaw06_M.calls 59 2 0 _ rfl).mono ?_
        rintro e x3 ⟨rfl, hb⟩
        refine ⟨_, rfl, ?_⟩
        replace HB := zW HB hb
        replace BKg3 := zb BKg3 hb
        replace HOl := zr HOl hb
        replace BKg12 := zb BKg12 hb
        replace HOs := zr HOs hb
        replace BKg17 := zb BKg17 hb
        replace HCO := zc HCO hb
        clear hb hHeld
        refine hK.out _ _ (zS BKg17) (fun hHeld => ?_)
        clear hK K
        refine zN ?_
        refine one_ (i := 4) (N := some 71) #[true, true, true, true, true, false, false, false, false, false, false] rfl rfl (one_of HT_.out (by kernel_rfl)) (by decide) (fun K hK => ?_)
        refine lit_step (cs := #[.int .i64 5, .int .i64 0, .int .i64 0, .int .i64 366, .int .i64 1, .int .i64 1, .int .i64 1, .int .i64 4]) (t := 74) (n := 2) (by rfl) rfl ?hrun ?_
        case hrun => first | (go_simp; done) | (go_simp; rfl)
        intro gY x5 hg hb
        replace HB := zW HB hb
        replace BKg3 := zb BKg3 hb
        replace HOl := zr HOl hb
        replace BKg12 := zb BKg12 hb
        replace HOs := zr HOs hb
        replace BKg17 := zb BKg17 hb
        replace HCO := zc HCO hb
        have BKgY := Aside0.mk hg
        clear hb hg hHeld
        refine hK.out _ _ (zS BKg17) (fun hHeld => ?_)
        clear hK K
        refine zN ?_
        exact norm_ (by first | (simp only [putAll, Act.put, List.setIfInBounds_toArray, List.set_cons_zero, List.set_cons_succ]; done) | (simp only [putAll, Act.put, List.setIfInBounds_toArray, List.set_cons_zero, List.set_cons_succ]; rfl)) (hCont (AO, cO, gY) _ ⟨HB.out, BKg3.out, HOl.out, BKg12.out, HOs.out, BKg17.out, HCO.out, HLO.out, BKgY.out⟩)
      · refine lit_step (cs := #[.int .i64 5, .int .i64 0, .int .i64 0, .int .i64 366, .int .i64 1, .int .i64 1, .int .i64 1, .int .i64 4]) (t := 74) (n := 2) (by rfl) rfl ?hrun ?_
        case hrun => first | (go_simp; done) | (go_simp; rfl)
        intro gY x4 hg hb
        replace HB := zW HB hb
        replace BKg3 := zb BKg3 hb
        replace HOl := zr HOl hb
        replace BKg12 := zb BKg12 hb
        replace HOs := zr HOs hb
        replace BKg17 := zb BKg17 hb
        replace HCO := zc HCO hb
        have BKgY := Aside0.mk hg
        clear hb hg hHeld
        refine hK.out _ _ (zS BKg17) (fun hHeld => ?_)
        clear hK K
        refine zN ?_
        refine zGo 1 (some 68) HT_ Tryz.func39 #[] ?_
        refine (tellurionlaw06_M.calls 59 2 0 _ rfl).mono ?_
        rintro e x6 ⟨rfl, hb⟩
        replace HB := zW HB hb
        replace BKg3 := zb BKg3 hb
        replace HOl := zr HOl hb
        replace BKg12 := zb BKg12 hb
        replace HOs := zr HOs hb
        replace BKg17 := zb BKg17 hb
        replace HCO := zc HCO hb
        replace BKgY := zb BKgY hb
        clear hb hHeld
        refine zV (zS BKg17) (fun hHeld => ?_)
        exact norm_ (by first | (simp only [putAll, Act.put, List.setIfInBounds_toArray, List.set_cons_zero, List.set_cons_succ]; done) | (simp only [putAll, Act.put, List.setIfInBounds_toArray, List.set_cons_zero, List.set_cons_succ]; rfl)) (hCont (AO, cO, gY) _ ⟨HB.out, BKg3.out, HOl.out, BKg12.out, HOs.out, BKg17.out, HCO.out, HLO.out, BKgY.out⟩)
    · refine lit_step (cs := #[.int .i64 5, .int .i64 0, .int .i64 0, .int .i64 366, .int .i64 1, .int .i64 1, .int .i64 1, .int .i64 4]) (t := 74) (n := 2) (by rfl) rfl ?hrun ?_
      case hrun => first | (go_simp; done) | (go_simp; rfl)
      intro gY x2 hg hb
      replace HB := zW HB hb
      replace BKg3 := zb BKg3 hb
      replace HOl := zr HOl hb
      replace BKg12 := zb BKg12 hb
      replace HOs := zr HOs hb
      replace BKg17 := zb BKg17 hb
      have BKgY := Aside0.mk hg
      clear hb hg hHeld
      refine hK.out _ _ (zS BKg17) (fun hHeld => ?_)
      clear hK K
      refine zN ?_
      refine zGo 0 (some 67) HT_ Tryz.func38 #[] ?_
      refine (tellurionlaw06_O.calls 0 [4] _ (by kernel_rfl)).mono ?_
      rintro e x7 ⟨v1, rfl, hv, hb⟩
      obtain ⟨AO, cO, rfl⟩ := Kd.R_slice hv
      have hq := Kd.R_reads' hv
      replace HB := zW HB hb
      replace BKg3 := zb BKg3 hb
      replace HOl := zr HOl hb
      replace BKg12 := zb BKg12 hb
      replace HOs := zr HOs hb
      replace BKg17 := zb BKg17 hb
      replace BKgY := zb BKgY hb
      have HCO := Aside0.mk hq.2.2
      have HLO := Aside0.mk hq.2.1
      clear hb hv hq hHeld
      refine zV (zS BKg17) (fun hHeld => ?_)
      refine zGo 1 (some 68) HT_ Tryz.func39 #[] ?_
      refine (tellurionlaw06_M.calls 59 2 0 _ rfl).mono ?_
      rintro e x8 ⟨rfl, hb⟩
      replace HB := zW HB hb
      replace BKg3 := zb BKg3 hb
      replace HOl := zr HOl hb
      replace BKg12 := zb BKg12 hb
      replace HOs := zr HOs hb
      replace BKg17 := zb BKg17 hb
      replace BKgY := zb BKgY hb
      replace HCO := zc HCO hb
      clear hb hHeld
      refine zV (zS BKg17) (fun hHeld => ?_)
      exact norm_ (by first | (simp only [putAll, Act.put, List.setIfInBounds_toArray, List.set_cons_zero, List.set_cons_succ]; done) | (simp only [putAll, Act.put, List.setIfInBounds_toArray, List.set_cons_zero, List.set_cons_succ]; rfl)) (hCont (AO, cO, gY) _ ⟨HB.out, BKg3.out, HOl.out, BKg12.out, HOs.out, BKg17.out, HCO.out, HLO.out, BKgY.out⟩)
  rintro ⟨AO, cO, gY⟩ wj ⟨hB_, h_BKg3, h_HOl, h_BKg12, h_HOs, h_BKg17, h_c, h_l, h_gY⟩
  clear HB BKg3 HOl BKg12 HOs BKg17
  have HB := Aside0.mk hB_
  have BKg3 := Aside0.mk h_BKg3
  have HOl := Aside0.mk h_HOl
  have BKg12 := Aside0.mk h_BKg12
  have HOs := Aside0.mk h_HOs
  have BKg17 := Aside0.mk h_BKg17
  have HCO := Aside0.mk h_c
  have HLO := Aside0.mk h_l
  have BKgY := Aside0.mk h_gY
  clear hB_ h_BKg3 h_HOl h_BKg12 h_HOs h_BKg17 h_c h_l h_gY
  refine norm_ (a' := ?_) ?_ ?_
  rotate_left
  · simp only [putAll, Act.put, List.setIfInBounds_toArray, List.set_cons_zero, List.set_cons_succ]
    rfl
  have hHeld : True := trivial
  refine one_ (i := 5) (N := some 72) #[true, true, true, true, true, true, false, false, false, false, false] rfl rfl (one_of HT_.out (by kernel_rfl)) (by decide) (fun K hK => ?_)
  have hsz := HB.out.size
  refine goes_ Tryz.func42 (by kernel_rfl) rfl #[.agg #[.int .i64 0, .slice AO 1 cO], .agg #[.int .i64 59, .int .i64 2, .int .i64 0], .slice (some ⟨gY, 0, none⟩) 2 2, .int .i64 0, .int .i64 60] (by rfl) rfl rfl (by (try simp only [List.map_toArray, List.map_cons, List.map_nil]); first | done | rfl) ?_
  refine (kn_Years AO cO (some ⟨gY, 0, none⟩) _ HCO.out HLO.out (cF_2 ⟨5, 0, 0, 366⟩ ⟨1, 1, 1, 4⟩ BKgY.out)).mono ?_
  rintro e wq9 ⟨vu, rfl, hv, hb⟩
  refine ⟨_, rfl, ?_⟩
  replace HB := zW HB hb
  replace BKg3 := zb BKg3 hb
  replace HOl := zr HOl hb
  replace BKg12 := zb BKg12 hb
  replace HOs := zr HOs hb
  replace BKg17 := zb BKg17 hb
  obtain ⟨Au, cu, rfl⟩ := Kd.R_slice hv
  have HOu := Aside0.mk (Kd.R_lower hv hsz)
  clear hv hsz
  clear hb hHeld HLO HCO BKgY
  refine hK.out _ _ (zS BKg17) (fun hHeld => ?_)
  clear hK K
  refine zN ?_
  refine zP 6 (some 66) HT_ ?_
  refine zP 7 (some 73) HT_ ?_
  refine zP 8 (some 74) HT_ ?_
  refine zP 9 (some 18) HT_ ?_
  refine zP 10 (some 19) HT_ ?_
  refine done_ (done_of HT_.out (by kernel_rfl)) ?_
  go_upto_region 10 with (fail)
  replace HB := zWD HB
  replace BKg3 := zbD BKg3
  replace HOl := zrD HOl
  replace BKg12 := zbD BKg12
  replace HOs := zrD HOs
  replace BKg17 := zbD BKg17
  replace HOu := zrD HOu
  refine zStart 15 (fun w' => zCells w' g17 0 [.int .i64 5, .int .i64 0, .int .i64 0, .int .i64 366]) #[false, false, false, false, false, false, false, false, false, false, false, false, false, false, false] Kn10.tab Kn10.bits (zS BKg17) (fun hHeld HT_ HW_ => ?_)
  generalize wq9.drew = y1 at HB BKg3 HOl BKg12 HOs BKg17 HOu hHeld ⊢
  refine zT 2 (some 78) HT_ HW_ hHeld ?_
  refine zP 4 (some 80) HT_ ?_
  refine zP 5 (some 81) HT_ ?_
  refine join_ (σ := Option Addr × Nat × Nat × Nat) 8 #[true, true, true, true, true, true, true, false, false, false, false, false, false, false, false] (fun s => [(76, .agg #[.int .i64 0, .slice s.1 1 s.2.1]), (77, .agg #[.int .i64 59, .int .i64 2, .int .i64 0]), (79, .slice (some ⟨s.2.2.1, 0, none⟩) 1 1), (82, .slice (some ⟨s.2.2.2, 0, none⟩) 2 2)]) (fun s w' => Below w.heap.size w w' ∧ w'.heap[g3]? = some (.cells #[.int .i64 1582, .int .i64 10, .int .i64 15] 38 (0, 0)) ∧ Kd.R (Kd.int .i64) 3 w' wd.heap.size (fun _ => True) (.slice Al 2 cl) [578098, 578108] ∧ w'.heap[g12]? = some (.cells #[.int .i64 0, .int .i64 4, .int .i64 18] 38 (0, 0)) ∧ Kd.R (Kd.int .i64) 3 w' wk.heap.size (fun _ => True) (.slice As 1 cs) [430] ∧ w'.heap[g17]? = some (.cells #[.int .i64 5, .int .i64 0, .int .i64 0, .int .i64 366] 74 (0, 0)) ∧ Kd.R (Kd.int .i64) 3 w' w.heap.size (fun _ => True) (.slice Au 3 cu) [0, 28, 56] ∧ Kd.C (Kd.int .i64) w' s.1 1 [4] ∧ 1 ≤ s.2.1 ∧ w'.heap[s.2.2.1]? = some (.cells #[.int .i64 5, .int .i64 0, .int .i64 0, .int .i64 366] 74 (0, 0)) ∧ w'.heap[s.2.2.2]? = some (.cells #[.int .i64 5, .int .i64 0, .int .i64 0, .int .i64 0, .int .i64 1, .int .i64 1, .int .i64 1, .int .i64 0] 74 (0, 0))) ?_ ?_
  rotate_left
  · intro hCont
    refine three_ (i := 0) (j := 3) (k := 6) (Ni := some 76) (Nj := some 79) (Nk := some 82) #[true, false, true, false, true, true, false, false, false, false, false, false, false, false, false] #[false, false, true, true, true, true, false, false, false, false, false, false, false, false, false] #[false, false, true, false, true, true, true, false, false, false, false, false, false, false, false] rfl rfl rfl rfl rfl rfl (three_of HT_.out (by kernel_rfl)) (by decide) (by decide) (by decide) (fun K hK => ?_) (fun K hK => ?_) (fun K hK => ?_)
    · refine goes_ Tryz.func38 (by kernel_rfl) rfl #[] (by rfl) rfl rfl (by (try simp only [List.map_toArray, List.map_cons, List.map_nil]); first | done | rfl) ?_
      refine (tellurionlaw06_O.calls 0 [4] _ (by kernel_rfl)).mono ?_
      rintro e x9 ⟨v1, rfl, hv, hb⟩
      obtain ⟨AO, cO, rfl⟩ := Kd.R_slice hv
      have hq := Kd.R_reads' hv
      refine ⟨_, rfl, ?_⟩
      replace HB := zW HB hb
      replace BKg3 := zb BKg3 hb
      replace HOl := zr HOl hb
      replace BKg12 := zb BKg12 hb
      replace HOs := zr HOs hb
      replace BKg17 := zb BKg17 hb
      replace HOu := zr HOu hb
      have HCO := Aside0.mk hq.2.2
      have HLO := Aside0.mk hq.2.1
      clear hb hv hq hHeld
      refine hK.out _ _ (zS BKg17) (fun hHeld => ?_)
      clear hK K
      refine zN ?_
      refine three_ (i := 1) (j := 3) (k := 6) (Ni := some 77) (Nj := some 79) (Nk := some 82) #[true, true, true, false, true, true, false, false, false, false, false, false, false, false, false] #[true, false, true, true, true, true, false, false, false, false, false, false, false, false, false] #[true, false, true, false, true, true, true, false, false, false, false, false, false, false, false] rfl rfl rfl rfl rfl rfl (three_of HT_.out (by kernel_rfl)) (by decide) (by decide) (by decide) (fun K hK => ?_) (fun K hK => ?_) (fun K hK => ?_)
      · refine goes_ Tryz.func39 (by kernel_rfl) rfl #[] (by rfl) rfl rfl (by (try simp only [List.map_toArray, List.map_cons, List.map_nil]); first | done | rfl) ?_
        refine (tellurionlaw06_M.calls 59 2 0 _ rfl).mono ?_
        rintro e x12 ⟨rfl, hb⟩
        refine ⟨_, rfl, ?_⟩
        replace HB := zW HB hb
        replace BKg3 := zb BKg3 hb
        replace HOl := zr HOl hb
        replace BKg12 := zb BKg12 hb
        replace HOs := zr HOs hb
        replace BKg17 := zb BKg17 hb
        replace HOu := zr HOu hb
        replace HCO := zc HCO hb
        clear hb hHeld
        refine hK.out _ _ (zS BKg17) (fun hHeld => ?_)
        clear hK K
        refine zN ?_
        refine two_ (i := 3) (j := 6) (Ni := some 79) (Nj := some 82) #[true, true, true, true, true, true, false, false, false, false, false, false, false, false, false] #[true, true, true, false, true, true, true, false, false, false, false, false, false, false, false] rfl rfl rfl rfl (two_of HT_.out (by kernel_rfl)) (by decide) (by decide) (fun K hK => ?_) (fun K hK => ?_)
        · refine lit_step (cs := #[.int .i64 5, .int .i64 0, .int .i64 0, .int .i64 366]) (t := 74) (n := 1) (by rfl) rfl ?hrun ?_
          case hrun => first | (go_simp; done) | (go_simp; rfl)
          intro gA x15 hg hb
          replace HB := zW HB hb
          replace BKg3 := zb BKg3 hb
          replace HOl := zr HOl hb
          replace BKg12 := zb BKg12 hb
          replace HOs := zr HOs hb
          replace BKg17 := zb BKg17 hb
          replace HOu := zr HOu hb
          replace HCO := zc HCO hb
          have BKgA := Aside0.mk hg
          clear hb hg hHeld
          refine hK.out _ _ (zS BKg17) (fun hHeld => ?_)
          clear hK K
          refine zN ?_
          refine one_ (i := 6) (N := some 82) #[true, true, true, true, true, true, true, false, false, false, false, false, false, false, false] rfl rfl (one_of HT_.out (by kernel_rfl)) (by decide) (fun K hK => ?_)
          refine lit_step (cs := #[.int .i64 5, .int .i64 0, .int .i64 0, .int .i64 0, .int .i64 1, .int .i64 1, .int .i64 1, .int .i64 0]) (t := 74) (n := 2) (by rfl) rfl ?hrun ?_
          case hrun => first | (go_simp; done) | (go_simp; rfl)
          intro gB x17 hg hb
          replace HB := zW HB hb
          replace BKg3 := zb BKg3 hb
          replace HOl := zr HOl hb
          replace BKg12 := zb BKg12 hb
          replace HOs := zr HOs hb
          replace BKg17 := zb BKg17 hb
          replace HOu := zr HOu hb
          replace HCO := zc HCO hb
          replace BKgA := zb BKgA hb
          have BKgB := Aside0.mk hg
          clear hb hg hHeld
          refine hK.out _ _ (zS BKg17) (fun hHeld => ?_)
          clear hK K
          refine zN ?_
          exact norm_ (by first | (simp only [putAll, Act.put, List.setIfInBounds_toArray, List.set_cons_zero, List.set_cons_succ]; done) | (simp only [putAll, Act.put, List.setIfInBounds_toArray, List.set_cons_zero, List.set_cons_succ]; rfl)) (hCont (AO, cO, gA, gB) _ ⟨HB.out, BKg3.out, HOl.out, BKg12.out, HOs.out, BKg17.out, HOu.out, HCO.out, HLO.out, BKgA.out, BKgB.out⟩)
        · refine lit_step (cs := #[.int .i64 5, .int .i64 0, .int .i64 0, .int .i64 0, .int .i64 1, .int .i64 1, .int .i64 1, .int .i64 0]) (t := 74) (n := 2) (by rfl) rfl ?hrun ?_
          case hrun => first | (go_simp; done) | (go_simp; rfl)
          intro gB x16 hg hb
          replace HB := zW HB hb
          replace BKg3 := zb BKg3 hb
          replace HOl := zr HOl hb
          replace BKg12 := zb BKg12 hb
          replace HOs := zr HOs hb
          replace BKg17 := zb BKg17 hb
          replace HOu := zr HOu hb
          replace HCO := zc HCO hb
          have BKgB := Aside0.mk hg
          clear hb hg hHeld
          refine hK.out _ _ (zS BKg17) (fun hHeld => ?_)
          clear hK K
          refine zN ?_
          refine one_ (i := 3) (N := some 79) #[true, true, true, true, true, true, true, false, false, false, false, false, false, false, false] rfl rfl (one_of HT_.out (by kernel_rfl)) (by decide) (fun K hK => ?_)
          refine lit_step (cs := #[.int .i64 5, .int .i64 0, .int .i64 0, .int .i64 366]) (t := 74) (n := 1) (by rfl) rfl ?hrun ?_
          case hrun => first | (go_simp; done) | (go_simp; rfl)
          intro gA x18 hg hb
          replace HB := zW HB hb
          replace BKg3 := zb BKg3 hb
          replace HOl := zr HOl hb
          replace BKg12 := zb BKg12 hb
          replace HOs := zr HOs hb
          replace BKg17 := zb BKg17 hb
          replace HOu := zr HOu hb
          replace HCO := zc HCO hb
          replace BKgB := zb BKgB hb
          have BKgA := Aside0.mk hg
          clear hb hg hHeld
          refine hK.out _ _ (zS BKg17) (fun hHeld => ?_)
          clear hK K
          refine zN ?_
          exact norm_ (by first | (simp only [putAll, Act.put, List.setIfInBounds_toArray, List.set_cons_zero, List.set_cons_succ]; done) | (simp only [putAll, Act.put, List.setIfInBounds_toArray, List.set_cons_zero, List.set_cons_succ]; rfl)) (hCont (AO, cO, gA, gB) _ ⟨HB.out, BKg3.out, HOl.out, BKg12.out, HOs.out, BKg17.out, HOu.out, HCO.out, HLO.out, BKgA.out, BKgB.out⟩)
      · refine lit_step (cs := #[.int .i64 5, .int .i64 0, .int .i64 0, .int .i64 366]) (t := 74) (n := 1) (by rfl) rfl ?hrun ?_
        case hrun => first | (go_simp; done) | (go_simp; rfl)
        intro gA x13 hg hb
        replace HB := zW HB hb
        replace BKg3 := zb BKg3 hb
        replace HOl := zr HOl hb
        replace BKg12 := zb BKg12 hb
        replace HOs := zr HOs hb
        replace BKg17 := zb BKg17 hb
        replace HOu := zr HOu hb
        replace HCO := zc HCO hb
        have BKgA := Aside0.mk hg
        clear hb hg hHeld
        refine hK.out _ _ (zS BKg17) (fun hHeld => ?_)
        clear hK K
        refine zN ?_
        refine two_ (i := 1) (j := 6) (Ni := some 77) (Nj := some 82) #[true, true, true, true, true, true, false, false, false, false, false, false, false, false, false] #[true, false, true, true, true, true, true, false, false, false, false, false, false, false, false] rfl rfl rfl rfl (two_of HT_.out (by kernel_rfl)) (by decide) (by decide) (fun K hK => ?_) (fun K hK => ?_)
        · refine goes_ Tryz.func39 (by kernel_rfl) rfl #[] (by rfl) rfl rfl (by (try simp only [List.map_toArray, List.map_cons, List.map_nil]); first | done | rfl) ?_
          refine (tellurionlaw06_M.calls 59 2 0 _ rfl).mono ?_
          rintro e x19 ⟨rfl, hb⟩
          refine ⟨_, rfl, ?_⟩
          replace HB := zW HB hb
          replace BKg3 := zb BKg3 hb
          replace HOl := zr HOl hb
          replace BKg12 := zb BKg12 hb
          replace HOs := zr HOs hb
          replace BKg17 := zb BKg17 hb
          replace HOu := zr HOu hb
          replace HCO := zc HCO hb
          replace BKgA := zb BKgA hb
          clear hb hHeld
          refine hK.out _ _ (zS BKg17) (fun hHeld => ?_)
          clear hK K
          refine zN ?_
          refine one_ (i := 6) (N := some 82) #[true, true, true, true, true, true, true, false, false, false, false, false, false, false, false] rfl rfl (one_of HT_.out (by kernel_rfl)) (by decide) (fun K hK => ?_)
          refine lit_step (cs := #[.int .i64 5, .int .i64 0, .int .i64 0, .int .i64 0, .int .i64 1, .int .i64 1, .int .i64 1, .int .i64 0]) (t := 74) (n := 2) (by rfl) rfl ?hrun ?_
          case hrun => first | (go_simp; done) | (go_simp; rfl)
          intro gB x21 hg hb
          replace HB := zW HB hb
          replace BKg3 := zb BKg3 hb
          replace HOl := zr HOl hb
          replace BKg12 := zb BKg12 hb
          replace HOs := zr HOs hb
          replace BKg17 := zb BKg17 hb
          replace HOu := zr HOu hb
          replace HCO := zc HCO hb
          replace BKgA := zb BKgA hb
          have BKgB := Aside0.mk hg
          clear hb hg hHeld
          refine hK.out _ _ (zS BKg17) (fun hHeld => ?_)
          clear hK K
          refine zN ?_
          exact norm_ (by first | (simp only [putAll, Act.put, List.setIfInBounds_toArray, List.set_cons_zero, List.set_cons_succ]; done) | (simp only [putAll, Act.put, List.setIfInBounds_toArray, List.set_cons_zero, List.set_cons_succ]; rfl)) (hCont (AO, cO, gA, gB) _ ⟨HB.out, BKg3.out, HOl.out, BKg12.out, HOs.out, BKg17.out, HOu.out, HCO.out, HLO.out, BKgA.out, BKgB.out⟩)
        · refine lit_step (cs := #[.int .i64 5, .int .i64 0, .int .i64 0, .int .i64 0, .int .i64 1, .int .i64 1, .int .i64 1, .int .i64 0]) (t := 74) (n := 2) (by rfl) rfl ?hrun ?_
          case hrun => first | (go_simp; done) | (go_simp; rfl)
          intro gB x20 hg hb
          replace HB := zW HB hb
          replace BKg3 := zb BKg3 hb
          replace HOl := zr HOl hb
          replace BKg12 := zb BKg12 hb
          replace HOs := zr HOs hb
          replace BKg17 := zb BKg17 hb
          replace HOu := zr HOu hb
          replace HCO := zc HCO hb
          replace BKgA := zb BKgA hb
          have BKgB := Aside0.mk hg
          clear hb hg hHeld
          refine hK.out _ _ (zS BKg17) (fun hHeld => ?_)
          clear hK K
          refine zN ?_
          refine zGo 1 (some 77) HT_ Tryz.func39 #[] ?_
          refine (tellurionlaw06_M.calls 59 2 0 _ rfl).mono ?_
          rintro e x22 ⟨rfl, hb⟩
          replace HB := zW HB hb
          replace BKg3 := zb BKg3 hb
          replace HOl := zr HOl hb
          replace BKg12 := zb BKg12 hb
          replace HOs := zr HOs hb
          replace BKg17 := zb BKg17 hb
          replace HOu := zr HOu hb
          replace HCO := zc HCO hb
          replace BKgA := zb BKgA hb
          replace BKgB := zb BKgB hb
          clear hb hHeld
          refine zV (zS BKg17) (fun hHeld => ?_)
          exact norm_ (by first | (simp only [putAll, Act.put, List.setIfInBounds_toArray, List.set_cons_zero, List.set_cons_succ]; done) | (simp only [putAll, Act.put, List.setIfInBounds_toArray, List.set_cons_zero, List.set_cons_succ]; rfl)) (hCont (AO, cO, gA, gB) _ ⟨HB.out, BKg3.out, HOl.out, BKg12.out, HOs.out, BKg17.out, HOu.out, HCO.out, HLO.out, BKgA.out, BKgB.out⟩)
      · refine lit_step (cs := #[.int .i64 5, .int .i64 0, .int .i64 0, .int .i64 0, .int .i64 1, .int .i64 1, .int .i64 1, .int .i64 0]) (t := 74) (n := 2) (by rfl) rfl ?hrun ?_
        case hrun => first | (go_simp; done) | (go_simp; rfl)
        intro gB x14 hg hb
        replace HB := zW HB hb
        replace BKg3 := zb BKg3 hb
        replace HOl := zr HOl hb
        replace BKg12 := zb BKg12 hb
        replace HOs := zr HOs hb
        replace BKg17 := zb BKg17 hb
        replace HOu := zr HOu hb
        replace HCO := zc HCO hb
        have BKgB := Aside0.mk hg
        clear hb hg hHeld
        refine hK.out _ _ (zS BKg17) (fun hHeld => ?_)
        clear hK K
        refine zN ?_
        refine two_ (i := 1) (j := 3) (Ni := some 77) (Nj := some 79) #[true, true, true, false, true, true, true, false, false, false, false, false, false, false, false] #[true, false, true, true, true, true, true, false, false, false, false, false, false, false, false] rfl rfl rfl rfl (two_of HT_.out (by kernel_rfl)) (by decide) (by decide) (fun K hK => ?_) (fun K hK => ?_)
        · refine goes_ Tryz.func39 (by kernel_rfl) rfl #[] (by rfl) rfl rfl (by (try simp only [List.map_toArray, List.map_cons, List.map_nil]); first | done | rfl) ?_
          refine (tellurionlaw06_M.calls 59 2 0 _ rfl).mono ?_
          rintro e x23 ⟨rfl, hb⟩
          refine ⟨_, rfl, ?_⟩
          replace HB := zW HB hb
          replace BKg3 := zb BKg3 hb
          replace HOl := zr HOl hb
          replace BKg12 := zb BKg12 hb
          replace HOs := zr HOs hb
          replace BKg17 := zb BKg17 hb
          replace HOu := zr HOu hb
          replace HCO := zc HCO hb
          replace BKgB := zb BKgB hb
          clear hb hHeld
          refine hK.out _ _ (zS BKg17) (fun hHeld => ?_)
          clear hK K
          refine zN ?_
          refine one_ (i := 3) (N := some 79) #[true, true, true, true, true, true, true, false, false, false, false, false, false, false, false] rfl rfl (one_of HT_.out (by kernel_rfl)) (by decide) (fun K hK => ?_)
          refine lit_step (cs := #[.int .i64 5, .int .i64 0, .int .i64 0, .int .i64 366]) (t := 74) (n := 1) (by rfl) rfl ?hrun ?_
          case hrun => first | (go_simp; done) | (go_simp; rfl)
          intro gA x25 hg hb
          replace HB := zW HB hb
          replace BKg3 := zb BKg3 hb
          replace HOl := zr HOl hb
          replace BKg12 := zb BKg12 hb
          replace HOs := zr HOs hb
          replace BKg17 := zb BKg17 hb
          replace HOu := zr HOu hb
          replace HCO := zc HCO hb
          replace BKgB := zb BKgB hb
          have BKgA := Aside0.mk hg
          clear hb hg hHeld
          refine hK.out _ _ (zS BKg17) (fun hHeld => ?_)
          clear hK K
          refine zN ?_
          exact norm_ (by first | (simp only [putAll, Act.put, List.setIfInBounds_toArray, List.set_cons_zero, List.set_cons_succ]; done) | (simp only [putAll, Act.put, List.setIfInBounds_toArray, List.set_cons_zero, List.set_cons_succ]; rfl)) (hCont (AO, cO, gA, gB) _ ⟨HB.out, BKg3.out, HOl.out, BKg12.out, HOs.out, BKg17.out, HOu.out, HCO.out, HLO.out, BKgA.out, BKgB.out⟩)
        · refine lit_step (cs := #[.int .i64 5, .int .i64 0, .int .i64 0, .int .i64 366]) (t := 74) (n := 1) (by rfl) rfl ?hrun ?_
          case hrun => first | (go_simp; done) | (go_simp; rfl)
          intro gA x24 hg hb
          replace HB := zW HB hb
          replace BKg3 := zb BKg3 hb
          replace HOl := zr HOl hb
          replace BKg12 := zb BKg12 hb
          replace HOs := zr HOs hb
          replace BKg17 := zb BKg17 hb
          replace HOu := zr HOu hb
          replace HCO := zc HCO hb
          replace BKgB := zb BKgB hb
          have BKgA := Aside0.mk hg
          clear hb hg hHeld
          refine hK.out _ _ (zS BKg17) (fun hHeld => ?_)
          clear hK K
          refine zN ?_
          refine zGo 1 (some 77) HT_ Tryz.func39 #[] ?_
          refine (tellurionlaw06_M.calls 59 2 0 _ rfl).mono ?_
          rintro e x26 ⟨rfl, hb⟩
          replace HB := zW HB hb
          replace BKg3 := zb BKg3 hb
          replace HOl := zr HOl hb
          replace BKg12 := zb BKg12 hb
          replace HOs := zr HOs hb
          replace BKg17 := zb BKg17 hb
          replace HOu := zr HOu hb
          replace HCO := zc HCO hb
          replace BKgB := zb BKgB hb
          replace BKgA := zb BKgA hb
          clear hb hHeld
          refine zV (zS BKg17) (fun hHeld => ?_)
          exact norm_ (by first | (simp only [putAll, Act.put, List.setIfInBounds_toArray, List.set_cons_zero, List.set_cons_succ]; done) | (simp only [putAll, Act.put, List.setIfInBounds_toArray, List.set_cons_zero, List.set_cons_succ]; rfl)) (hCont (AO, cO, gA, gB) _ ⟨HB.out, BKg3.out, HOl.out, BKg12.out, HOs.out, BKg17.out, HOu.out, HCO.out, HLO.out, BKgA.out, BKgB.out⟩)
    · refine lit_step (cs := #[.int .i64 5, .int .i64 0, .int .i64 0, .int .i64 366]) (t := 74) (n := 1) (by rfl) rfl ?hrun ?_
      case hrun => first | (go_simp; done) | (go_simp; rfl)
      intro gA x10 hg hb
      replace HB := zW HB hb
      replace BKg3 := zb BKg3 hb
      replace HOl := zr HOl hb
      replace BKg12 := zb BKg12 hb
      replace HOs := zr HOs hb
      replace BKg17 := zb BKg17 hb
      replace HOu := zr HOu hb
      have BKgA := Aside0.mk hg
      clear hb hg hHeld
      refine hK.out _ _ (zS BKg17) (fun hHeld => ?_)
      clear hK K
      refine zN ?_
      refine two_ (i := 0) (j := 6) (Ni := some 76) (Nj := some 82) #[true, false, true, true, true, true, false, false, false, false, false, false, false, false, false] #[false, false, true, true, true, true, true, false, false, false, false, false, false, false, false] rfl rfl rfl rfl (two_of HT_.out (by kernel_rfl)) (by decide) (by decide) (fun K hK => ?_) (fun K hK => ?_)
      · refine goes_ Tryz.func38 (by kernel_rfl) rfl #[] (by rfl) rfl rfl (by (try simp only [List.map_toArray, List.map_cons, List.map_nil]); first | done | rfl) ?_
        refine (tellurionlaw06_O.calls 0 [4] _ (by kernel_rfl)).mono ?_
        rintro e x27 ⟨v1, rfl, hv, hb⟩
        obtain ⟨AO, cO, rfl⟩ := Kd.R_slice hv
        have hq := Kd.R_reads' hv
        refine ⟨_, rfl, ?_⟩
        replace HB := zW HB hb
        replace BKg3 := zb BKg3 hb
        replace HOl := zr HOl hb
        replace BKg12 := zb BKg12 hb
        replace HOs := zr HOs hb
        replace BKg17 := zb BKg17 hb
        replace HOu := zr HOu hb
        replace BKgA := zb BKgA hb
        have HCO := Aside0.mk hq.2.2
        have HLO := Aside0.mk hq.2.1
        clear hb hv hq hHeld
        refine hK.out _ _ (zS BKg17) (fun hHeld => ?_)
        clear hK K
        refine zN ?_
        refine two_ (i := 1) (j := 6) (Ni := some 77) (Nj := some 82) #[true, true, true, true, true, true, false, false, false, false, false, false, false, false, false] #[true, false, true, true, true, true, true, false, false, false, false, false, false, false, false] rfl rfl rfl rfl (two_of HT_.out (by kernel_rfl)) (by decide) (by decide) (fun K hK => ?_) (fun K hK => ?_)
        · refine goes_ Tryz.func39 (by kernel_rfl) rfl #[] (by rfl) rfl rfl (by (try simp only [List.map_toArray, List.map_cons, List.map_nil]); first | done | rfl) ?_
          refine (tellurionlaw06_M.calls 59 2 0 _ rfl).mono ?_
          rintro e x29 ⟨rfl, hb⟩
          refine ⟨_, rfl, ?_⟩
          replace HB := zW HB hb
          replace BKg3 := zb BKg3 hb
          replace HOl := zr HOl hb
          replace BKg12 := zb BKg12 hb
          replace HOs := zr HOs hb
          replace BKg17 := zb BKg17 hb
          replace HOu := zr HOu hb
          replace BKgA := zb BKgA hb
          replace HCO := zc HCO hb
          clear hb hHeld
          refine hK.out _ _ (zS BKg17) (fun hHeld => ?_)
          clear hK K
          refine zN ?_
          refine one_ (i := 6) (N := some 82) #[true, true, true, true, true, true, true, false, false, false, false, false, false, false, false] rfl rfl (one_of HT_.out (by kernel_rfl)) (by decide) (fun K hK => ?_)
          refine lit_step (cs := #[.int .i64 5, .int .i64 0, .int .i64 0, .int .i64 0, .int .i64 1, .int .i64 1, .int .i64 1, .int .i64 0]) (t := 74) (n := 2) (by rfl) rfl ?hrun ?_
          case hrun => first | (go_simp; done) | (go_simp; rfl)
          intro gB x31 hg hb
          replace HB := zW HB hb
          replace BKg3 := zb BKg3 hb
          replace HOl := zr HOl hb
          replace BKg12 := zb BKg12 hb
          replace HOs := zr HOs hb
          replace BKg17 := zb BKg17 hb
          replace HOu := zr HOu hb
          replace BKgA := zb BKgA hb
          replace HCO := zc HCO hb
          have BKgB := Aside0.mk hg
          clear hb hg hHeld
          refine hK.out _ _ (zS BKg17) (fun hHeld => ?_)
          clear hK K
          refine zN ?_
          exact norm_ (by first | (simp only [putAll, Act.put, List.setIfInBounds_toArray, List.set_cons_zero, List.set_cons_succ]; done) | (simp only [putAll, Act.put, List.setIfInBounds_toArray, List.set_cons_zero, List.set_cons_succ]; rfl)) (hCont (AO, cO, gA, gB) _ ⟨HB.out, BKg3.out, HOl.out, BKg12.out, HOs.out, BKg17.out, HOu.out, HCO.out, HLO.out, BKgA.out, BKgB.out⟩)
        · refine lit_step (cs := #[.int .i64 5, .int .i64 0, .int .i64 0, .int .i64 0, .int .i64 1, .int .i64 1, .int .i64 1, .int .i64 0]) (t := 74) (n := 2) (by rfl) rfl ?hrun ?_
          case hrun => first | (go_simp; done) | (go_simp; rfl)
          intro gB x30 hg hb
          replace HB := zW HB hb
          replace BKg3 := zb BKg3 hb
          replace HOl := zr HOl hb
          replace BKg12 := zb BKg12 hb
          replace HOs := zr HOs hb
          replace BKg17 := zb BKg17 hb
          replace HOu := zr HOu hb
          replace BKgA := zb BKgA hb
          replace HCO := zc HCO hb
          have BKgB := Aside0.mk hg
          clear hb hg hHeld
          refine hK.out _ _ (zS BKg17) (fun hHeld => ?_)
          clear hK K
          refine zN ?_
          refine zGo 1 (some 77) HT_ Tryz.func39 #[] ?_
          refine (tellurionlaw06_M.calls 59 2 0 _ rfl).mono ?_
          rintro e x32 ⟨rfl, hb⟩
          replace HB := zW HB hb
          replace BKg3 := zb BKg3 hb
          replace HOl := zr HOl hb
          replace BKg12 := zb BKg12 hb
          replace HOs := zr HOs hb
          replace BKg17 := zb BKg17 hb
          replace HOu := zr HOu hb
          replace BKgA := zb BKgA hb
          replace HCO := zc HCO hb
          replace BKgB := zb BKgB hb
          clear hb hHeld
          refine zV (zS BKg17) (fun hHeld => ?_)
          exact norm_ (by first | (simp only [putAll, Act.put, List.setIfInBounds_toArray, List.set_cons_zero, List.set_cons_succ]; done) | (simp only [putAll, Act.put, List.setIfInBounds_toArray, List.set_cons_zero, List.set_cons_succ]; rfl)) (hCont (AO, cO, gA, gB) _ ⟨HB.out, BKg3.out, HOl.out, BKg12.out, HOs.out, BKg17.out, HOu.out, HCO.out, HLO.out, BKgA.out, BKgB.out⟩)
      · refine lit_step (cs := #[.int .i64 5, .int .i64 0, .int .i64 0, .int .i64 0, .int .i64 1, .int .i64 1, .int .i64 1, .int .i64 0]) (t := 74) (n := 2) (by rfl) rfl ?hrun ?_
        case hrun => first | (go_simp; done) | (go_simp; rfl)
        intro gB x28 hg hb
        replace HB := zW HB hb
        replace BKg3 := zb BKg3 hb
        replace HOl := zr HOl hb
        replace BKg12 := zb BKg12 hb
        replace HOs := zr HOs hb
        replace BKg17 := zb BKg17 hb
        replace HOu := zr HOu hb
        replace BKgA := zb BKgA hb
        have BKgB := Aside0.mk hg
        clear hb hg hHeld
        refine hK.out _ _ (zS BKg17) (fun hHeld => ?_)
        clear hK K
        refine zN ?_
        refine zGo 0 (some 76) HT_ Tryz.func38 #[] ?_
        refine (tellurionlaw06_O.calls 0 [4] _ (by kernel_rfl)).mono ?_
        rintro e x33 ⟨v1, rfl, hv, hb⟩
        obtain ⟨AO, cO, rfl⟩ := Kd.R_slice hv
        have hq := Kd.R_reads' hv
        replace HB := zW HB hb
        replace BKg3 := zb BKg3 hb
        replace HOl := zr HOl hb
        replace BKg12 := zb BKg12 hb
        replace HOs := zr HOs hb
        replace BKg17 := zb BKg17 hb
        replace HOu := zr HOu hb
        replace BKgA := zb BKgA hb
        replace BKgB := zb BKgB hb
        have HCO := Aside0.mk hq.2.2
        have HLO := Aside0.mk hq.2.1
        clear hb hv hq hHeld
        refine zV (zS BKg17) (fun hHeld => ?_)
        refine zGo 1 (some 77) HT_ Tryz.func39 #[] ?_
        refine (tellurionlaw06_M.calls 59 2 0 _ rfl).mono ?_
        rintro e x34 ⟨rfl, hb⟩
        replace HB := zW HB hb
        replace BKg3 := zb BKg3 hb
        replace HOl := zr HOl hb
        replace BKg12 := zb BKg12 hb
        replace HOs := zr HOs hb
        replace BKg17 := zb BKg17 hb
        replace HOu := zr HOu hb
        replace BKgA := zb BKgA hb
        replace BKgB := zb BKgB hb
        replace HCO := zc HCO hb
        clear hb hHeld
        refine zV (zS BKg17) (fun hHeld => ?_)
        exact norm_ (by first | (simp only [putAll, Act.put, List.setIfInBounds_toArray, List.set_cons_zero, List.set_cons_succ]; done) | (simp only [putAll, Act.put, List.setIfInBounds_toArray, List.set_cons_zero, List.set_cons_succ]; rfl)) (hCont (AO, cO, gA, gB) _ ⟨HB.out, BKg3.out, HOl.out, BKg12.out, HOs.out, BKg17.out, HOu.out, HCO.out, HLO.out, BKgA.out, BKgB.out⟩)
    · refine lit_step (cs := #[.int .i64 5, .int .i64 0, .int .i64 0, .int .i64 0, .int .i64 1, .int .i64 1, .int .i64 1, .int .i64 0]) (t := 74) (n := 2) (by rfl) rfl ?hrun ?_
      case hrun => first | (go_simp; done) | (go_simp; rfl)
      intro gB x11 hg hb
      replace HB := zW HB hb
      replace BKg3 := zb BKg3 hb
      replace HOl := zr HOl hb
      replace BKg12 := zb BKg12 hb
      replace HOs := zr HOs hb
      replace BKg17 := zb BKg17 hb
      replace HOu := zr HOu hb
      have BKgB := Aside0.mk hg
      clear hb hg hHeld
      refine hK.out _ _ (zS BKg17) (fun hHeld => ?_)
      clear hK K
      refine zN ?_
      refine two_ (i := 0) (j := 3) (Ni := some 76) (Nj := some 79) #[true, false, true, false, true, true, true, false, false, false, false, false, false, false, false] #[false, false, true, true, true, true, true, false, false, false, false, false, false, false, false] rfl rfl rfl rfl (two_of HT_.out (by kernel_rfl)) (by decide) (by decide) (fun K hK => ?_) (fun K hK => ?_)
      · refine goes_ Tryz.func38 (by kernel_rfl) rfl #[] (by rfl) rfl rfl (by (try simp only [List.map_toArray, List.map_cons, List.map_nil]); first | done | rfl) ?_
        refine (tellurionlaw06_O.calls 0 [4] _ (by kernel_rfl)).mono ?_
        rintro e x35 ⟨v1, rfl, hv, hb⟩
        obtain ⟨AO, cO, rfl⟩ := Kd.R_slice hv
        have hq := Kd.R_reads' hv
        refine ⟨_, rfl, ?_⟩
        replace HB := zW HB hb
        replace BKg3 := zb BKg3 hb
        replace HOl := zr HOl hb
        replace BKg12 := zb BKg12 hb
        replace HOs := zr HOs hb
        replace BKg17 := zb BKg17 hb
        replace HOu := zr HOu hb
        replace BKgB := zb BKgB hb
        have HCO := Aside0.mk hq.2.2
        have HLO := Aside0.mk hq.2.1
        clear hb hv hq hHeld
        refine hK.out _ _ (zS BKg17) (fun hHeld => ?_)
        clear hK K
        refine zN ?_
        refine two_ (i := 1) (j := 3) (Ni := some 77) (Nj := some 79) #[true, true, true, false, true, true, true, false, false, false, false, false, false, false, false] #[true, false, true, true, true, true, true, false, false, false, false, false, false, false, false] rfl rfl rfl rfl (two_of HT_.out (by kernel_rfl)) (by decide) (by decide) (fun K hK => ?_) (fun K hK => ?_)
        · refine goes_ Tryz.func39 (by kernel_rfl) rfl #[] (by rfl) rfl rfl (by (try simp only [List.map_toArray, List.map_cons, List.map_nil]); first | done | rfl) ?_
          refine (tellurionlaw06_M.calls 59 2 0 _ rfl).mono ?_
          rintro e x37 ⟨rfl, hb⟩
          refine ⟨_, rfl, ?_⟩
          replace HB := zW HB hb
          replace BKg3 := zb BKg3 hb
          replace HOl := zr HOl hb
          replace BKg12 := zb BKg12 hb
          replace HOs := zr HOs hb
          replace BKg17 := zb BKg17 hb
          replace HOu := zr HOu hb
          replace BKgB := zb BKgB hb
          replace HCO := zc HCO hb
          clear hb hHeld
          refine hK.out _ _ (zS BKg17) (fun hHeld => ?_)
          clear hK K
          refine zN ?_
          refine one_ (i := 3) (N := some 79) #[true, true, true, true, true, true, true, false, false, false, false, false, false, false, false] rfl rfl (one_of HT_.out (by kernel_rfl)) (by decide) (fun K hK => ?_)
          refine lit_step (cs := #[.int .i64 5, .int .i64 0, .int .i64 0, .int .i64 366]) (t := 74) (n := 1) (by rfl) rfl ?hrun ?_
          case hrun => first | (go_simp; done) | (go_simp; rfl)
          intro gA x39 hg hb
          replace HB := zW HB hb
          replace BKg3 := zb BKg3 hb
          replace HOl := zr HOl hb
          replace BKg12 := zb BKg12 hb
          replace HOs := zr HOs hb
          replace BKg17 := zb BKg17 hb
          replace HOu := zr HOu hb
          replace BKgB := zb BKgB hb
          replace HCO := zc HCO hb
          have BKgA := Aside0.mk hg
          clear hb hg hHeld
          refine hK.out _ _ (zS BKg17) (fun hHeld => ?_)
          clear hK K
          refine zN ?_
          exact norm_ (by first | (simp only [putAll, Act.put, List.setIfInBounds_toArray, List.set_cons_zero, List.set_cons_succ]; done) | (simp only [putAll, Act.put, List.setIfInBounds_toArray, List.set_cons_zero, List.set_cons_succ]; rfl)) (hCont (AO, cO, gA, gB) _ ⟨HB.out, BKg3.out, HOl.out, BKg12.out, HOs.out, BKg17.out, HOu.out, HCO.out, HLO.out, BKgA.out, BKgB.out⟩)
        · refine lit_step (cs := #[.int .i64 5, .int .i64 0, .int .i64 0, .int .i64 366]) (t := 74) (n := 1) (by rfl) rfl ?hrun ?_
          case hrun => first | (go_simp; done) | (go_simp; rfl)
          intro gA x38 hg hb
          replace HB := zW HB hb
          replace BKg3 := zb BKg3 hb
          replace HOl := zr HOl hb
          replace BKg12 := zb BKg12 hb
          replace HOs := zr HOs hb
          replace BKg17 := zb BKg17 hb
          replace HOu := zr HOu hb
          replace BKgB := zb BKgB hb
          replace HCO := zc HCO hb
          have BKgA := Aside0.mk hg
          clear hb hg hHeld
          refine hK.out _ _ (zS BKg17) (fun hHeld => ?_)
          clear hK K
          refine zN ?_
          refine zGo 1 (some 77) HT_ Tryz.func39 #[] ?_
          refine (tellurionlaw06_M.calls 59 2 0 _ rfl).mono ?_
          rintro e x40 ⟨rfl, hb⟩
          replace HB := zW HB hb
          replace BKg3 := zb BKg3 hb
          replace HOl := zr HOl hb
          replace BKg12 := zb BKg12 hb
          replace HOs := zr HOs hb
          replace BKg17 := zb BKg17 hb
          replace HOu := zr HOu hb
          replace BKgB := zb BKgB hb
          replace HCO := zc HCO hb
          replace BKgA := zb BKgA hb
          clear hb hHeld
          refine zV (zS BKg17) (fun hHeld => ?_)
          exact norm_ (by first | (simp only [putAll, Act.put, List.setIfInBounds_toArray, List.set_cons_zero, List.set_cons_succ]; done) | (simp only [putAll, Act.put, List.setIfInBounds_toArray, List.set_cons_zero, List.set_cons_succ]; rfl)) (hCont (AO, cO, gA, gB) _ ⟨HB.out, BKg3.out, HOl.out, BKg12.out, HOs.out, BKg17.out, HOu.out, HCO.out, HLO.out, BKgA.out, BKgB.out⟩)
      · refine lit_step (cs := #[.int .i64 5, .int .i64 0, .int .i64 0, .int .i64 366]) (t := 74) (n := 1) (by rfl) rfl ?hrun ?_
        case hrun => first | (go_simp; done) | (go_simp; rfl)
        intro gA x36 hg hb
        replace HB := zW HB hb
        replace BKg3 := zb BKg3 hb
        replace HOl := zr HOl hb
        replace BKg12 := zb BKg12 hb
        replace HOs := zr HOs hb
        replace BKg17 := zb BKg17 hb
        replace HOu := zr HOu hb
        replace BKgB := zb BKgB hb
        have BKgA := Aside0.mk hg
        clear hb hg hHeld
        refine hK.out _ _ (zS BKg17) (fun hHeld => ?_)
        clear hK K
        refine zN ?_
        refine zGo 0 (some 76) HT_ Tryz.func38 #[] ?_
        refine (tellurionlaw06_O.calls 0 [4] _ (by kernel_rfl)).mono ?_
        rintro e x41 ⟨v1, rfl, hv, hb⟩
        obtain ⟨AO, cO, rfl⟩ := Kd.R_slice hv
        have hq := Kd.R_reads' hv
        replace HB := zW HB hb
        replace BKg3 := zb BKg3 hb
        replace HOl := zr HOl hb
        replace BKg12 := zb BKg12 hb
        replace HOs := zr HOs hb
        replace BKg17 := zb BKg17 hb
        replace HOu := zr HOu hb
        replace BKgB := zb BKgB hb
        replace BKgA := zb BKgA hb
        have HCO := Aside0.mk hq.2.2
        have HLO := Aside0.mk hq.2.1
        clear hb hv hq hHeld
        refine zV (zS BKg17) (fun hHeld => ?_)
        refine zGo 1 (some 77) HT_ Tryz.func39 #[] ?_
        refine (tellurionlaw06_M.calls 59 2 0 _ rfl).mono ?_
        rintro e x42 ⟨rfl, hb⟩
        replace HB := zW HB hb
        replace BKg3 := zb BKg3 hb
        replace HOl := zr HOl hb
        replace BKg12 := zb BKg12 hb
        replace HOs := zr HOs hb
        replace BKg17 := zb BKg17 hb
        replace HOu := zr HOu hb
        replace BKgB := zb BKgB hb
        replace BKgA := zb BKgA hb
        replace HCO := zc HCO hb
        clear hb hHeld
        refine zV (zS BKg17) (fun hHeld => ?_)
        exact norm_ (by first | (simp only [putAll, Act.put, List.setIfInBounds_toArray, List.set_cons_zero, List.set_cons_succ]; done) | (simp only [putAll, Act.put, List.setIfInBounds_toArray, List.set_cons_zero, List.set_cons_succ]; rfl)) (hCont (AO, cO, gA, gB) _ ⟨HB.out, BKg3.out, HOl.out, BKg12.out, HOs.out, BKg17.out, HOu.out, HCO.out, HLO.out, BKgA.out, BKgB.out⟩)
  rintro ⟨AO, cO, gA, gB⟩ wj ⟨hB_, h_BKg3, h_HOl, h_BKg12, h_HOs, h_BKg17, h_HOu, h_c, h_l, h_gA, h_gB⟩
  clear HB BKg3 HOl BKg12 HOs BKg17 HOu
  have HB := Aside0.mk hB_
  have BKg3 := Aside0.mk h_BKg3
  have HOl := Aside0.mk h_HOl
  have BKg12 := Aside0.mk h_BKg12
  have HOs := Aside0.mk h_HOs
  have BKg17 := Aside0.mk h_BKg17
  have HOu := Aside0.mk h_HOu
  have HCO := Aside0.mk h_c
  have HLO := Aside0.mk h_l
  have BKgA := Aside0.mk h_gA
  have BKgB := Aside0.mk h_gB
  clear hB_ h_BKg3 h_HOl h_BKg12 h_HOs h_BKg17 h_HOu h_c h_l h_gA h_gB
  refine norm_ (a' := ?_) ?_ ?_
  rotate_left
  · simp only [putAll, Act.put, List.setIfInBounds_toArray, List.set_cons_zero, List.set_cons_succ]
    rfl
  have hHeld : True := trivial
  refine zGo 7 (some 83) HT_ Tryz.func43 #[.agg #[.int .i64 0, .slice AO 1 cO], .agg #[.int .i64 59, .int .i64 2, .int .i64 0], .slice (some ⟨gA, 0, none⟩) 1 1, .slice (some ⟨gB, 0, none⟩) 2 2, .int .i64 0, .int .i64 20] ?_
  refine (kn_Ask AO cO (some ⟨gA, 0, none⟩) (some ⟨gB, 0, none⟩) _ HCO.out HLO.out (cF_1 ⟨5, 0, 0, 366⟩ BKgA.out) (cF_2 ⟨5, 0, 0, 0⟩ ⟨1, 1, 1, 0⟩ BKgB.out)).mono ?_
  rintro e wq10 ⟨rfl, hb⟩
  replace HB := zW HB hb
  replace BKg3 := zb BKg3 hb
  replace HOl := zr HOl hb
  replace BKg12 := zb BKg12 hb
  replace HOs := zr HOs hb
  replace BKg17 := zb BKg17 hb
  replace HOu := zr HOu hb
  clear hb hHeld HLO HCO BKgA BKgB
  refine zV (zS BKg17) (fun hHeld => ?_)
  refine zP 8 (some 75) HT_ ?_
  refine zP 9 (some 84) HT_ ?_
  refine zP 10 (some 85) HT_ ?_
  refine zP 11 (some 86) HT_ ?_
  refine zP 12 (some 20) HT_ ?_
  refine zP 13 (some 21) HT_ ?_
  refine zP 14 (some 22) HT_ ?_
  refine done_ (done_of HT_.out (by kernel_rfl)) ?_
  go_upto_region 11 with (fail)
  replace HB := zWD HB
  replace BKg3 := zbD BKg3
  replace HOl := zrD HOl
  replace BKg12 := zbD BKg12
  replace HOs := zrD HOs
  replace BKg17 := zbD BKg17
  replace HOu := zrD HOu
  refine zStart 10 (fun w' => zCells w' g17 0 [.int .i64 5, .int .i64 0, .int .i64 0, .int .i64 366]) #[false, false, false, false, false, false, false, false, false, false] Kn11.tab Kn11.bits (zS BKg17) (fun hHeld HT_ HW_ => ?_)
  generalize wq10.drew = y2 at HB BKg3 HOl BKg12 HOs BKg17 HOu hHeld ⊢
  refine zT 2 (some 90) HT_ HW_ hHeld ?_
  refine join_ (σ := Option Addr × Nat × Nat) 6 #[true, true, true, true, false, false, false, false, false, false] (fun s => [(88, .agg #[.int .i64 0, .slice s.1 1 s.2.1]), (89, .agg #[.int .i64 59, .int .i64 2, .int .i64 0]), (91, .slice (some ⟨s.2.2, 0, none⟩) 1 1)]) (fun s w' => Below w.heap.size w w' ∧ w'.heap[g3]? = some (.cells #[.int .i64 1582, .int .i64 10, .int .i64 15] 38 (0, 0)) ∧ Kd.R (Kd.int .i64) 3 w' wd.heap.size (fun _ => True) (.slice Al 2 cl) [578098, 578108] ∧ w'.heap[g12]? = some (.cells #[.int .i64 0, .int .i64 4, .int .i64 18] 38 (0, 0)) ∧ Kd.R (Kd.int .i64) 3 w' wk.heap.size (fun _ => True) (.slice As 1 cs) [430] ∧ w'.heap[g17]? = some (.cells #[.int .i64 5, .int .i64 0, .int .i64 0, .int .i64 366] 74 (0, 0)) ∧ Kd.R (Kd.int .i64) 3 w' w.heap.size (fun _ => True) (.slice Au 3 cu) [0, 28, 56] ∧ Kd.C (Kd.int .i64) w' s.1 1 [4] ∧ 1 ≤ s.2.1 ∧ w'.heap[s.2.2]? = some (.cells #[.int .i64 5, .int .i64 0, .int .i64 0, .int .i64 366] 74 (0, 0))) ?_ ?_
  rotate_left
  · intro hCont
    refine two_ (i := 0) (j := 3) (Ni := some 88) (Nj := some 91) #[true, false, true, false, false, false, false, false, false, false] #[false, false, true, true, false, false, false, false, false, false] rfl rfl rfl rfl (two_of HT_.out (by kernel_rfl)) (by decide) (by decide) (fun K hK => ?_) (fun K hK => ?_)
    · refine goes_ Tryz.func38 (by kernel_rfl) rfl #[] (by rfl) rfl rfl (by (try simp only [List.map_toArray, List.map_cons, List.map_nil]); first | done | rfl) ?_
      refine (tellurionlaw06_O.calls 0 [4] _ (by kernel_rfl)).mono ?_
      rintro e x43 ⟨v1, rfl, hv, hb⟩
      obtain ⟨AO, cO, rfl⟩ := Kd.R_slice hv
      have hq := Kd.R_reads' hv
      refine ⟨_, rfl, ?_⟩
      replace HB := zW HB hb
      replace BKg3 := zb BKg3 hb
      replace HOl := zr HOl hb
      replace BKg12 := zb BKg12 hb
      replace HOs := zr HOs hb
      replace BKg17 := zb BKg17 hb
      replace HOu := zr HOu hb
      have HCO := Aside0.mk hq.2.2
      have HLO := Aside0.mk hq.2.1
      clear hb hv hq hHeld
      refine hK.out _ _ (zS BKg17) (fun hHeld => ?_)
      clear hK K
      refine zN ?_
      refine two_ (i := 1) (j := 3) (Ni := some 89) (Nj := some 91) #[true, true, true, false, false, false, false, false, false, false] #[true, false, true, true, false, false, false, false, false, false] rfl rfl rfl rfl (two_of HT_.out (by kernel_rfl)) (by decide) (by decide) (fun K hK => ?_) (fun K hK => ?_)
      · refine goes_ Tryz.func39 (by kernel_rfl) rfl #[] (by rfl) rfl rfl (by (try simp only [List.map_toArray, List.map_cons, List.map_nil]); first | done | rfl) ?_
        refine (tellurionlaw06_M.calls 59 2 0 _ rfl).mono ?_
        rintro e x45 ⟨rfl, hb⟩
        refine ⟨_, rfl, ?_⟩
        replace HB := zW HB hb
        replace BKg3 := zb BKg3 hb
        replace HOl := zr HOl hb
        replace BKg12 := zb BKg12 hb
        replace HOs := zr HOs hb
        replace BKg17 := zb BKg17 hb
        replace HOu := zr HOu hb
        replace HCO := zc HCO hb
        clear hb hHeld
        refine hK.out _ _ (zS BKg17) (fun hHeld => ?_)
        clear hK K
        refine zN ?_
        refine one_ (i := 3) (N := some 91) #[true, true, true, true, false, false, false, false, false, false] rfl rfl (one_of HT_.out (by kernel_rfl)) (by decide) (fun K hK => ?_)
        refine lit_step (cs := #[.int .i64 5, .int .i64 0, .int .i64 0, .int .i64 366]) (t := 74) (n := 1) (by rfl) rfl ?hrun ?_
        case hrun => first | (go_simp; done) | (go_simp; rfl)
        intro gP x47 hg hb
        replace HB := zW HB hb
        replace BKg3 := zb BKg3 hb
        replace HOl := zr HOl hb
        replace BKg12 := zb BKg12 hb
        replace HOs := zr HOs hb
        replace BKg17 := zb BKg17 hb
        replace HOu := zr HOu hb
        replace HCO := zc HCO hb
        have BKgP := Aside0.mk hg
        clear hb hg hHeld
        refine hK.out _ _ (zS BKg17) (fun hHeld => ?_)
        clear hK K
        refine zN ?_
        exact norm_ (by first | (simp only [putAll, Act.put, List.setIfInBounds_toArray, List.set_cons_zero, List.set_cons_succ]; done) | (simp only [putAll, Act.put, List.setIfInBounds_toArray, List.set_cons_zero, List.set_cons_succ]; rfl)) (hCont (AO, cO, gP) _ ⟨HB.out, BKg3.out, HOl.out, BKg12.out, HOs.out, BKg17.out, HOu.out, HCO.out, HLO.out, BKgP.out⟩)
      · refine lit_step (cs := #[.int .i64 5, .int .i64 0, .int .i64 0, .int .i64 366]) (t := 74) (n := 1) (by rfl) rfl ?hrun ?_
        case hrun => first | (go_simp; done) | (go_simp; rfl)
        intro gP x46 hg hb
        replace HB := zW HB hb
        replace BKg3 := zb BKg3 hb
        replace HOl := zr HOl hb
        replace BKg12 := zb BKg12 hb
        replace HOs := zr HOs hb
        replace BKg17 := zb BKg17 hb
        replace HOu := zr HOu hb
        replace HCO := zc HCO hb
        have BKgP := Aside0.mk hg
        clear hb hg hHeld
        refine hK.out _ _ (zS BKg17) (fun hHeld => ?_)
        clear hK K
        refine zN ?_
        refine zGo 1 (some 89) HT_ Tryz.func39 #[] ?_
        refine (tellurionlaw06_M.calls 59 2 0 _ rfl).mono ?_
        rintro e x48 ⟨rfl, hb⟩
        replace HB := zW HB hb
        replace BKg3 := zb BKg3 hb
        replace HOl := zr HOl hb
        replace BKg12 := zb BKg12 hb
        replace HOs := zr HOs hb
        replace BKg17 := zb BKg17 hb
        replace HOu := zr HOu hb
        replace HCO := zc HCO hb
        replace BKgP := zb BKgP hb
        clear hb hHeld
        refine zV (zS BKg17) (fun hHeld => ?_)
        exact norm_ (by first | (simp only [putAll, Act.put, List.setIfInBounds_toArray, List.set_cons_zero, List.set_cons_succ]; done) | (simp only [putAll, Act.put, List.setIfInBounds_toArray, List.set_cons_zero, List.set_cons_succ]; rfl)) (hCont (AO, cO, gP) _ ⟨HB.out, BKg3.out, HOl.out, BKg12.out, HOs.out, BKg17.out, HOu.out, HCO.out, HLO.out, BKgP.out⟩)
    · refine lit_step (cs := #[.int .i64 5, .int .i64 0, .int .i64 0, .int .i64 366]) (t := 74) (n := 1) (by rfl) rfl ?hrun ?_
      case hrun => first | (go_simp; done) | (go_simp; rfl)
      intro gP x44 hg hb
      replace HB := zW HB hb
      replace BKg3 := zb BKg3 hb
      replace HOl := zr HOl hb
      replace BKg12 := zb BKg12 hb
      replace HOs := zr HOs hb
      replace BKg17 := zb BKg17 hb
      replace HOu := zr HOu hb
      have BKgP := Aside0.mk hg
      clear hb hg hHeld
      refine hK.out _ _ (zS BKg17) (fun hHeld => ?_)
      clear hK K
      refine zN ?_
      refine zGo 0 (some 88) HT_ Tryz.func38 #[] ?_
      refine (tellurionlaw06_O.calls 0 [4] _ (by kernel_rfl)).mono ?_
      rintro e x49 ⟨v1, rfl, hv, hb⟩
      obtain ⟨AO, cO, rfl⟩ := Kd.R_slice hv
      have hq := Kd.R_reads' hv
      replace HB := zW HB hb
      replace BKg3 := zb BKg3 hb
      replace HOl := zr HOl hb
      replace BKg12 := zb BKg12 hb
      replace HOs := zr HOs hb
      replace BKg17 := zb BKg17 hb
      replace HOu := zr HOu hb
      replace BKgP := zb BKgP hb
      have HCO := Aside0.mk hq.2.2
      have HLO := Aside0.mk hq.2.1
      clear hb hv hq hHeld
      refine zV (zS BKg17) (fun hHeld => ?_)
      refine zGo 1 (some 89) HT_ Tryz.func39 #[] ?_
      refine (tellurionlaw06_M.calls 59 2 0 _ rfl).mono ?_
      rintro e x50 ⟨rfl, hb⟩
      replace HB := zW HB hb
      replace BKg3 := zb BKg3 hb
      replace HOl := zr HOl hb
      replace BKg12 := zb BKg12 hb
      replace HOs := zr HOs hb
      replace BKg17 := zb BKg17 hb
      replace HOu := zr HOu hb
      replace BKgP := zb BKgP hb
      replace HCO := zc HCO hb
      clear hb hHeld
      refine zV (zS BKg17) (fun hHeld => ?_)
      exact norm_ (by first | (simp only [putAll, Act.put, List.setIfInBounds_toArray, List.set_cons_zero, List.set_cons_succ]; done) | (simp only [putAll, Act.put, List.setIfInBounds_toArray, List.set_cons_zero, List.set_cons_succ]; rfl)) (hCont (AO, cO, gP) _ ⟨HB.out, BKg3.out, HOl.out, BKg12.out, HOs.out, BKg17.out, HOu.out, HCO.out, HLO.out, BKgP.out⟩)
  rintro ⟨AO, cO, gP⟩ wj ⟨hB_, h_BKg3, h_HOl, h_BKg12, h_HOs, h_BKg17, h_HOu, h_c, h_l, h_gP⟩
  clear HB BKg3 HOl BKg12 HOs BKg17 HOu
  have HB := Aside0.mk hB_
  have BKg3 := Aside0.mk h_BKg3
  have HOl := Aside0.mk h_HOl
  have BKg12 := Aside0.mk h_BKg12
  have HOs := Aside0.mk h_HOs
  have BKg17 := Aside0.mk h_BKg17
  have HOu := Aside0.mk h_HOu
  have HCO := Aside0.mk h_c
  have HLO := Aside0.mk h_l
  have BKgP := Aside0.mk h_gP
  clear hB_ h_BKg3 h_HOl h_BKg12 h_HOs h_BKg17 h_HOu h_c h_l h_gP
  refine norm_ (a' := ?_) ?_ ?_
  rotate_left
  · simp only [putAll, Act.put, List.setIfInBounds_toArray, List.set_cons_zero, List.set_cons_succ]
    rfl
  have hHeld : True := trivial
  refine zGo 4 (some 92) HT_ Tryz.func44 #[.agg #[.int .i64 0, .slice AO 1 cO], .agg #[.int .i64 59, .int .i64 2, .int .i64 0], .slice (some ⟨gP, 0, none⟩) 1 1] ?_
  refine (kn_Print AO cO (some ⟨gP, 0, none⟩) _ (Tab.below HT.out HB.out) HCO.out HLO.out (cF_1 ⟨5, 0, 0, 366⟩ BKgP.out)).mono ?_
  rintro e wq11 ⟨rfl, hb⟩
  replace HB := zW HB hb
  replace BKg3 := zb BKg3 hb
  replace HOl := zr HOl hb
  replace BKg12 := zb BKg12 hb
  replace HOs := zr HOs hb
  replace BKg17 := zb BKg17 hb
  replace HOu := zr HOu hb
  clear hb hHeld HLO HCO BKgP
  refine zV (zS BKg17) (fun hHeld => ?_)
  refine zP 5 (some 87) HT_ ?_
  refine zP 6 (some 93) HT_ ?_
  refine zP 7 (some 94) HT_ ?_
  refine zP 8 (some 23) HT_ ?_
  refine zP 9 (some 24) HT_ ?_
  refine done_ (done_of HT_.out (by kernel_rfl)) ?_
  go_upto_region 14 with (fail)
  replace HB := zWD HB
  replace BKg3 := zbD BKg3
  replace HOl := zrD HOl
  replace BKg12 := zbD BKg12
  replace HOs := zrD HOs
  replace BKg17 := zbD BKg17
  replace HOu := zrD HOu
  refine zStart 30 (fun w' => zCells w' g3 0 [.int .i64 1582, .int .i64 10, .int .i64 15] ∧ zCells w' g12 0 [.int .i64 0, .int .i64 4, .int .i64 18]) #[false, false, false, false, false, false, false, false, false, false, false, false, false, false, false, false, false, false, false, false, false, false, false, false, false, false, false, false, false, false] Kn14.tab Kn14.bits ⟨zS BKg3, zS BKg12⟩ (fun hHeld HT_ HW_ => ?_)
  generalize wq11.drew = wf14 at HB BKg3 HOl BKg12 HOs BKg17 HOu hHeld ⊢
  refine zP 0 (some 133) HT_ ?_
  refine zP 1 (some 134) HT_ ?_
  refine zP 2 (some 135) HT_ ?_
  refine zT 3 (some 136) HT_ HW_ hHeld ?_
  refine zGo 4 (some 137) HT_ Tryz.func32 #[.int .i64 15, .int .i64 10, .int .i64 1582] ?_
  with_reducible refine (tellurionlaw06_date.calls 15 10 1582 _ _ _ _ rfl).mono ?_
  rintro e wf14_1 ⟨rfl, hb⟩
  replace HB := zW HB hb
  replace BKg3 := zb BKg3 hb
  replace HOl := zr HOl hb
  replace BKg12 := zb BKg12 hb
  replace HOs := zr HOs hb
  replace BKg17 := zb BKg17 hb
  replace HOu := zr HOu hb
  clear hb hHeld
  refine zV ⟨zS BKg3, zS BKg12⟩ (fun hHeld => ?_)
  refine zP 5 (some 138) HT_ ?_
  refine zP 6 (some 139) HT_ ?_
  refine zP 7 (some 140) HT_ ?_
  refine zP 8 (some 141) HT_ ?_
  refine zP 9 (some 142) HT_ ?_
  refine zP 10 (some 143) HT_ ?_
  refine zP 11 (some 144) HT_ ?_
  refine zP 12 (some 145) HT_ ?_
  refine zP 13 (some 146) HT_ ?_
  refine zP 14 (some 147) HT_ ?_
  refine zP 15 (some 148) HT_ ?_
  refine zP 16 (some 149) HT_ ?_
  refine zP 17 (some 150) HT_ ?_
  refine zP 18 (some 151) HT_ ?_
  refine zP 19 (some 152) HT_ ?_
  refine zP 20 (some 153) HT_ ?_
  refine one_ (i := 21) (N := some 154) #[true, true, true, true, true, true, true, true, true, true, true, true, true, true, true, true, true, true, true, true, true, true, false, false, false, false, false, false, false, false] rfl rfl (one_of HT_.out (by kernel_rfl)) (by decide) (fun K hK => ?_)
  refine lit_step (cs := #[.int .i64 578098, .int .i64 578108]) (t := 3) (n := 2) (by rfl) rfl ?hrun ?_
  case hrun => first | (go_simp; done) | (go_simp; rfl)
  intro gS wS hg hb
  replace HB := zW HB hb
  replace BKg3 := zb BKg3 hb
  replace HOl := zr HOl hb
  replace BKg12 := zb BKg12 hb
  replace HOs := zr HOs hb
  replace BKg17 := zb BKg17 hb
  replace HOu := zr HOu hb
  have BKgS := Aside0.mk hg
  clear hb hg hHeld
  refine hK.out _ _ ⟨zS BKg3, zS BKg12⟩ (fun hHeld => ?_)
  clear hK K
  refine zN ?_
  refine zGo 22 (some 155) HT_ Tryz.func45 #[.slice Al 2 cl, .slice (some ⟨gS, 0, none⟩) 2 2] ?_
  with_reducible refine (same_l 9 Al cl [578098, 578108] 2 rfl (some ⟨gS, 0, none⟩) 2 [578098, 578108] 2 rfl true _ (Kd.R_reads' HOl.out).2.2 (Kd.R_reads' HOl.out).2.1 (cI2 578098 578108 BKgS.out) (by decide) (by kernel_rfl)).mono ?_
  rintro e wf14_2 ⟨rfl, hb⟩
  replace HB := zW HB hb
  replace BKg3 := zb BKg3 hb
  replace HOl := zr HOl hb
  replace BKg12 := zb BKg12 hb
  replace HOs := zr HOs hb
  replace BKg17 := zb BKg17 hb
  replace HOu := zr HOu hb
  clear hb hHeld
  refine zV ⟨zS BKg3, zS BKg12⟩ (fun hHeld => ?_)
  refine zP 23 (some 156) HT_ ?_
  refine zP 24 (some 157) HT_ ?_
  refine zP 25 (some 158) HT_ ?_
  refine zT 26 (some 159) HT_ HW_ hHeld ?_
  refine zGo 27 (some 160) HT_ Tryz.func32 #[.int .i64 18, .int .i64 4, .int .i64 0] ?_
  with_reducible refine (tellurionlaw06_date.calls 18 4 0 _ _ _ _ rfl).mono ?_
  rintro e wf14_3 ⟨rfl, hb⟩
  replace HB := zW HB hb
  replace BKg3 := zb BKg3 hb
  replace HOl := zr HOl hb
  replace BKg12 := zb BKg12 hb
  replace HOs := zr HOs hb
  replace BKg17 := zb BKg17 hb
  replace HOu := zr HOu hb
  clear hb hHeld
  refine zV ⟨zS BKg3, zS BKg12⟩ (fun hHeld => ?_)
  refine zP 28 (some 161) HT_ ?_
  refine zP 29 (some 162) HT_ ?_
  refine done_ (done_of HT_.out (by kernel_rfl)) ?_
  clear hHeld
  go_wp2_with (first
    | ((with_reducible refine zG 164 rfl ?_); refine lit_event (N := 164) rfl rfl (cs := #[.int .i64 430]) (t := 3) (n := 1) ?hr ?_; (case hr => first | (go_simp; done) | (go_simp; rfl)); intro gT hg wgT hblk hb; replace HB := zW HB hb; replace BKg3 := zb BKg3 hb; replace HOl := zr HOl hb; replace BKg12 := zb BKg12 hb; replace HOs := zr HOs hb; replace BKg17 := zb BKg17 hb; replace HOu := zr HOu hb; have BKgT := Aside0.mk hblk; clear hb hblk hg)
    | (go_at_call 45; (with_reducible refine (same_l 9 As cs [430] 1 rfl (some ⟨gT, 0, none⟩) 1 [430] 1 rfl true _ (Kd.R_reads' HOs.out).2.2 (Kd.R_reads' HOs.out).2.1 (cI1 430 BKgT.out) (by decide) (by kernel_rfl)).mono ?_); rintro e wzgT ⟨rfl, hb⟩; replace HB := zW HB hb; replace BKg3 := zb BKg3 hb; replace HOl := zr HOl hb; replace BKg12 := zb BKg12 hb; replace HOs := zr HOs hb; replace BKg17 := zb BKg17 hb; replace HOu := zr HOu hb; clear hb BKgT)
    | (go_at_call 45; (with_reducible refine (same_l 9 Au cu [0, 28, 56] 3 rfl (some ⟨wzgT.heap.size, 0, none⟩) 3 [0, 28, 56] 3 rfl true _ (Kd.C_below (Kd.R_reads' HOu.out).2.2 (below_alloc (Below.refl _ _) _)) (Kd.R_reads' HOu.out).2.1 (cI3 0 28 56 (blk_new wzgT _)) (by decide) (by kernel_rfl)).mono ?_); rintro e wzgU ⟨rfl, hb⟩; have hB2 := below_thenN (below_alloc (Below.refl wzgT.heap.size wzgT) _) hb; have n0_ := Aside0.mk (below_thenN HB.out hB2); clear HB hb hB2; have HB := n0_))
  go_ret
  exact ⟨rfl, HB.out⟩
theorem tellurionlaw06_known.calls (r : Bool) (w : World) (h : tellurionlaw06_known.f = some r) (hT : Tab w) : Calls Tryz.prog 11 #[] w fun e w' => e = .returned (.bool r) ∧ Below w.heap.size w w' := by
  cases h
  exact known_b w hT
end Go.Proofs.YtnllidgonghckaaGreatDoor.X
