/- The law DialAges returns true for every input: its walk, its pure law and its tied card. Conditions: the library's tables that the row lists read as their source says (part 1 of 2). -/
import Derived.ArgAppend
import Derived.Below
import Derived.BigQuiet
import Derived.Deep.AppendLies
import Derived.Deep.CutBlock
import Derived.Deep.DeepCutAuto
import Derived.Deep.Draws
import Derived.Deep.LoopGhost
import Derived.Deep.OwnRows
import Derived.Deep.QuietTactic
import Derived.Deep.RegionHeld3
import Derived.DeepKeys5
import Derived.Defers
import Derived.KernelRfl
import Derived.Laws.BitsLemmas
import Derived.Laws.BytesArg
import Derived.Laws.CopyOwn
import Derived.Laws.IdiomCopy
import Derived.Laws.MakeOwn
import Derived.Laws.OwnMore
import Derived.Laws.Rows
import Derived.Laws.Slices
import Derived.Laws.StructEq
import Derived.Laws.Tables
import Derived.Lib.AppendStr
import Derived.Lib.ConvBytes
import Derived.Lib.ItoaLen
import Derived.Maps.AppendAt
import Derived.Maps.OwnOps
import Derived.OrdersHeld
import Derived.OwnWalk
import Derived.OwnWalkIn
import Derived.RangeFuncCalls
import Derived.RangeFuncKeeps
import Derived.RangeFuncLeaves
import Derived.Recover
import Derived.RowKit
import Derived.RowKit3
import Derived.Shelf.LaysM
import Derived.Shelf.Small.Wraps
import Derived.Shelf.Strconv.Itoa0
import Derived.Shelf.Strconv.Itoa1
import Derived.Shelf.Strconv.Itoa2
import Derived.Shelf.Strconv.Itoa3
import Derived.Shelf.Strings.Builder1
import Derived.Shelf.Strings.Builder2
import Derived.Shelf.Strings.Builder2Cap
import Derived.Shelf.Strings.BuilderCap
import Derived.Shelf.Strings.BuilderF
import Derived.Shelf.Strings.BuilderK
import Derived.Shelf.Strings.OnBuilder
import Derived.Tactics
import Derived.Tactics2
import Derived.TacticsInMore
import Derived.Test.YtnllidgonghckaaGreatDoorProg
import Derived.WalkKit
import Derived.WalkLawsBesides
import Derived.WideKeyEntry
import Derived.WideLaws
import Derived.Test.YtnllidgonghckaaGreatDoorC11
namespace Go.Proofs.YtnllidgonghckaaGreatDoor.X
open Go.RowKit Go.Proofs.YtnllidgonghckaaGreatDoorW.PrintWords Go.Proofs.YtnllidgonghckaaGreatDoorW.PrintLast Go.Proofs.YtnllidgonghckaaGreatDoorW.PrintMore
attribute [local go_sem] max2_int min2_int max_two min_two max_three min_three max_four min_four
set_option linter.unusedVariables false
set_option linter.unusedSimpArgs false
def dial_Age.f (a0_0 : Int) (a0_1 : Int) (a0_2 : Int) (a1 : Int) : Option (Int × Int) := (dial_isMoon.f a0_0 a0_1 a0_2).bind fun t333 => (if t333 = true then ((dial_isDay.f a1).bind fun t334 => (if t334 = true then ((dial_age.f a0_0 a0_1 a0_2 a1).bind fun t335 => (some (t335, 0))) else (some (0, 2)))) else (some (0, 2)))
set_option maxHeartbeats 8000000 in
set_option maxRecDepth 100000 in
theorem dial_Age.calls (a0_0 : Int) (a0_1 : Int) (a0_2 : Int) (a1 : Int) (r1 : Int) (r2 : Int) (w : World) (h : dial_Age.f a0_0 a0_1 a0_2 a1 = some (r1, r2)) :
    Calls Tryz.prog 22 #[.agg #[.int .i64 a0_0, .int .i64 a0_1, .int .i64 a0_2], .int .i64 a1] w fun e w' => e = .returned (.tuple #[.int .i64 r1, .int .i64 r2]) ∧ Below w.heap.size w w' := by
  have hu45 := Tryz.underlying45
  have HB := Aside0.mk (Below.refl w.heap.size w)
  have H : ((dial_isMoon.f a0_0 a0_1 a0_2).bind fun t333 => (if t333 = true then ((dial_isDay.f a1).bind fun t334 => (if t334 = true then ((dial_age.f a0_0 a0_1 a0_2 a1).bind fun t335 => (some (t335, 0))) else (some (0, 2)))) else (some (0, 2)))) = some (r1, r2) := h
  clear h
  replace H := Option.bind_eq_some_iff.mp H
  obtain ⟨t333, A30, H⟩ := H
  replace H : (if t333 = true then ((dial_isDay.f a1).bind fun t334 => (if t334 = true then ((dial_age.f a0_0 a0_1 a0_2 a1).bind fun t335 => (some (t335, 0))) else (some (0, 2)))) else (some (0, 2))) = some (r1, r2) := H
  have A3 := Aside0.mk A30
  clear A30
  by_cases c4 : t333 = true
  · subst c4
    have H1 : ((dial_isDay.f a1).bind fun t334 => (if t334 = true then ((dial_age.f a0_0 a0_1 a0_2 a1).bind fun t335 => (some (t335, 0))) else (some (0, 2)))) = some (r1, r2) := by rw [if_pos rfl] at H; exact H
    clear H
    have H := H1
    clear H1
    replace H := Option.bind_eq_some_iff.mp H
    obtain ⟨t334, A50, H⟩ := H
    replace H : (if t334 = true then ((dial_age.f a0_0 a0_1 a0_2 a1).bind fun t335 => (some (t335, 0))) else (some (0, 2))) = some (r1, r2) := H
    have A5 := Aside0.mk A50
    clear A50
    by_cases c6 : t334 = true
    · subst c6
      have H1 : ((dial_age.f a0_0 a0_1 a0_2 a1).bind fun t335 => (some (t335, 0))) = some (r1, r2) := by rw [if_pos rfl] at H; exact H
      clear H
      have H := H1
      clear H1
      replace H := Option.bind_eq_some_iff.mp H
      obtain ⟨t335, A70, H⟩ := H
      replace H : (some (t335, 0)) = some (r1, r2) := H
      have A7 := Aside0.mk A70
      clear A70
      simp only [Option.some.injEq, Prod.mk.injEq] at H
      obtain ⟨rfl, rfl⟩ := H
      go_enter Tryz.func22, Tryz.ntmps22
      go_wp2_with (first | ((with_reducible refine zG 2 rfl ?_); refine zBox 2 #[.int .i64 a0_0, .int .i64 a0_1, .int .i64 a0_2] 45 ?_; intro gb332 hg w8 hbox hb; have n0_ := Aside0.mk (below_step (by repeat (first | (with_reducible first | exact HB.out | apply below_alloc | apply pw_below_drewN | apply below_drew1) | exact HB.out)) hb); have n1_ := Aside0.mk (hbox); have n2_ := Aside0.mk ((by rw [hg]; exact (below_size (by repeat (first | (with_reducible first | exact HB.out | apply below_alloc | apply pw_below_drewN | apply below_drew1) | exact HB.out))) : w.heap.size ≤ gb332)); have n3_ := Aside0.mk ((by rw [hg]; exact (below_size (by repeat (first | (with_reducible first | exact HB.out | apply below_alloc | apply pw_below_drewN | apply below_drew1) | exact HB.out))) : w.heap.size ≤ gb332)); clear HB; have HB := n0_; have BK332 := n1_; have GW332 := n2_; have GE332 := n3_; clear n0_ n1_ n2_ n3_; clear hb hbox hg; have hcz9_0 := zC BK332; have hfz9_0 := zF BK332) | ((with_reducible refine gate_callee (f := 58) rfl ?_); refine goesL_ (some 7) rfl rfl Tryz.func58 (by kernel_rfl) rfl #[.agg #[.int .i64 a0_0, .int .i64 a0_1, .int .i64 a0_2]] rfl (by (try simp only [List.map_toArray, List.map_cons, List.map_nil]); first | done | rfl | (simp only [List.length_drop, List.length_take]; rfl)) ?_; (with_reducible refine (dial_isMoon.calls a0_0 a0_1 a0_2 true _ A3.out).mono ?_); rintro e w10 ⟨rfl, hb⟩; refine ⟨_, rfl, ?_⟩; have n0_ := Aside0.mk (blk_below (g := gb332) (o := .cells #[.int .i64 a0_0, .int .i64 a0_1, .int .i64 a0_2] 45 (0, 0)) (by (with_reducible repeat (first | refine blk_drewN ?_ _ | refine blk_drew ?_ | refine blk_alloc ?_ _)); exact BK332.out) hb); have n1_ := Aside0.mk (below_step (by repeat (first | (with_reducible first | exact HB.out | apply below_alloc | apply pw_below_drewN | apply below_drew1 | refine below_set ?_ GE332.out) | exact HB.out)) hb); clear BK332; clear HB; have BK332 := n0_; have HB := n1_; clear n0_ n1_; (try clear hb); (try clear hb2); (try clear hk); (try clear hi)) | (go_at_call 59; (with_reducible refine (dial_isDay.calls a1 true _ A5.out).mono ?_); rintro e w' ⟨rfl, ⟨nd, rfl⟩⟩; have hcz11_0 := zC BK332; have hfz11_0 := zF BK332) | ((with_reducible refine gate_callee (f := 60) rfl ?_); refine goesL_ (some 16) rfl rfl Tryz.func60 (by kernel_rfl) rfl #[.agg #[.int .i64 a0_0, .int .i64 a0_1, .int .i64 a0_2], .int .i64 a1] rfl (by (try simp only [List.map_toArray, List.map_cons, List.map_nil]); first | done | rfl | (simp only [List.length_drop, List.length_take]; rfl)) ?_; (with_reducible refine (dial_age.calls a0_0 a0_1 a0_2 a1 t335 _ A7.out).mono ?_); rintro e w12 ⟨rfl, hb⟩; refine ⟨_, rfl, ?_⟩; have n0_ := Aside0.mk (blk_below (g := gb332) (o := .cells #[.int .i64 a0_0, .int .i64 a0_1, .int .i64 a0_2] 45 (0, 0)) (by (with_reducible repeat (first | refine blk_drewN ?_ _ | refine blk_drew ?_ | refine blk_alloc ?_ _)); exact BK332.out) hb); have n1_ := Aside0.mk (below_step (by repeat (first | (with_reducible first | exact HB.out | apply below_alloc | apply pw_below_drewN | apply below_drew1 | refine below_set ?_ GE332.out) | exact HB.out)) hb); clear BK332; clear HB; have BK332 := n0_; have HB := n1_; clear n0_ n1_; (try clear hb); (try clear hb2); (try clear hk); (try clear hi)))
      go_ret2
      exact ⟨by first | rfl | (simp [errW_none, errW_some] <;> rfl) | (simp [*, errW_none, errW_some] <;> rfl), by repeat (first | (with_reducible first | exact HB.out | apply below_alloc | apply pw_below_drewN | apply below_drew1 | refine below_set ?_ GE332.out) | exact HB.out)⟩
    · replace c6 := Bool.eq_false_iff.mpr c6
      subst c6
      have H1 : (some (0, 2)) = some (r1, r2) := by rw [if_neg (show ¬ (false = true) by decide)] at H; exact H
      clear H
      have H := H1
      clear H1
      simp only [Option.some.injEq, Prod.mk.injEq] at H
      obtain ⟨rfl, rfl⟩ := H
      go_enter Tryz.func22, Tryz.ntmps22
      go_wp2_with (first | ((with_reducible refine zG 2 rfl ?_); refine zBox 2 #[.int .i64 a0_0, .int .i64 a0_1, .int .i64 a0_2] 45 ?_; intro gb332 hg w13 hbox hb; have n0_ := Aside0.mk (below_step (by repeat (first | (with_reducible first | exact HB.out | apply below_alloc | apply pw_below_drewN | apply below_drew1) | exact HB.out)) hb); have n1_ := Aside0.mk (hbox); have n2_ := Aside0.mk ((by rw [hg]; exact (below_size (by repeat (first | (with_reducible first | exact HB.out | apply below_alloc | apply pw_below_drewN | apply below_drew1) | exact HB.out))) : w.heap.size ≤ gb332)); have n3_ := Aside0.mk ((by rw [hg]; exact (below_size (by repeat (first | (with_reducible first | exact HB.out | apply below_alloc | apply pw_below_drewN | apply below_drew1) | exact HB.out))) : w.heap.size ≤ gb332)); clear HB; have HB := n0_; have BK332 := n1_; have GW332 := n2_; have GE332 := n3_; clear n0_ n1_ n2_ n3_; clear hb hbox hg; have hcz14_0 := zC BK332; have hfz14_0 := zF BK332) | ((with_reducible refine gate_callee (f := 58) rfl ?_); refine goesL_ (some 7) rfl rfl Tryz.func58 (by kernel_rfl) rfl #[.agg #[.int .i64 a0_0, .int .i64 a0_1, .int .i64 a0_2]] rfl (by (try simp only [List.map_toArray, List.map_cons, List.map_nil]); first | done | rfl | (simp only [List.length_drop, List.length_take]; rfl)) ?_; (with_reducible refine (dial_isMoon.calls a0_0 a0_1 a0_2 true _ A3.out).mono ?_); rintro e w15 ⟨rfl, hb⟩; refine ⟨_, rfl, ?_⟩; have n0_ := Aside0.mk (blk_below (g := gb332) (o := .cells #[.int .i64 a0_0, .int .i64 a0_1, .int .i64 a0_2] 45 (0, 0)) (by (with_reducible repeat (first | refine blk_drewN ?_ _ | refine blk_drew ?_ | refine blk_alloc ?_ _)); exact BK332.out) hb); have n1_ := Aside0.mk (below_step (by repeat (first | (with_reducible first | exact HB.out | apply below_alloc | apply pw_below_drewN | apply below_drew1 | refine below_set ?_ GE332.out) | exact HB.out)) hb); clear BK332; clear HB; have BK332 := n0_; have HB := n1_; clear n0_ n1_; (try clear hb); (try clear hb2); (try clear hk); (try clear hi)) | (go_at_call 59; (with_reducible refine (dial_isDay.calls a1 false _ A5.out).mono ?_); rintro e w' ⟨rfl, ⟨nd, rfl⟩⟩))
      go_ret2
      exact ⟨by first | rfl | (simp [errW_none, errW_some] <;> rfl) | (simp [*, errW_none, errW_some] <;> rfl), by repeat (first | (with_reducible first | exact HB.out | apply below_alloc | apply pw_below_drewN | apply below_drew1 | refine below_set ?_ GE332.out) | exact HB.out)⟩
  · replace c4 := Bool.eq_false_iff.mpr c4
    subst c4
    have H1 : (some (0, 2)) = some (r1, r2) := by rw [if_neg (show ¬ (false = true) by decide)] at H; exact H
    clear H
    have H := H1
    clear H1
    simp only [Option.some.injEq, Prod.mk.injEq] at H
    obtain ⟨rfl, rfl⟩ := H
    go_enter Tryz.func22, Tryz.ntmps22
    go_wp2_with (first | ((with_reducible refine zG 2 rfl ?_); refine zBox 2 #[.int .i64 a0_0, .int .i64 a0_1, .int .i64 a0_2] 45 ?_; intro gb332 hg w16 hbox hb; have n0_ := Aside0.mk (below_step (by repeat (first | (with_reducible first | exact HB.out | apply below_alloc | apply pw_below_drewN | apply below_drew1) | exact HB.out)) hb); have n1_ := Aside0.mk (hbox); have n2_ := Aside0.mk ((by rw [hg]; exact (below_size (by repeat (first | (with_reducible first | exact HB.out | apply below_alloc | apply pw_below_drewN | apply below_drew1) | exact HB.out))) : w.heap.size ≤ gb332)); have n3_ := Aside0.mk ((by rw [hg]; exact (below_size (by repeat (first | (with_reducible first | exact HB.out | apply below_alloc | apply pw_below_drewN | apply below_drew1) | exact HB.out))) : w.heap.size ≤ gb332)); clear HB; have HB := n0_; have BK332 := n1_; have GW332 := n2_; have GE332 := n3_; clear n0_ n1_ n2_ n3_; clear hb hbox hg; have hcz17_0 := zC BK332; have hfz17_0 := zF BK332) | ((with_reducible refine gate_callee (f := 58) rfl ?_); refine goesL_ (some 7) rfl rfl Tryz.func58 (by kernel_rfl) rfl #[.agg #[.int .i64 a0_0, .int .i64 a0_1, .int .i64 a0_2]] rfl (by (try simp only [List.map_toArray, List.map_cons, List.map_nil]); first | done | rfl | (simp only [List.length_drop, List.length_take]; rfl)) ?_; (with_reducible refine (dial_isMoon.calls a0_0 a0_1 a0_2 false _ A3.out).mono ?_); rintro e w18 ⟨rfl, hb⟩; refine ⟨_, rfl, ?_⟩; have n0_ := Aside0.mk (blk_below (g := gb332) (o := .cells #[.int .i64 a0_0, .int .i64 a0_1, .int .i64 a0_2] 45 (0, 0)) (by (with_reducible repeat (first | refine blk_drewN ?_ _ | refine blk_drew ?_ | refine blk_alloc ?_ _)); exact BK332.out) hb); have n1_ := Aside0.mk (below_step (by repeat (first | (with_reducible first | exact HB.out | apply below_alloc | apply pw_below_drewN | apply below_drew1 | refine below_set ?_ GE332.out) | exact HB.out)) hb); clear BK332; clear HB; have BK332 := n0_; have HB := n1_; clear n0_ n1_; (try clear hb); (try clear hb2); (try clear hk); (try clear hi)))
    go_ret2
    exact ⟨by first | rfl | (simp [errW_none, errW_some] <;> rfl) | (simp [*, errW_none, errW_some] <;> rfl), by repeat (first | (with_reducible first | exact HB.out | apply below_alloc | apply pw_below_drewN | apply below_drew1 | refine below_set ?_ GE332.out) | exact HB.out)⟩
def tellurionref06_Moon.f (a0_0 : Int) (a0_1 : Int) (a0_2 : Int) : Option (Bool) := (tellurionref06_in.f a0_1 1 1000).bind fun t337 => (if t337 = true then ((tellurionref06_in.f a0_0 (wrap64 (29 * a0_1)) (wrap64 (30 * a0_1))).bind fun t338 => (if t338 = true then ((tellurionref06_in.f a0_2 0 (wrap64 (a0_0 - 1))).bind fun t339 => (some t339)) else (some false))) else (some false))
set_option maxHeartbeats 8000000 in
set_option maxRecDepth 100000 in
theorem tellurionref06_Moon.calls (a0_0 : Int) (a0_1 : Int) (a0_2 : Int) (r : Bool) (w : World) (h : tellurionref06_Moon.f a0_0 a0_1 a0_2 = some r) :
    Calls Tryz.prog 23 #[.agg #[.int .i64 a0_0, .int .i64 a0_1, .int .i64 a0_2]] w fun e w' => e = .returned (.bool r) ∧ Below w.heap.size w w' := by
  have hu45 := Tryz.underlying45
  have HB := Aside0.mk (Below.refl w.heap.size w)
  have H : ((tellurionref06_in.f a0_1 1 1000).bind fun t337 => (if t337 = true then ((tellurionref06_in.f a0_0 (wrap64 (29 * a0_1)) (wrap64 (30 * a0_1))).bind fun t338 => (if t338 = true then ((tellurionref06_in.f a0_2 0 (wrap64 (a0_0 - 1))).bind fun t339 => (some t339)) else (some false))) else (some false))) = some r := h
  clear h
  replace H := Option.bind_eq_some_iff.mp H
  obtain ⟨t337, A20, H⟩ := H
  replace H : (if t337 = true then ((tellurionref06_in.f a0_0 (wrap64 (29 * a0_1)) (wrap64 (30 * a0_1))).bind fun t338 => (if t338 = true then ((tellurionref06_in.f a0_2 0 (wrap64 (a0_0 - 1))).bind fun t339 => (some t339)) else (some false))) else (some false)) = some r := H
  have A2 := Aside0.mk A20
  clear A20
  by_cases c3 : t337 = true
  · subst c3
    have H1 : ((tellurionref06_in.f a0_0 (wrap64 (29 * a0_1)) (wrap64 (30 * a0_1))).bind fun t338 => (if t338 = true then ((tellurionref06_in.f a0_2 0 (wrap64 (a0_0 - 1))).bind fun t339 => (some t339)) else (some false))) = some r := by rw [if_pos rfl] at H; exact H
    clear H
    have H := H1
    clear H1
    replace H := Option.bind_eq_some_iff.mp H
    obtain ⟨t338, A40, H⟩ := H
    replace H : (if t338 = true then ((tellurionref06_in.f a0_2 0 (wrap64 (a0_0 - 1))).bind fun t339 => (some t339)) else (some false)) = some r := H
    have A4 := Aside0.mk A40
    clear A40
    by_cases c5 : t338 = true
    · subst c5
      have H1 : ((tellurionref06_in.f a0_2 0 (wrap64 (a0_0 - 1))).bind fun t339 => (some t339)) = some r := by rw [if_pos rfl] at H; exact H
      clear H
      have H := H1
      clear H1
      replace H := Option.bind_eq_some_iff.mp H
      obtain ⟨t339, A60, H⟩ := H
      replace H : (some t339) = some r := H
      have A6 := Aside0.mk A60
      clear A60
      obtain rfl := Option.some.inj H
      go_enter Tryz.func23, Tryz.ntmps23
      go_wp2_with (first | ((with_reducible refine zG 1 rfl ?_); refine zBox 1 #[.int .i64 a0_0, .int .i64 a0_1, .int .i64 a0_2] 45 ?_; intro gb336 hg w7 hbox hb; have n0_ := Aside0.mk (below_step (by repeat (first | (with_reducible first | exact HB.out | apply below_alloc | apply pw_below_drewN | apply below_drew1) | exact HB.out)) hb); have n1_ := Aside0.mk (hbox); have n2_ := Aside0.mk ((by rw [hg]; exact (below_size (by repeat (first | (with_reducible first | exact HB.out | apply below_alloc | apply pw_below_drewN | apply below_drew1) | exact HB.out))) : w.heap.size ≤ gb336)); have n3_ := Aside0.mk ((by rw [hg]; exact (below_size (by repeat (first | (with_reducible first | exact HB.out | apply below_alloc | apply pw_below_drewN | apply below_drew1) | exact HB.out))) : w.heap.size ≤ gb336)); clear HB; have HB := n0_; have BK336 := n1_; have GW336 := n2_; have GE336 := n3_; clear n0_ n1_ n2_ n3_; clear hb hbox hg; have hcz8_0 := zC BK336; have hfz8_0 := zF BK336) | ((with_reducible refine gate_callee (f := 51) rfl ?_); refine goesL_ (some 5) rfl rfl Tryz.func51 (by kernel_rfl) rfl #[.int .i64 a0_1, .int .i64 1, .int .i64 1000] rfl (by (try simp only [List.map_toArray, List.map_cons, List.map_nil]); first | done | rfl | (simp only [List.length_drop, List.length_take]; rfl)) ?_; (with_reducible refine (tellurionref06_in.calls a0_1 1 1000 true _ A2.out).mono ?_); rintro e w' ⟨rfl, ⟨nd, rfl⟩⟩; refine ⟨_, rfl, ?_⟩) | (go_at_call 51; (with_reducible refine (tellurionref06_in.calls a0_0 (wrap64 (29 * a0_1)) (wrap64 (30 * a0_1)) true _ A4.out).mono ?_); rintro e w' ⟨rfl, ⟨nd, rfl⟩⟩) | (go_at_call 51; (with_reducible refine (tellurionref06_in.calls a0_2 0 (wrap64 (a0_0 - 1)) t339 _ A6.out).mono ?_); rintro e w' ⟨rfl, ⟨nd, rfl⟩⟩))
      go_ret
      exact ⟨by first | rfl | (simp [errW_none, errW_some] <;> rfl) | (simp [*, errW_none, errW_some] <;> rfl), by repeat (first | (with_reducible first | exact HB.out | apply below_alloc | apply pw_below_drewN | apply below_drew1 | refine below_set ?_ GE336.out) | exact HB.out)⟩
    · replace c5 := Bool.eq_false_iff.mpr c5
      subst c5
      have H1 : (some false) = some r := by rw [if_neg (show ¬ (false = true) by decide)] at H; exact H
      clear H
      have H := H1
      clear H1
      obtain rfl := Option.some.inj H
      go_enter Tryz.func23, Tryz.ntmps23
      go_wp2_with (first | ((with_reducible refine zG 1 rfl ?_); refine zBox 1 #[.int .i64 a0_0, .int .i64 a0_1, .int .i64 a0_2] 45 ?_; intro gb336 hg w9 hbox hb; have n0_ := Aside0.mk (below_step (by repeat (first | (with_reducible first | exact HB.out | apply below_alloc | apply pw_below_drewN | apply below_drew1) | exact HB.out)) hb); have n1_ := Aside0.mk (hbox); have n2_ := Aside0.mk ((by rw [hg]; exact (below_size (by repeat (first | (with_reducible first | exact HB.out | apply below_alloc | apply pw_below_drewN | apply below_drew1) | exact HB.out))) : w.heap.size ≤ gb336)); have n3_ := Aside0.mk ((by rw [hg]; exact (below_size (by repeat (first | (with_reducible first | exact HB.out | apply below_alloc | apply pw_below_drewN | apply below_drew1) | exact HB.out))) : w.heap.size ≤ gb336)); clear HB; have HB := n0_; have BK336 := n1_; have GW336 := n2_; have GE336 := n3_; clear n0_ n1_ n2_ n3_; clear hb hbox hg; have hcz10_0 := zC BK336; have hfz10_0 := zF BK336) | ((with_reducible refine gate_callee (f := 51) rfl ?_); refine goesL_ (some 5) rfl rfl Tryz.func51 (by kernel_rfl) rfl #[.int .i64 a0_1, .int .i64 1, .int .i64 1000] rfl (by (try simp only [List.map_toArray, List.map_cons, List.map_nil]); first | done | rfl | (simp only [List.length_drop, List.length_take]; rfl)) ?_; (with_reducible refine (tellurionref06_in.calls a0_1 1 1000 true _ A2.out).mono ?_); rintro e w' ⟨rfl, ⟨nd, rfl⟩⟩; refine ⟨_, rfl, ?_⟩) | (go_at_call 51; (with_reducible refine (tellurionref06_in.calls a0_0 (wrap64 (29 * a0_1)) (wrap64 (30 * a0_1)) false _ A4.out).mono ?_); rintro e w' ⟨rfl, ⟨nd, rfl⟩⟩))
      go_ret
      exact ⟨by first | rfl | (simp [errW_none, errW_some] <;> rfl) | (simp [*, errW_none, errW_some] <;> rfl), by repeat (first | (with_reducible first | exact HB.out | apply below_alloc | apply pw_below_drewN | apply below_drew1 | refine below_set ?_ GE336.out) | exact HB.out)⟩
  · replace c3 := Bool.eq_false_iff.mpr c3
    subst c3
    have H1 : (some false) = some r := by rw [if_neg (show ¬ (false = true) by decide)] at H; exact H
    clear H
    have H := H1
    clear H1
    obtain rfl := Option.some.inj H
    go_enter Tryz.func23, Tryz.ntmps23
    go_wp2_with (first | ((with_reducible refine zG 1 rfl ?_); refine zBox 1 #[.int .i64 a0_0, .int .i64 a0_1, .int .i64 a0_2] 45 ?_; intro gb336 hg w11 hbox hb; have n0_ := Aside0.mk (below_step (by repeat (first | (with_reducible first | exact HB.out | apply below_alloc | apply pw_below_drewN | apply below_drew1) | exact HB.out)) hb); have n1_ := Aside0.mk (hbox); have n2_ := Aside0.mk ((by rw [hg]; exact (below_size (by repeat (first | (with_reducible first | exact HB.out | apply below_alloc | apply pw_below_drewN | apply below_drew1) | exact HB.out))) : w.heap.size ≤ gb336)); have n3_ := Aside0.mk ((by rw [hg]; exact (below_size (by repeat (first | (with_reducible first | exact HB.out | apply below_alloc | apply pw_below_drewN | apply below_drew1) | exact HB.out))) : w.heap.size ≤ gb336)); clear HB; have HB := n0_; have BK336 := n1_; have GW336 := n2_; have GE336 := n3_; clear n0_ n1_ n2_ n3_; clear hb hbox hg; have hcz12_0 := zC BK336; have hfz12_0 := zF BK336) | ((with_reducible refine gate_callee (f := 51) rfl ?_); refine goesL_ (some 5) rfl rfl Tryz.func51 (by kernel_rfl) rfl #[.int .i64 a0_1, .int .i64 1, .int .i64 1000] rfl (by (try simp only [List.map_toArray, List.map_cons, List.map_nil]); first | done | rfl | (simp only [List.length_drop, List.length_take]; rfl)) ?_; (with_reducible refine (tellurionref06_in.calls a0_1 1 1000 false _ A2.out).mono ?_); rintro e w' ⟨rfl, ⟨nd, rfl⟩⟩; refine ⟨_, rfl, ?_⟩))
    go_ret
    exact ⟨by first | rfl | (simp [errW_none, errW_some] <;> rfl) | (simp [*, errW_none, errW_some] <;> rfl), by repeat (first | (with_reducible first | exact HB.out | apply below_alloc | apply pw_below_drewN | apply below_drew1 | refine below_set ?_ GE336.out) | exact HB.out)⟩
def tellurionref06_Number.f (a0 : Int) : Option (Bool) := (tellurionref06_in.f a0 0 2000000).bind fun t340 => (some t340)
set_option maxHeartbeats 8000000 in
set_option maxRecDepth 100000 in
theorem tellurionref06_Number.calls (a0 : Int) (r : Bool) (w : World) (h : tellurionref06_Number.f a0 = some r) :
    Calls Tryz.prog 24 #[.int .i64 a0] w fun e w' => e = .returned (.bool r) ∧ Drawn0 w w' := by
  have H : ((tellurionref06_in.f a0 0 2000000).bind fun t340 => (some t340)) = some r := h
  clear h
  replace H := Option.bind_eq_some_iff.mp H
  obtain ⟨t340, A20, H⟩ := H
  replace H : (some t340) = some r := H
  have A2 := Aside0.mk A20
  clear A20
  obtain rfl := Option.some.inj H
  go_enter Tryz.func24, Tryz.ntmps24
  go_wp2_with (first | ((with_reducible refine gate_callee (f := 51) rfl ?_); refine goesL_ (some 4) rfl rfl Tryz.func51 (by kernel_rfl) rfl #[.int .i64 a0, .int .i64 0, .int .i64 2000000] rfl (by (try simp only [List.map_toArray, List.map_cons, List.map_nil]); first | done | rfl | (simp only [List.length_drop, List.length_take]; rfl)) ?_; (with_reducible refine (tellurionref06_in.calls a0 0 2000000 t340 _ A2.out).mono ?_); rintro e w' ⟨rfl, ⟨nd, rfl⟩⟩; refine ⟨_, rfl, ?_⟩))
  go_ret
  exact ⟨by first | rfl | (simp; done) | (simp [*]; done), by repeat (first | exact Drawn0.refl _ | apply Drawn0.step)⟩
def tellurionref06_floor.f (a0 : Int) (a1 : Int) : Option (Int) := if a1 = 0 then (none) else (if (wrap64 ((wrap64 (Int.tdiv a0 a1)) * a1)) > a0 then (some (wrap64 ((wrap64 (Int.tdiv a0 a1)) - 1))) else (some (wrap64 (Int.tdiv a0 a1))))
set_option maxHeartbeats 8000000 in
set_option maxRecDepth 100000 in
theorem tellurionref06_floor.calls (a0 : Int) (a1 : Int) (r : Int) (w : World) (h : tellurionref06_floor.f a0 a1 = some r) :
    Calls Tryz.prog 88 #[.int .i64 a0, .int .i64 a1] w fun e w' => e = .returned (.int .i64 r) ∧ Drawn0 w w' := by
  have H : (if a1 = 0 then (none) else (if (wrap64 ((wrap64 (Int.tdiv a0 a1)) * a1)) > a0 then (some (wrap64 ((wrap64 (Int.tdiv a0 a1)) - 1))) else (some (wrap64 (Int.tdiv a0 a1))))) = some r := h
  clear h
  by_cases c3 : a1 = 0
  · rw [if_pos c3] at H
    exact absurd H (by simp)
  · rw [if_neg c3] at H
    have c3b0 : (a1 == 0) = false := beq_eq_false_iff_ne.mpr c3
    have c3b1 : (a1 != 0) = true := bne_iff_ne.mpr c3
    by_cases c4 : (wrap64 ((wrap64 (Int.tdiv a0 a1)) * a1)) > a0
    · rw [if_pos c4] at H
      have c4b0 : decide (a0 < (wrap64 ((wrap64 (Int.tdiv a0 a1)) * a1))) = true := decide_eq_true c4
      clear c4
      obtain rfl := Option.some.inj H
      go_enter Tryz.func88, Tryz.ntmps88
      go_wp2
      go_ret
      exact ⟨by first | rfl | (simp; done) | (simp [*]; done), by repeat (first | exact Drawn0.refl _ | apply Drawn0.step)⟩
    · rw [if_neg c4] at H
      have c4b0 : decide (a0 < (wrap64 ((wrap64 (Int.tdiv a0 a1)) * a1))) = false := decide_eq_false c4
      clear c4
      obtain rfl := Option.some.inj H
      go_enter Tryz.func88, Tryz.ntmps88
      go_wp2
      go_ret
      exact ⟨by first | rfl | (simp; done) | (simp [*]; done), by repeat (first | exact Drawn0.refl _ | apply Drawn0.step)⟩
def tellurionref06_New.l0 : Nat → Int → Int → Int → Int → Int → Option (Bool)
  | 0, _, _, _, _, _ => none
  | k + 1, x1, x5, x342000, x342001, x342002 => (tellurionref06_floor.f (wrap64 ((wrap64 (x5 * x342000)) + x342002)) x342001).bind fun t343 => (if t343 < x1 then (tellurionref06_New.l0 k x1 (wrap64 (x5 + 1)) x342000 x342001 x342002) else ((tellurionref06_floor.f (wrap64 ((wrap64 (x5 * x342000)) + x342002)) x342001).bind fun t344 => (some (t344 == x1))))
def tellurionref06_New.f (k : Nat) (a0_0 : Int) (a0_1 : Int) (a0_2 : Int) (a1 : Int) : Option (Bool) := (tellurionref06_floor.f (wrap64 ((wrap64 (a1 * a0_1)) - a0_2)) a0_0).bind fun t342 => (tellurionref06_New.l0 k a1 t342 a0_0 a0_1 a0_2)
set_option maxHeartbeats 8000000 in
set_option maxRecDepth 100000 in
theorem tellurionref06_New.calls (k : Nat) (a0_0 : Int) (a0_1 : Int) (a0_2 : Int) (a1 : Int) (r : Bool) (w : World) (h : tellurionref06_New.f k a0_0 a0_1 a0_2 a1 = some r) :
    Calls Tryz.prog 61 #[.agg #[.int .i64 a0_0, .int .i64 a0_1, .int .i64 a0_2], .int .i64 a1] w fun e w' => e = .returned (.bool r) ∧ Below w.heap.size w w' := by
  have hu45 := Tryz.underlying45
  have HB := Aside0.mk (Below.refl w.heap.size w)
  have H : ((tellurionref06_floor.f (wrap64 ((wrap64 (a1 * a0_1)) - a0_2)) a0_0).bind fun t342 => (tellurionref06_New.l0 k a1 t342 a0_0 a0_1 a0_2)) = some r := h
  clear h
  replace H := Option.bind_eq_some_iff.mp H
  obtain ⟨t342, A30, H⟩ := H
  replace H : (tellurionref06_New.l0 k a1 t342 a0_0 a0_1 a0_2) = some r := H
  have A3 := Aside0.mk A30
  clear A30
  have H' := Aside0.mk H
  clear H
  go_enter Tryz.func61, Tryz.ntmps61
  go_wp2_with (first | ((with_reducible refine zG 2 rfl ?_); refine zBox 2 #[.int .i64 a0_0, .int .i64 a0_1, .int .i64 a0_2] 45 ?_; intro gb341 hg w4 hbox hb; have n0_ := Aside0.mk (below_step (by repeat (first | (with_reducible first | exact HB.out | apply below_alloc | apply pw_below_drewN | apply below_drew1) | exact HB.out)) hb); have n1_ := Aside0.mk (hbox); have n2_ := Aside0.mk ((by rw [hg]; exact (below_size (by repeat (first | (with_reducible first | exact HB.out | apply below_alloc | apply pw_below_drewN | apply below_drew1) | exact HB.out))) : w.heap.size ≤ gb341)); have n3_ := Aside0.mk ((by rw [hg]; exact (below_size (by repeat (first | (with_reducible first | exact HB.out | apply below_alloc | apply pw_below_drewN | apply below_drew1) | exact HB.out))) : w.heap.size ≤ gb341)); clear HB; have HB := n0_; have BK341 := n1_; have GW341 := n2_; have GE341 := n3_; clear n0_ n1_ n2_ n3_; clear hb hbox hg; have hcz5_0 := zC BK341; have hfz5_0 := zF BK341) | ((with_reducible refine gate_callee (f := 88) rfl ?_); refine goesL_ (some 15) rfl rfl Tryz.func88 (by kernel_rfl) rfl #[.int .i64 (wrap64 ((wrap64 (a1 * a0_1)) - a0_2)), .int .i64 a0_0] rfl (by (try simp only [List.map_toArray, List.map_cons, List.map_nil]); first | done | rfl | (simp only [List.length_drop, List.length_take]; rfl)) ?_; (with_reducible refine (tellurionref06_floor.calls (wrap64 ((wrap64 (a1 * a0_1)) - a0_2)) a0_0 t342 _ A3.out).mono ?_); rintro e w' ⟨rfl, ⟨nd, rfl⟩⟩; refine ⟨_, rfl, ?_⟩))
  go_loopg [5] k (fun kq v5 w' => ∃ (x5_1 : Int), v5 = .int .i64 x5_1 ∧ Aside0 (tellurionref06_New.l0 kq a1 x5_1 a0_0 a0_1 a0_2 = some r) ∧ Aside0 (kq ≤ k) ∧ Aside0 (w'.heap[gb341]? = some (.cells #[.int .i64 a0_0, .int .i64 a0_1, .int .i64 a0_2] 45 (0, 0))) ∧ Aside0 (Below w.heap.size w w'))
  case atStart => exact ⟨(t342), (by first | rfl | (simp; done) | (simp [*]; done)), H', ⟨Nat.le_refl _⟩, ⟨by (with_reducible repeat (first | refine blk_drewN ?_ _ | refine blk_drew ?_ | refine blk_alloc ?_ _)); exact BK341.out⟩, ⟨by repeat (first | (with_reducible first | exact HB.out | apply below_alloc | apply pw_below_drewN | apply below_drew1 | refine below_set ?_ GE341.out) | exact HB.out)⟩⟩
  case round =>
    clear H'
    try clear p2
    try clear hcz5_0
    try clear hfz5_0
    obtain ⟨x5_1, rfl, HA, HK1, BK341, HB⟩ := hrel
    cases gk with
    | zero => exact absurd HA.out (by simp [tellurionref06_New.l0])
    | succ k1 =>
      have H := HA.out
      clear HA
      simp only [tellurionref06_New.l0] at H
      replace H := Option.bind_eq_some_iff.mp H
      obtain ⟨t343, A60, H⟩ := H
      replace H : (if t343 < a1 then (tellurionref06_New.l0 k1 a1 (wrap64 (x5_1 + 1)) a0_0 a0_1 a0_2) else ((tellurionref06_floor.f (wrap64 ((wrap64 (x5_1 * a0_0)) + a0_2)) a0_1).bind fun t344 => (some (t344 == a1)))) = some r := H
      have A6 := Aside0.mk A60
      clear A60
      by_cases c7 : t343 < a1
      · rw [if_pos c7] at H
        have c7b0 : decide (t343 < a1) = true := decide_eq_true c7
        clear c7
        have H' := Aside0.mk H
        clear H
        have hcz8_0 := zC BK341
        have hfz8_0 := zF BK341
        go_wp2_with (first | ((with_reducible refine gate_callee (f := 88) rfl ?_); refine goesL_ (some 25) rfl rfl Tryz.func88 (by kernel_rfl) rfl #[.int .i64 (wrap64 ((wrap64 (x5_1 * a0_0)) + a0_2)), .int .i64 a0_1] rfl (by (try simp only [List.map_toArray, List.map_cons, List.map_nil]); first | done | rfl | (simp only [List.length_drop, List.length_take]; rfl)) ?_; (with_reducible refine (tellurionref06_floor.calls (wrap64 ((wrap64 (x5_1 * a0_0)) + a0_2)) a0_1 t343 _ A6.out).mono ?_); rintro e w' ⟨rfl, ⟨nd, rfl⟩⟩; refine ⟨_, rfl, ?_⟩))
        go_roundg k1
        case measure => have := HK1.out; omega
        case rel => exact ⟨(wrap64 (x5_1 + 1)), (by first | rfl | (simp; done) | (simp [*]; done)), H', ⟨by have := HK1.out; omega⟩, ⟨by (with_reducible repeat (first | refine blk_drewN ?_ _ | refine blk_drew ?_ | refine blk_alloc ?_ _)); exact BK341.out⟩, ⟨by repeat (first | (with_reducible first | exact HB.out | apply below_alloc | apply pw_below_drewN | apply below_drew1 | refine below_set ?_ GE341.out) | exact HB.out)⟩⟩
      · rw [if_neg c7] at H
        have c7b0 : decide (t343 < a1) = false := decide_eq_false c7
        clear c7
        replace H := Option.bind_eq_some_iff.mp H
        obtain ⟨t344, A90, H⟩ := H
        replace H : (some (t344 == a1)) = some r := H
        have A9 := Aside0.mk A90
        clear A90
        obtain rfl := Option.some.inj H
        have hcz10_0 := zC BK341
        have hfz10_0 := zF BK341
        go_wp2_with (first | ((with_reducible refine gate_callee (f := 88) rfl ?_); refine goesL_ (some 25) rfl rfl Tryz.func88 (by kernel_rfl) rfl #[.int .i64 (wrap64 ((wrap64 (x5_1 * a0_0)) + a0_2)), .int .i64 a0_1] rfl (by (try simp only [List.map_toArray, List.map_cons, List.map_nil]); first | done | rfl | (simp only [List.length_drop, List.length_take]; rfl)) ?_; (with_reducible refine (tellurionref06_floor.calls (wrap64 ((wrap64 (x5_1 * a0_0)) + a0_2)) a0_1 t343 _ A6.out).mono ?_); rintro e w' ⟨rfl, ⟨nd, rfl⟩⟩; refine ⟨_, rfl, ?_⟩) | ((with_reducible refine gate_callee (f := 88) rfl ?_); refine goesL_ (some 39) rfl rfl Tryz.func88 (by kernel_rfl) rfl #[.int .i64 (wrap64 ((wrap64 (x5_1 * a0_0)) + a0_2)), .int .i64 a0_1] rfl (by (try simp only [List.map_toArray, List.map_cons, List.map_nil]); first | done | rfl | (simp only [List.length_drop, List.length_take]; rfl)) ?_; (with_reducible refine (tellurionref06_floor.calls (wrap64 ((wrap64 (x5_1 * a0_0)) + a0_2)) a0_1 t344 _ A9.out).mono ?_); rintro e w' ⟨rfl, ⟨nd, rfl⟩⟩; refine ⟨_, rfl, ?_⟩))
        go_ret
        exact ⟨by first | rfl | (simp [errW_none, errW_some] <;> rfl) | (simp [*, errW_none, errW_some] <;> rfl), by repeat (first | (with_reducible first | exact HB.out | apply below_alloc | apply pw_below_drewN | apply below_drew1 | refine below_set ?_ GE341.out) | exact HB.out)⟩
def tellurionref06_Age.l0 : Nat → Int → Int → Int → Int → Int → Option (Int)
  | 0, _, _, _, _, _ => none
  | k + 1, x1, x5, x346000, x346001, x346002 => (tellurionref06_New.f k x346000 x346001 x346002 (wrap64 (x1 - x5))).bind fun t346 => (if t346 = true then (some x5) else (tellurionref06_Age.l0 k x1 (wrap64 (x5 + 1)) x346000 x346001 x346002))
def tellurionref06_Age.f (k : Nat) (a0_0 : Int) (a0_1 : Int) (a0_2 : Int) (a1 : Int) : Option (Int) := tellurionref06_Age.l0 k a1 0 a0_0 a0_1 a0_2
set_option maxHeartbeats 8000000 in
set_option maxRecDepth 100000 in
theorem tellurionref06_Age.calls (k : Nat) (a0_0 : Int) (a0_1 : Int) (a0_2 : Int) (a1 : Int) (r : Int) (w : World) (h : tellurionref06_Age.f k a0_0 a0_1 a0_2 a1 = some r) :
    Calls Tryz.prog 25 #[.agg #[.int .i64 a0_0, .int .i64 a0_1, .int .i64 a0_2], .int .i64 a1] w fun e w' => e = .returned (.int .i64 r) ∧ Below w.heap.size w w' := by
  have hu45 := Tryz.underlying45
  have HB := Aside0.mk (Below.refl w.heap.size w)
  have H : (tellurionref06_Age.l0 k a1 0 a0_0 a0_1 a0_2) = some r := h
  clear h
  have H' := Aside0.mk H
  clear H
  go_enter Tryz.func25, Tryz.ntmps25
  go_wp2_with (first | ((with_reducible refine zG 2 rfl ?_); refine zBox 2 #[.int .i64 a0_0, .int .i64 a0_1, .int .i64 a0_2] 45 ?_; intro gb345 hg w3 hbox hb; have n0_ := Aside0.mk (below_step (by repeat (first | (with_reducible first | exact HB.out | apply below_alloc | apply pw_below_drewN | apply below_drew1) | exact HB.out)) hb); have n1_ := Aside0.mk (hbox); have n2_ := Aside0.mk ((by rw [hg]; exact (below_size (by repeat (first | (with_reducible first | exact HB.out | apply below_alloc | apply pw_below_drewN | apply below_drew1) | exact HB.out))) : w.heap.size ≤ gb345)); have n3_ := Aside0.mk ((by rw [hg]; exact (below_size (by repeat (first | (with_reducible first | exact HB.out | apply below_alloc | apply pw_below_drewN | apply below_drew1) | exact HB.out))) : w.heap.size ≤ gb345)); clear HB; have HB := n0_; have BK345 := n1_; have GW345 := n2_; have GE345 := n3_; clear n0_ n1_ n2_ n3_; clear hb hbox hg))
  go_loopg [5] k (fun kq v5 w' => ∃ (x5_1 : Int), v5 = .int .i64 x5_1 ∧ Aside0 (tellurionref06_Age.l0 kq a1 x5_1 a0_0 a0_1 a0_2 = some r) ∧ Aside0 (kq ≤ k) ∧ Aside0 (w'.heap[gb345]? = some (.cells #[.int .i64 a0_0, .int .i64 a0_1, .int .i64 a0_2] 45 (0, 0))) ∧ Aside0 (Below w.heap.size w w'))
  case atStart => exact ⟨(0), (by first | rfl | (simp; done) | (simp [*]; done)), H', ⟨Nat.le_refl _⟩, ⟨by (with_reducible repeat (first | refine blk_drewN ?_ _ | refine blk_drew ?_ | refine blk_alloc ?_ _)); exact BK345.out⟩, ⟨by repeat (first | (with_reducible first | exact HB.out | apply below_alloc | apply pw_below_drewN | apply below_drew1 | refine below_set ?_ GE345.out) | exact HB.out)⟩⟩
  case round =>
    clear H'
    try clear c2
    try clear p2
    obtain ⟨x5_1, rfl, HA, HK1, BK345, HB⟩ := hrel
    cases gk with
    | zero => exact absurd HA.out (by simp [tellurionref06_Age.l0])
    | succ k1 =>
      have H := HA.out
      clear HA
      simp only [tellurionref06_Age.l0] at H
      replace H := Option.bind_eq_some_iff.mp H
      obtain ⟨t346, A40, H⟩ := H
      replace H : (if t346 = true then (some x5_1) else (tellurionref06_Age.l0 k1 a1 (wrap64 (x5_1 + 1)) a0_0 a0_1 a0_2)) = some r := H
      have A4 := Aside0.mk A40
      clear A40
      by_cases c5 : t346 = true
      · subst c5
        have H1 : (some x5_1) = some r := by rw [if_pos rfl] at H; exact H
        clear H
        have H := H1
        clear H1
        obtain rfl := Option.some.inj H
        have hcz6_0 := zC BK345
        have hfz6_0 := zF BK345
        go_wp2_with (first | ((with_reducible refine gate_callee (f := 61) rfl ?_); refine goesL_ (some 10) rfl rfl Tryz.func61 (by kernel_rfl) rfl #[.agg #[.int .i64 a0_0, .int .i64 a0_1, .int .i64 a0_2], .int .i64 (wrap64 (a1 - x5_1))] rfl (by (try simp only [List.map_toArray, List.map_cons, List.map_nil]); first | done | rfl | (simp only [List.length_drop, List.length_take]; rfl)) ?_; (with_reducible refine (tellurionref06_New.calls k1 a0_0 a0_1 a0_2 (wrap64 (a1 - x5_1)) true _ A4.out).mono ?_); rintro e w7 ⟨rfl, hb⟩; refine ⟨_, rfl, ?_⟩; have n0_ := Aside0.mk (blk_below (g := gb345) (o := .cells #[.int .i64 a0_0, .int .i64 a0_1, .int .i64 a0_2] 45 (0, 0)) (by (with_reducible repeat (first | refine blk_drewN ?_ _ | refine blk_drew ?_ | refine blk_alloc ?_ _)); exact BK345.out) hb); have n1_ := Aside0.mk (below_step (by repeat (first | (with_reducible first | exact HB.out | apply below_alloc | apply pw_below_drewN | apply below_drew1 | refine below_set ?_ GE345.out) | exact HB.out)) hb); clear BK345; clear HB; have BK345 := n0_; have HB := n1_; clear n0_ n1_; (try clear hb); (try clear hb2); (try clear hk); (try clear hi)))
        go_ret
        exact ⟨by first | rfl | (simp [errW_none, errW_some] <;> rfl) | (simp [*, errW_none, errW_some] <;> rfl), by repeat (first | (with_reducible first | exact HB.out | apply below_alloc | apply pw_below_drewN | apply below_drew1 | refine below_set ?_ GE345.out) | exact HB.out)⟩
      · replace c5 := Bool.eq_false_iff.mpr c5
        subst c5
        have H1 : (tellurionref06_Age.l0 k1 a1 (wrap64 (x5_1 + 1)) a0_0 a0_1 a0_2) = some r := by rw [if_neg (show ¬ (false = true) by decide)] at H; exact H
        clear H
        have H := H1
        clear H1
        have H' := Aside0.mk H
        clear H
        have hcz8_0 := zC BK345
        have hfz8_0 := zF BK345
        go_wp2_with (first | ((with_reducible refine gate_callee (f := 61) rfl ?_); refine goesL_ (some 10) rfl rfl Tryz.func61 (by kernel_rfl) rfl #[.agg #[.int .i64 a0_0, .int .i64 a0_1, .int .i64 a0_2], .int .i64 (wrap64 (a1 - x5_1))] rfl (by (try simp only [List.map_toArray, List.map_cons, List.map_nil]); first | done | rfl | (simp only [List.length_drop, List.length_take]; rfl)) ?_; (with_reducible refine (tellurionref06_New.calls k1 a0_0 a0_1 a0_2 (wrap64 (a1 - x5_1)) false _ A4.out).mono ?_); rintro e w9 ⟨rfl, hb⟩; refine ⟨_, rfl, ?_⟩; have n0_ := Aside0.mk (blk_below (g := gb345) (o := .cells #[.int .i64 a0_0, .int .i64 a0_1, .int .i64 a0_2] 45 (0, 0)) (by (with_reducible repeat (first | refine blk_drewN ?_ _ | refine blk_drew ?_ | refine blk_alloc ?_ _)); exact BK345.out) hb); have n1_ := Aside0.mk (below_step (by repeat (first | (with_reducible first | exact HB.out | apply below_alloc | apply pw_below_drewN | apply below_drew1 | refine below_set ?_ GE345.out) | exact HB.out)) hb); clear BK345; clear HB; have BK345 := n0_; have HB := n1_; clear n0_ n1_; (try clear hb); (try clear hb2); (try clear hk); (try clear hi)))
        go_roundg k1
        case measure => have := HK1.out; omega
        case rel => exact ⟨(wrap64 (x5_1 + 1)), (by first | rfl | (simp; done) | (simp [*]; done)), H', ⟨by have := HK1.out; omega⟩, ⟨by (with_reducible repeat (first | refine blk_drewN ?_ _ | refine blk_drew ?_ | refine blk_alloc ?_ _)); exact BK345.out⟩, ⟨by repeat (first | (with_reducible first | exact HB.out | apply below_alloc | apply pw_below_drewN | apply below_drew1 | refine below_set ?_ GE345.out) | exact HB.out)⟩⟩
end Go.Proofs.YtnllidgonghckaaGreatDoor.X
namespace Go.Proofs.YtnllidgonghckaaGreatDoor.X
open Go.RowKit Go.Proofs.YtnllidgonghckaaGreatDoorW.PrintWords Go.Proofs.YtnllidgonghckaaGreatDoorW.PrintLast Go.Proofs.YtnllidgonghckaaGreatDoorW.PrintMore
attribute [local go_sem] max2_int min2_int max_two min_two max_three min_three max_four min_four
set_option linter.unusedVariables false
set_option linter.unusedSimpArgs false
def tellurionlaw06_DialAges.j0 : Nat → Int → Int → Int → Bool → Int → Int → Int → Option (Bool)
  | 0, _, _, _, _, _, _, _ => none
  | k + 1, x1, x5, x6, x20, x348000, x348001, x348002 => if x20 = true then (if x6 = 2 then (if x5 = 0 then ((tellurionlaw06_known.f).bind fun t352 => (some t352)) else (none)) else (none)) else (if x6 = 0 then ((tellurionref06_Age.f k x348000 x348001 x348002 x1).bind fun t353 => (if x5 = t353 then ((tellurionlaw06_known.f).bind fun t354 => (some t354)) else (none))) else (none))
def tellurionlaw06_DialAges.f (k : Nat) (a0_0 : Int) (a0_1 : Int) (a0_2 : Int) (a1 : Int) : Option (Bool) := (dial_Age.f a0_0 a0_1 a0_2 a1).bind fun bt348 => ((tellurionref06_Moon.f a0_0 a0_1 a0_2).bind fun t350 => (if t350 = true then ((tellurionref06_Number.f a1).bind fun t351 => (tellurionlaw06_DialAges.j0 k a1 bt348.1 bt348.2 (!t351) a0_0 a0_1 a0_2)) else (tellurionlaw06_DialAges.j0 k a1 bt348.1 bt348.2 true a0_0 a0_1 a0_2)))
end Go.Proofs.YtnllidgonghckaaGreatDoor.X
namespace Go.Proofs.YtnllidgonghckaaGreatDoor.X
open Go.RowKit Go.Proofs.YtnllidgonghckaaGreatDoorW.PrintWords Go.Proofs.YtnllidgonghckaaGreatDoorW.PrintLast Go.Proofs.YtnllidgonghckaaGreatDoorW.PrintMore Go.Proofs.YtnllidgonghckaaGreatDoor.Dm
set_option linter.unusedVariables false
set_option linter.unusedSimpArgs false
theorem refin_f (a b c : Int) : tellurionref06_in.f a b c = some (inB a b c) := by
  unfold tellurionref06_in.f inB
  by_cases h : b ≤ a
  · rw [if_pos h]; simp [h]
  · rw [if_neg h]; simp [h]
theorem refMoon_f (num den add : Int) : tellurionref06_Moon.f num den add = some (moonB num den add) := by
  unfold tellurionref06_Moon.f moonB
  rw [refin_f, Option.bind_some]
  unfold inB
  by_cases h1 : 1 ≤ den <;> by_cases h2 : den ≤ 1000
  · rw [if_pos (by simp [h1, h2]), refin_f, Option.bind_some, wrap_of (29 * den) (by omega) (by omega), wrap_of (30 * den) (by omega) (by omega)]
    unfold inB
    by_cases h3 : 29 * den ≤ num <;> by_cases h4 : num ≤ 30 * den
    · rw [if_pos (by simp [h3, h4]), refin_f, Option.bind_some, wrap_of (num - 1) (by omega) (by omega)]
      simp [inB, h1, h2, h3, h4]
    all_goals simp [h1, h2, h3, h4]
  all_goals simp [h1, h2]
theorem refNumber_f (d : Int) : tellurionref06_Number.f d = some (dayB d) := by
  unfold tellurionref06_Number.f
  rw [refin_f]
  rfl
theorem Age_f (num den add d : Int) : dial_Age.f num den add d = some (if (moonB num den add && dayB d) = true then (ageOf num den add d, 0) else (0, 2)) := by
  unfold dial_Age.f
  rw [isMoon_f, Option.bind_some]
  cases hm : moonB num den add with
  | false => simp
  | true =>
    rw [if_pos rfl, show dial_isDay.f d = some (dayB d) from isDay_f d, Option.bind_some]
    cases hd : dayB d with
    | false => simp
    | true =>
      have hb : 0 ≤ d ∧ d ≤ 2000000 := by simpa [dayB] using hd
      rw [if_pos rfl, age_f hm d hb.1 (by omega)]
      simp
end Go.Proofs.YtnllidgonghckaaGreatDoor.X
namespace Go.Proofs.YtnllidgonghckaaGreatDoor.X
open Go.RowKit Go.Proofs.YtnllidgonghckaaGreatDoorW.PrintWords Go.Proofs.YtnllidgonghckaaGreatDoorW.PrintLast Go.Proofs.YtnllidgonghckaaGreatDoorW.PrintMore Go.Proofs.YtnllidgonghckaaGreatDoor.Dm
set_option linter.unusedVariables false
set_option linter.unusedSimpArgs false
theorem reffloor_f (a b : Int) (hb : 0 < b) (ha : -1000000000000000 ≤ a ∧ a ≤ 1000000000000000) : tellurionref06_floor.f a b = some (a / b) := by
  have hq : -1000000000000000 ≤ Int.tdiv a b ∧ Int.tdiv a b ≤ 1000000000000000 := by
    have h1 := Int.natAbs_tdiv_le_natAbs a b
    omega
  have hm : -2000000000000000 ≤ Int.tdiv a b * b ∧ Int.tdiv a b * b ≤ 2000000000000000 := by
    have h1 : (Int.tdiv a b * b).natAbs ≤ a.natAbs := by
      rw [Int.natAbs_mul, Int.natAbs_tdiv]
      exact Nat.div_mul_le_self _ _
    omega
  unfold tellurionref06_floor.f
  rw [if_neg (by omega), wrap_of (Int.tdiv a b) (by omega) (by omega), wrap_of (Int.tdiv a b * b) (by omega) (by omega), wrap_of (Int.tdiv a b - 1) (by omega) (by omega), ← tdiv_floor a b hb]
  split <;> rfl
theorem refNew_step {num den add : Int} (h : moonB num den add = true) (k : Nat) (d q : Int) (hq : -1000000000000 ≤ q * num ∧ q * num ≤ 1000000000000) : tellurionref06_New.l0 (k + 1) d q num den add = if newMoon num den add q < d then tellurionref06_New.l0 k d (wrap64 (q + 1)) num den add else some (newMoon num den add q == d) := by
  obtain ⟨h1, h2, h3, h4, h5, h6⟩ := moonB_iff h
  unfold tellurionref06_New.l0
  rw [wrap_of (q * num) (by omega) (by omega), wrap_of (q * num + add) (by omega) (by omega), reffloor_f _ _ (by omega) (by omega), Option.bind_some, Option.bind_some]
  cases k <;> rfl
theorem refNew_f {num den add : Int} (h : moonB num den add = true) (d : Int) (hd : -1000 ≤ d ∧ d ≤ 100000000) (k : Nat) : tellurionref06_New.f (k + 2) num den add d = some (decide (ageOf num den add d = 0)) := by
  obtain ⟨h1, h2, h3, h4, h5, h6⟩ := moonB_iff h
  have hn : 0 < num := by omega
  have b0 : -1000000 ≤ d * den ∧ d * den ≤ 100000000000 := by
    constructor
    · rcases Int.lt_or_le d 0 with q | q
      · have := Int.mul_le_mul_of_nonneg_right hd.1 (show (0 : Int) ≤ den by omega); omega
      · have := Int.mul_nonneg q (show (0 : Int) ≤ den by omega); omega
    · rcases Int.lt_or_le d 0 with q | q
      · have := Int.mul_nonneg (show (0 : Int) ≤ -d by omega) (show (0 : Int) ≤ den by omega); rw [Int.neg_mul] at this; omega
      · have := Int.mul_le_mul hd.2 h2 (by omega) (by omega); omega
  obtain ⟨q, hq⟩ : ∃ q, (d * den - add) / num = q := ⟨_, rfl⟩
  have q1 : q * num ≤ d * den - add := by rw [← hq]; exact Int.ediv_mul_le _ (by omega)
  have q2 : d * den - add < q * num + num := by
    have := Int.lt_ediv_add_one_mul_self (d * den - add) hn
    rw [hq, Int.add_mul, Int.one_mul] at this; exact this
  have q3 : (q + 1) * num = q * num + num := by rw [Int.add_mul, Int.one_mul]
  unfold tellurionref06_New.f
  rw [wrap_of (d * den) (by omega) (by omega), wrap_of (d * den - add) (by omega) (by omega), reffloor_f _ _ hn (by omega), Option.bind_some, hq, refNew_step h (k + 1) d q (by omega)]
  have st := newMoon_step h q
  have st1 := newMoon_step h (q + 1)
  have n0 : newMoon num den add q ≤ d := (newMoon_le h q d).2 (by rw [Int.add_mul, Int.one_mul]; omega)
  have n1 : d ≤ newMoon num den add (q + 1) := by
    rcases Int.lt_or_le (newMoon num den add (q + 1)) d with c | c
    · have := (newMoon_le h (q + 1) (d - 1)).1 (by omega)
      rw [q3, show d - 1 + 1 = d by omega] at this; omega
    · exact c
  have qb : -1000000000000 ≤ q ∧ q ≤ 1000000000000 := by
    constructor
    · rcases Int.lt_or_le q (-1000000000000) with c | c
      · have := Int.mul_le_mul_of_nonneg_right (show q ≤ -1000000000000 by omega) (show (0 : Int) ≤ num by omega); omega
      · exact c
    · rcases Int.lt_or_le 1000000000000 q with c | c
      · have := Int.mul_le_mul_of_nonneg_right (show 1000000000000 ≤ q by omega) (show (0 : Int) ≤ num by omega); omega
      · exact c
  by_cases c : newMoon num den add q < d
  · rw [if_pos c, wrap_of (q + 1) (by omega) (by omega), refNew_step h k d (q + 1) (by omega), if_neg (by omega)]
    rcases Int.lt_or_le d (newMoon num den add (q + 1)) with e | e
    · rw [ageOf_of h d q n0 e, show (newMoon num den add (q + 1) == d) = false from beq_eq_false_iff_ne.2 (by omega), decide_eq_false (by omega)]
    · rw [ageOf_of h d (q + 1) e (by omega), show (newMoon num den add (q + 1) == d) = true from beq_iff_eq.2 (by omega), decide_eq_true (by omega)]
  · rw [if_neg c, ageOf_of h d q n0 (by omega), show (newMoon num den add q == d) = true from beq_iff_eq.2 (by omega), decide_eq_true (by omega)]
theorem ageOf_back {num den add : Int} (h : moonB num den add = true) (d j : Int) (h0 : 0 ≤ j) (h1 : j ≤ ageOf num den add d) : ageOf num den add (d - j) = ageOf num den add d - j := by
  obtain ⟨a, b⟩ := moonNo_spec h d
  have e : ageOf num den add d = d - newMoon num den add (moonNo num den add d) := rfl
  rw [ageOf_of h (d - j) (moonNo num den add d) (by omega) (by omega)]
  omega
theorem refAge_l {num den add : Int} (h : moonB num den add = true) (d : Int) (hd : 0 ≤ d ∧ d ≤ 100000000) : ∀ (m k : Nat) (j : Int), 0 ≤ j → j + m = ageOf num den add d → tellurionref06_Age.l0 (k + m + 3) d j num den add = some (ageOf num den add d)
  | 0, k, j, h0, h1 => by
    have r := ageOf_range h d
    have e := ageOf_back h d j h0 (by omega)
    show tellurionref06_Age.l0 ((k + 2) + 1) d j num den add = _
    unfold tellurionref06_Age.l0
    rw [wrap_of (d - j) (by omega) (by omega), refNew_f h (d - j) (by omega) k, Option.bind_some, decide_eq_true (by omega), if_pos rfl]
    congr 1
    omega
  | m + 1, k, j, h0, h1 => by
    have r := ageOf_range h d
    have e := ageOf_back h d j h0 (by omega)
    show tellurionref06_Age.l0 ((k + m + 3) + 1) d j num den add = _
    unfold tellurionref06_Age.l0
    rw [wrap_of (d - j) (by omega) (by omega), show k + m + 3 = (k + m + 1) + 2 by omega, refNew_f h (d - j) (by omega) (k + m + 1), Option.bind_some, decide_eq_false (by omega), if_neg (by decide), wrap_of (j + 1) (by omega) (by omega)]
    exact refAge_l h d hd m k (j + 1) (by omega) (by omega)
theorem refAge_f {num den add : Int} (h : moonB num den add = true) (d : Int) (hd : 0 ≤ d ∧ d ≤ 100000000) (k : Nat) : tellurionref06_Age.f (k + 40) num den add d = some (ageOf num den add d) := by
  have r := ageOf_range h d
  unfold tellurionref06_Age.f
  have := refAge_l h d hd (ageOf num den add d).toNat (k + 40 - (ageOf num den add d).toNat - 3) 0 (by omega) (by omega)
  rw [show k + 40 - (ageOf num den add d).toNat - 3 + (ageOf num den add d).toNat + 3 = k + 40 by omega] at this
  exact this
theorem DialAges_pure (n d a day : Int) : ∃ k, tellurionlaw06_DialAges.f k n d a day = some true := by
  refine ⟨41, ?_⟩
  unfold tellurionlaw06_DialAges.f
  rw [Age_f, Option.bind_some, refMoon_f, Option.bind_some]
  cases hm : moonB n d a with
  | false => rfl
  | true =>
    rw [if_pos rfl, refNumber_f, Option.bind_some]
    cases hd : dayB day with
    | false => rfl
    | true =>
      have hb : 0 ≤ day ∧ day ≤ 2000000 := by simpa [dayB] using hd
      simp only [Bool.and_self, if_true, Bool.not_true]
      unfold tellurionlaw06_DialAges.j0
      dsimp only
      rw [if_neg (by decide), if_pos rfl, refAge_f hm day (by omega) 0, Option.bind_some, if_pos rfl]
      rfl
end Go.Proofs.YtnllidgonghckaaGreatDoor.X
namespace Go.Proofs.YtnllidgonghckaaGreatDoor.X
open Go.RowKit Go.Proofs.YtnllidgonghckaaGreatDoorW.PrintWords Go.Proofs.YtnllidgonghckaaGreatDoorW.PrintLast Go.Proofs.YtnllidgonghckaaGreatDoorW.PrintMore
attribute [local go_sem] max2_int min2_int max_two min_two max_three min_three max_four min_four
set_option linter.unusedVariables false
set_option linter.unusedSimpArgs false
set_option maxHeartbeats 8000000 in
set_option maxRecDepth 100000 in
theorem tellurionlaw06_DialAges.calls (k : Nat) (a0_0 : Int) (a0_1 : Int) (a0_2 : Int) (a1 : Int) (r : Bool) (w : World) (hT : Tab w) (h : tellurionlaw06_DialAges.f k a0_0 a0_1 a0_2 a1 = some r) :
    Calls Tryz.prog 6 #[.agg #[.int .i64 a0_0, .int .i64 a0_1, .int .i64 a0_2], .int .i64 a1] w fun e w' => e = .returned (.bool r) ∧ Below w.heap.size w w' := by
  have HT := Aside0.mk hT
  clear hT
  have hu45 := Tryz.underlying45
  have HB := Aside0.mk (Below.refl w.heap.size w)
  have H : ((dial_Age.f a0_0 a0_1 a0_2 a1).bind fun bt348 => ((tellurionref06_Moon.f a0_0 a0_1 a0_2).bind fun t350 => (if t350 = true then ((tellurionref06_Number.f a1).bind fun t351 => (tellurionlaw06_DialAges.j0 k a1 bt348.1 bt348.2 (!t351) a0_0 a0_1 a0_2)) else (tellurionlaw06_DialAges.j0 k a1 bt348.1 bt348.2 true a0_0 a0_1 a0_2)))) = some r := h
  clear h
  replace H := Option.bind_eq_some_iff.mp H
  obtain ⟨⟨t348, t349⟩, A30, H⟩ := H
  replace H : ((tellurionref06_Moon.f a0_0 a0_1 a0_2).bind fun t350 => (if t350 = true then ((tellurionref06_Number.f a1).bind fun t351 => (tellurionlaw06_DialAges.j0 k a1 t348 t349 (!t351) a0_0 a0_1 a0_2)) else (tellurionlaw06_DialAges.j0 k a1 t348 t349 true a0_0 a0_1 a0_2))) = some r := H
  have A3 := Aside0.mk A30
  clear A30
  have HC4 := Aside0.mk H
  clear H
  go_enter Tryz.func6, Tryz.ntmps6
  go_upto_region 2 with (first | ((with_reducible refine zG 2 rfl ?_); refine zBox 2 #[.int .i64 a0_0, .int .i64 a0_1, .int .i64 a0_2] 45 ?_; intro gb347 hg w5 hbox hb; have n0_ := Aside0.mk (below_step (by repeat (first | (with_reducible first | exact HB.out | apply below_alloc | apply pw_below_drewN | apply below_drew1) | exact HB.out)) hb); have n1_ := Aside0.mk (hbox); have n2_ := Aside0.mk ((by rw [hg]; exact (below_size (by repeat (first | (with_reducible first | exact HB.out | apply below_alloc | apply pw_below_drewN | apply below_drew1) | exact HB.out))) : w.heap.size ≤ gb347)); have n3_ := Aside0.mk ((by rw [hg]; exact (below_size (by repeat (first | (with_reducible first | exact HB.out | apply below_alloc | apply pw_below_drewN | apply below_drew1) | exact HB.out))) : w.heap.size ≤ gb347)); clear HB; have HB := n0_; have BK347 := n1_; have GW347 := n2_; have GE347 := n3_; clear n0_ n1_ n2_ n3_; clear hb hbox hg; have hcz6_0 := zC BK347; have hfz6_0 := zF BK347) | ((with_reducible refine gate_callee (f := 22) rfl ?_); refine goesL_ (some 10) rfl rfl Tryz.func22 (by kernel_rfl) rfl #[.agg #[.int .i64 a0_0, .int .i64 a0_1, .int .i64 a0_2], .int .i64 a1] rfl (by (try simp only [List.map_toArray, List.map_cons, List.map_nil]); first | done | rfl | (simp only [List.length_drop, List.length_take]; rfl)) ?_; (with_reducible refine (dial_Age.calls a0_0 a0_1 a0_2 a1 t348 t349 _ A3.out).mono ?_); rintro e w7 ⟨rfl, hb⟩; refine ⟨_, rfl, ?_⟩; have n0_ := Aside0.mk (blk_below (g := gb347) (o := .cells #[.int .i64 a0_0, .int .i64 a0_1, .int .i64 a0_2] 45 (0, 0)) (by (with_reducible repeat (first | refine blk_drewN ?_ _ | refine blk_drew ?_ | refine blk_alloc ?_ _)); exact BK347.out) hb); have n1_ := Aside0.mk (below_step (by repeat (first | (with_reducible first | exact HB.out | apply below_alloc | apply pw_below_drewN | apply below_drew1 | refine below_set ?_ GE347.out) | exact HB.out)) hb); clear BK347; clear HB; have BK347 := n0_; have HB := n1_; clear n0_ n1_; (try clear hb); (try clear hb2); (try clear hk); (try clear hi)))
  (try simp only [Act.put, List.setIfInBounds_toArray, List.set_cons_zero, List.set_cons_succ])
  go_cut [20] (fun v20 wc => ∃ (kq : Nat) (x20_3 : Bool), v20 = .bool x20_3 ∧ Aside0 (tellurionlaw06_DialAges.j0 kq a1 t348 t349 x20_3 a0_0 a0_1 a0_2 = some r) ∧ Aside0 (kq ≤ k) ∧ Aside0 (wc.heap[gb347]? = some (.cells #[.int .i64 a0_0, .int .i64 a0_1, .int .i64 a0_2] 45 (0, 0))) ∧ Aside0 (Below w.heap.size w wc))
  case first =>
    have H := HC4.out
    clear HC4
    replace H := Option.bind_eq_some_iff.mp H
    obtain ⟨t350, A80, H⟩ := H
    replace H : (if t350 = true then ((tellurionref06_Number.f a1).bind fun t351 => (tellurionlaw06_DialAges.j0 k a1 t348 t349 (!t351) a0_0 a0_1 a0_2)) else (tellurionlaw06_DialAges.j0 k a1 t348 t349 true a0_0 a0_1 a0_2)) = some r := H
    have A8 := Aside0.mk A80
    clear A80
    by_cases c9 : t350 = true
    · subst c9
      have H1 : ((tellurionref06_Number.f a1).bind fun t351 => (tellurionlaw06_DialAges.j0 k a1 t348 t349 (!t351) a0_0 a0_1 a0_2)) = some r := by rw [if_pos rfl] at H; exact H
      clear H
      have H := H1
      clear H1
      replace H := Option.bind_eq_some_iff.mp H
      obtain ⟨t351, A100, H⟩ := H
      replace H : (tellurionlaw06_DialAges.j0 k a1 t348 t349 (!t351) a0_0 a0_1 a0_2) = some r := H
      have A10 := Aside0.mk A100
      clear A100
      have H' := Aside0.mk H
      clear H
      have hcz11_0 := zC BK347
      have hfz11_0 := zF BK347
      go_wp2_with (first | ((with_reducible refine gate_callee (f := 23) rfl ?_); refine goesL_ (some 14) rfl rfl Tryz.func23 (by kernel_rfl) rfl #[.agg #[.int .i64 a0_0, .int .i64 a0_1, .int .i64 a0_2]] rfl (by (try simp only [List.map_toArray, List.map_cons, List.map_nil]); first | done | rfl | (simp only [List.length_drop, List.length_take]; rfl)) ?_; (with_reducible refine (tellurionref06_Moon.calls a0_0 a0_1 a0_2 true _ A8.out).mono ?_); rintro e w12 ⟨rfl, hb⟩; refine ⟨_, rfl, ?_⟩; have n0_ := Aside0.mk (blk_below (g := gb347) (o := .cells #[.int .i64 a0_0, .int .i64 a0_1, .int .i64 a0_2] 45 (0, 0)) (by (with_reducible repeat (first | refine blk_drewN ?_ _ | refine blk_drew ?_ | refine blk_alloc ?_ _)); exact BK347.out) hb); have n1_ := Aside0.mk (below_step (by repeat (first | (with_reducible first | exact HB.out | apply below_alloc | apply pw_below_drewN | apply below_drew1 | refine below_set ?_ GE347.out) | exact HB.out)) hb); clear BK347; clear HB; have BK347 := n0_; have HB := n1_; clear n0_ n1_; (try clear hb); (try clear hb2); (try clear hk); (try clear hi)) | (go_at_call 24; (with_reducible refine (tellurionref06_Number.calls a1 t351 _ A10.out).mono ?_); rintro e w' ⟨rfl, ⟨nd, rfl⟩⟩))
      go_meet
      case rel => exact ⟨_, (!t351), (by first | rfl | (simp; done) | (simp [*]; done)), H', ⟨by first | omega | exact Nat.le_refl _⟩, ⟨by (with_reducible repeat (first | refine blk_drewN ?_ _ | refine blk_drew ?_ | refine blk_alloc ?_ _)); exact BK347.out⟩, ⟨by repeat (first | (with_reducible first | exact HB.out | apply below_alloc | apply pw_below_drewN | apply below_drew1 | refine below_set ?_ GE347.out) | exact HB.out)⟩⟩
    · replace c9 := Bool.eq_false_iff.mpr c9
      subst c9
      have H1 : (tellurionlaw06_DialAges.j0 k a1 t348 t349 true a0_0 a0_1 a0_2) = some r := by rw [if_neg (show ¬ (false = true) by decide)] at H; exact H
      clear H
      have H := H1
      clear H1
      have H' := Aside0.mk H
      clear H
      have hcz13_0 := zC BK347
      have hfz13_0 := zF BK347
      go_wp2_with (first | ((with_reducible refine gate_callee (f := 23) rfl ?_); refine goesL_ (some 14) rfl rfl Tryz.func23 (by kernel_rfl) rfl #[.agg #[.int .i64 a0_0, .int .i64 a0_1, .int .i64 a0_2]] rfl (by (try simp only [List.map_toArray, List.map_cons, List.map_nil]); first | done | rfl | (simp only [List.length_drop, List.length_take]; rfl)) ?_; (with_reducible refine (tellurionref06_Moon.calls a0_0 a0_1 a0_2 false _ A8.out).mono ?_); rintro e w14 ⟨rfl, hb⟩; refine ⟨_, rfl, ?_⟩; have n0_ := Aside0.mk (blk_below (g := gb347) (o := .cells #[.int .i64 a0_0, .int .i64 a0_1, .int .i64 a0_2] 45 (0, 0)) (by (with_reducible repeat (first | refine blk_drewN ?_ _ | refine blk_drew ?_ | refine blk_alloc ?_ _)); exact BK347.out) hb); have n1_ := Aside0.mk (below_step (by repeat (first | (with_reducible first | exact HB.out | apply below_alloc | apply pw_below_drewN | apply below_drew1 | refine below_set ?_ GE347.out) | exact HB.out)) hb); clear BK347; clear HB; have BK347 := n0_; have HB := n1_; clear n0_ n1_; (try clear hb); (try clear hb2); (try clear hk); (try clear hi)))
      go_meet
      case rel => exact ⟨_, (true), (by first | rfl | (simp; done) | (simp [*]; done)), H', ⟨by first | omega | exact Nat.le_refl _⟩, ⟨by (with_reducible repeat (first | refine blk_drewN ?_ _ | refine blk_drew ?_ | refine blk_alloc ?_ _)); exact BK347.out⟩, ⟨by repeat (first | (with_reducible first | exact HB.out | apply below_alloc | apply pw_below_drewN | apply below_drew1 | refine below_set ?_ GE347.out) | exact HB.out)⟩⟩
  case rest =>
    clear HC4
    try clear c2
    try clear p2
    try clear c6
    try clear c9
    try clear hcz11_0
    try clear hcz13_0
    try clear hcz6_0
    try clear hfz11_0
    try clear hfz13_0
    try clear hfz6_0
    obtain ⟨kq, x20_3, rfl, HA, HJ3, BK347, HB⟩ := hcut
    cases kq with
    | zero => exact absurd HA.out (by simp [tellurionlaw06_DialAges.j0])
    | succ kj3 =>
      have H := HA.out
      clear HA
      simp only [tellurionlaw06_DialAges.j0] at H
      by_cases c15 : x20_3 = true
      · subst c15
        have H1 : (if t349 = 2 then (if t348 = 0 then ((tellurionlaw06_known.f).bind fun t352 => (some t352)) else (none)) else (none)) = some r := by rw [if_pos rfl] at H; exact H
        clear H
        have H := H1
        clear H1
        by_cases c16 : t349 = 2
        · rw [if_pos c16] at H
          have c16b0 : (t349 == 2) = true := beq_iff_eq.mpr c16
          have c16b1 : (t349 != 2) = false := bne_eq_false_iff_eq.mpr c16
          clear c16
          by_cases c17 : t348 = 0
          · rw [if_pos c17] at H
            have c17b0 : (t348 == 0) = true := beq_iff_eq.mpr c17
            have c17b1 : (t348 != 0) = false := bne_eq_false_iff_eq.mpr c17
            clear c17
            replace H := Option.bind_eq_some_iff.mp H
            obtain ⟨t352, A180, H⟩ := H
            replace H : (some t352) = some r := H
            have A18 := Aside0.mk A180
            clear A180
            obtain rfl := Option.some.inj H
            go_wp2_with (first | (go_at_call 11; (with_reducible refine (tellurionlaw06_known.calls  t352 _ A18.out (Tab.below HT.out (by repeat (first | (with_reducible first | exact HB.out | apply below_alloc | apply pw_below_drewN | apply below_drew1 | refine below_set ?_ GE347.out) | exact HB.out)))).mono ?_); rintro e w19 ⟨rfl, hb⟩; have n0_ := Aside0.mk (blk_below (g := gb347) (o := .cells #[.int .i64 a0_0, .int .i64 a0_1, .int .i64 a0_2] 45 (0, 0)) (by (with_reducible repeat (first | refine blk_drewN ?_ _ | refine blk_drew ?_ | refine blk_alloc ?_ _)); exact BK347.out) hb); have n1_ := Aside0.mk (below_step (by repeat (first | (with_reducible first | exact HB.out | apply below_alloc | apply pw_below_drewN | apply below_drew1 | refine below_set ?_ GE347.out) | exact HB.out)) hb); clear BK347; clear HB; have BK347 := n0_; have HB := n1_; clear n0_ n1_; (try clear hb); (try clear hb2); (try clear hk); (try clear hi)))
            go_ret
            exact ⟨by first | rfl | (simp [errW_none, errW_some] <;> rfl) | (simp [*, errW_none, errW_some] <;> rfl), by repeat (first | (with_reducible first | exact HB.out | apply below_alloc | apply pw_below_drewN | apply below_drew1 | refine below_set ?_ GE347.out) | exact HB.out)⟩
          · rw [if_neg c17] at H
            exact absurd H (by simp)
        · rw [if_neg c16] at H
          exact absurd H (by simp)
      · replace c15 := Bool.eq_false_iff.mpr c15
        subst c15
        have H1 : (if t349 = 0 then ((tellurionref06_Age.f kj3 a0_0 a0_1 a0_2 a1).bind fun t353 => (if t348 = t353 then ((tellurionlaw06_known.f).bind fun t354 => (some t354)) else (none))) else (none)) = some r := by rw [if_neg (show ¬ (false = true) by decide)] at H; exact H
        clear H
        have H := H1
        clear H1
        by_cases c20 : t349 = 0
        · rw [if_pos c20] at H
          have c20b0 : (t349 == 0) = true := beq_iff_eq.mpr c20
          have c20b1 : (t349 != 0) = false := bne_eq_false_iff_eq.mpr c20
          clear c20
          replace H := Option.bind_eq_some_iff.mp H
          obtain ⟨t353, A210, H⟩ := H
          replace H : (if t348 = t353 then ((tellurionlaw06_known.f).bind fun t354 => (some t354)) else (none)) = some r := H
          have A21 := Aside0.mk A210
          clear A210
          by_cases c22 : t348 = t353
          · rw [if_pos c22] at H
            have c22b0 : (t348 == t353) = true := beq_iff_eq.mpr c22
            have c22b1 : (t348 != t353) = false := bne_eq_false_iff_eq.mpr c22
            clear c22
            replace H := Option.bind_eq_some_iff.mp H
            obtain ⟨t354, A230, H⟩ := H
            replace H : (some t354) = some r := H
            have A23 := Aside0.mk A230
            clear A230
            obtain rfl := Option.some.inj H
            have hcz24_0 := zC BK347
            have hfz24_0 := zF BK347
            go_wp2_with (first | (go_at_call 25; (with_reducible refine (tellurionref06_Age.calls kj3 a0_0 a0_1 a0_2 a1 t353 _ A21.out).mono ?_); rintro e w25 ⟨rfl, hb⟩; have n0_ := Aside0.mk (blk_below (g := gb347) (o := .cells #[.int .i64 a0_0, .int .i64 a0_1, .int .i64 a0_2] 45 (0, 0)) (by (with_reducible repeat (first | refine blk_drewN ?_ _ | refine blk_drew ?_ | refine blk_alloc ?_ _)); exact BK347.out) hb); have n1_ := Aside0.mk (below_step (by repeat (first | (with_reducible first | exact HB.out | apply below_alloc | apply pw_below_drewN | apply below_drew1 | refine below_set ?_ GE347.out) | exact HB.out)) hb); clear BK347; clear HB; have BK347 := n0_; have HB := n1_; clear n0_ n1_; (try clear hb); (try clear hb2); (try clear hk); (try clear hi)) | (go_at_call 11; (with_reducible refine (tellurionlaw06_known.calls  t354 _ A23.out (Tab.below HT.out (by repeat (first | (with_reducible first | exact HB.out | apply below_alloc | apply pw_below_drewN | apply below_drew1 | refine below_set ?_ GE347.out) | exact HB.out)))).mono ?_); rintro e w26 ⟨rfl, hb⟩; have n0_ := Aside0.mk (blk_below (g := gb347) (o := .cells #[.int .i64 a0_0, .int .i64 a0_1, .int .i64 a0_2] 45 (0, 0)) (by (with_reducible repeat (first | refine blk_drewN ?_ _ | refine blk_drew ?_ | refine blk_alloc ?_ _)); exact BK347.out) hb); have n1_ := Aside0.mk (below_step (by repeat (first | (with_reducible first | exact HB.out | apply below_alloc | apply pw_below_drewN | apply below_drew1 | refine below_set ?_ GE347.out) | exact HB.out)) hb); clear BK347; clear HB; have BK347 := n0_; have HB := n1_; clear n0_ n1_; (try clear hb); (try clear hb2); (try clear hk); (try clear hi)))
            go_ret
            exact ⟨by first | rfl | (simp [errW_none, errW_some] <;> rfl) | (simp [*, errW_none, errW_some] <;> rfl), by repeat (first | (with_reducible first | exact HB.out | apply below_alloc | apply pw_below_drewN | apply below_drew1 | refine below_set ?_ GE347.out) | exact HB.out)⟩
          · rw [if_neg c22] at H
            exact absurd H (by simp)
        · rw [if_neg c20] at H
          exact absurd H (by simp)
end Go.Proofs.YtnllidgonghckaaGreatDoor.X
