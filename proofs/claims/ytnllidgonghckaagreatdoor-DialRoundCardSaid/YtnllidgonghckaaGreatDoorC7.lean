/- What the laws' proofs have in common: contracts of the program's functions, whatever memory they are called in. Conditions stand in each statement (part 8 of 12). -/
import Derived.ArgAppend
import Derived.Below
import Derived.BigQuiet
import Derived.Deep.AppendLies
import Derived.Deep.CutBlock
import Derived.Deep.DeepCutAuto
import Derived.Deep.Draws
import Derived.Deep.LoopGhost
import Derived.Deep.OwnRows
import Derived.Deep.QuietTactic
import Derived.Deep.RegionHeld3
import Derived.DeepKeys5
import Derived.Defers
import Derived.KernelRfl
import Derived.Laws.BitsLemmas
import Derived.Laws.BytesArg
import Derived.Laws.CopyOwn
import Derived.Laws.IdiomCopy
import Derived.Laws.MakeOwn
import Derived.Laws.OwnMore
import Derived.Laws.Rows
import Derived.Laws.Slices
import Derived.Laws.StructEq
import Derived.Laws.Tables
import Derived.Lib.AppendStr
import Derived.Lib.ConvBytes
import Derived.Maps.AppendAt
import Derived.OrdersHeld
import Derived.OwnWalk
import Derived.OwnWalkIn
import Derived.RangeFuncCalls
import Derived.RangeFuncKeeps
import Derived.RangeFuncLeaves
import Derived.Recover
import Derived.RowKit
import Derived.RowKit3
import Derived.Tactics
import Derived.Tactics2
import Derived.TacticsInMore
import Derived.Test.YtnllidgonghckaaGreatDoorProg
import Derived.WalkKit
import Derived.WalkLawsBesides
import Derived.WideKeyEntry
import Derived.WideLaws
import Derived.Test.YtnllidgonghckaaGreatDoorC6
namespace Go.Proofs.YtnllidgonghckaaGreatDoor.X
open Go.RowKit Go.Proofs.YtnllidgonghckaaGreatDoorW.PrintWords Go.Proofs.YtnllidgonghckaaGreatDoorW.PrintLast Go.Proofs.YtnllidgonghckaaGreatDoorW.PrintMore Go.Proofs.YtnllidgonghckaaGreatDoor.Dm
set_option linter.unusedVariables false
set_option linter.unusedSimpArgs false
theorem dateKeys : WideMaps.KeyLaw Tryz.prog 38 := deep_law_laid (by kernel_rfl) (m := 2) (by omega) (of_decide_eq_true (by kernel_rfl)) (by kernel_rfl) (by kernel_rfl)
def march (y : Int) : Value := .agg #[.int .i64 y, .int .i64 3, .int .i64 21]
theorem march_inj {y z : Int} (h : march y = march z) : y = z := by
  unfold march at h
  simp at h
  exact h
theorem int_wf (y : Int) (h0 : 0 ≤ y) (h1 : y ≤ 4000) : (Lit.int .i64 y).wf = true := by
  have a : IntKind.i64.min = -9223372036854775808 := by decide
  have b : IntKind.i64.max = 9223372036854775807 := by decide
  simp only [Lit.wf, a, b, Bool.and_eq_true, decide_eq_true_eq]
  omega
theorem march_key (y : Int) (h0 : 0 ≤ y) (h1 : y ≤ 4000) : ∃ l, keyOf Tryz.prog 38 (march y) = some l := by
  have hu := Tryz.underlying38
  have hi := Tryz.underlying3
  have hk : Tryz.prog.keyType 38 = true := by kernel_rfl
  have hf : (march y).formed Tryz.prog 38 = true := by kernel_rfl
  have hs : Tryz.prog.types.size + 1 = Tryz.prog.types.size - 1 + 1 + 1 := by
    have : 0 < Tryz.prog.types.size := of_decide_eq_true (by kernel_rfl)
    omega
  have hc : Tryz.prog.cellsOf 38 = 3 := by kernel_rfl
  have hc3 : Tryz.prog.cellsOf 3 = 1 := by kernel_rfl
  have w0 := int_wf y h0 h1
  have w1 := int_wf 3 (by omega) (by omega)
  have w2 := int_wf 21 (by omega) (by omega)
  have hl : ∀ n, Tryz.prog.keyLits (n + 1 + 1) 38 [.int .i64 y, .int .i64 3, .int .i64 21] = some [.int .i64 y, .int .i64 3, .int .i64 21] := by
    intro n
    unfold Program.keyLits
    rw [hu]
    simp only [hc, List.length_cons, List.length_nil]
    have h1 : ∀ v : Int, (Lit.int .i64 v).wf = true → Tryz.prog.keyLits (n + 1) 3 [.int .i64 v] = some [.int .i64 v] := by
      intro v hv
      unfold Program.keyLits
      rw [hi]
      simp [hv]
    simp [hc3, h1 y w0, h1 3 w1, h1 21 w2]
  unfold keyOf
  rw [hu]
  simp only [hk, hf, Bool.and_self, if_true, hs]
  rw [show (march y).cells.toList = [.int .i64 y, .int .i64 3, .int .i64 21] from rfl, hl]
  exact ⟨_, rfl⟩
def EOk (sf : Int → Int) (mb : Nat) (W : World) : Prop := ∃ es cl, W.heap[mb]? = some (.map es cl) ∧ ∀ e ∈ es.toList, ∃ y : Int, 0 ≤ y ∧ y ≤ 4000 ∧ e.key = march y ∧ e.val = .int .i64 (sf y)
section
variable {sf : Int → Int} {mb : Nat} {W W1 : World}
theorem EOk.start (hm : W.heap[mb]? = some (.map #[] 0)) : EOk sf mb W := ⟨_, _, hm, fun e he => by simp at he⟩
theorem EOk.lt (h : EOk sf mb W) : mb < W.heap.size := by obtain ⟨es, cl, hm, _⟩ := h; exact blk_lt hm
theorem EOk.blk (h : EOk sf mb W) : ∃ es cl, W.heap[mb]? = some (.map es cl) := by obtain ⟨es, cl, hm, _⟩ := h; exact ⟨es, cl, hm⟩
theorem EOk.below (h : EOk sf mb W) (hb : Below W.heap.size W W1) : EOk sf mb W1 := by
  obtain ⟨es, cl, hm, he⟩ := h
  exact ⟨es, cl, (hb.block _ (blk_lt hm)).trans hm, he⟩
theorem EOk.keys (es : Array MapEntry) (he : ∀ e ∈ es.toList, ∃ y : Int, 0 ≤ y ∧ y ≤ 4000 ∧ e.key = march y ∧ e.val = .int .i64 (sf y)) : ∀ e ∈ es.toList, ∃ l, keyOf Tryz.prog 38 e.key = some l := fun e h => by
  obtain ⟨y, h0, h1, hk, _⟩ := he e h
  rw [hk]
  exact march_key y h0 h1
theorem grown_setBlock (W : World) (b : Nat) (o : Obj) : W.grownBy (ChangeMaps.setBlock W b o) (some b) :=
  ⟨rfl, rfl, rfl, by simp [ChangeMaps.setBlock], fun i hi hne => by
    have : i ≠ b := fun e => hne (by rw [e])
    simp [ChangeMaps.setBlock, Ne.symm this]⟩
theorem EOk.put (h : EOk sf mb W) (y : Int) (h0 : 0 ≤ y) (h1 : y ≤ 4000) :
    ∃ W1, (Instr.mapUpdate 81 (.map (some mb)) (march y) (.int .i64 (sf y))).run Tryz.prog W = .ok () W1 ∧ EOk sf mb W1 ∧ W.grownBy W1 (some mb) := by
  have ht := Tryz.underlying81
  obtain ⟨es, cl, hm, he⟩ := h
  have hlt := blk_lt hm
  obtain ⟨l, hl⟩ := march_key y h0 h1
  rcases dateKeys.find W hl es.toList (EOk.keys es he) with ⟨g1, g2⟩ | ⟨j, e0, g1, g2, g3⟩
  · refine ⟨ChangeMaps.setBlock W mb (.map (es.push ⟨march y, .int .i64 (sf y), cl⟩) (cl + 1)), ?_, ⟨_, _, (MapKept.heap_set hm).1, ?_⟩, grown_setBlock _ _ _⟩
    · simp [Instr.mapUpdate, run_underlying ht, MapKept.run_getObj_map hm, dateKeys.check W _ hl, g1, MapKept.run_setObj_map _ hm, Result.andThen, ChangeMaps.setBlock]
    · intro e hmem
      simp only [Array.toList_push, List.mem_append, List.mem_singleton] at hmem
      rcases hmem with hmem | rfl
      · exact he e hmem
      · exact ⟨y, h0, h1, rfl, rfl⟩
  · have hj : es[j]? = some e0 := by simpa using g2
    refine ⟨ChangeMaps.setBlock W mb (.map (es.modify j fun e' => { e' with key := march y, val := .int .i64 (sf y) }) cl), ?_, ⟨_, _, (MapKept.heap_set hm).1, ?_⟩, grown_setBlock _ _ _⟩
    · simp [Instr.mapUpdate, run_underlying ht, MapKept.run_getObj_map hm, dateKeys.check W _ hl, g1, hj, g3, dateKeys.stays W hl, MapKept.run_setObj_map _ hm, Result.andThen, ChangeMaps.setBlock]
    · intro e hmem
      rw [Array.toList_modify, List.mem_iff_getElem?] at hmem
      obtain ⟨i, hi⟩ := hmem
      rw [List.getElem?_modify] at hi
      by_cases q : j = i
      · subst q
        simp [g2] at hi
        rw [← hi]
        exact ⟨y, h0, h1, rfl, rfl⟩
      · simp [q] at hi
        exact he e (List.mem_of_getElem? (by simpa using hi))
end
end Go.Proofs.YtnllidgonghckaaGreatDoor.X
namespace Go.Proofs.YtnllidgonghckaaGreatDoor.X
open Go.RowKit Go.Proofs.YtnllidgonghckaaGreatDoorW.PrintWords Go.Proofs.YtnllidgonghckaaGreatDoorW.PrintLast Go.Proofs.YtnllidgonghckaaGreatDoorW.PrintMore Go.Proofs.YtnllidgonghckaaGreatDoor.Dm
set_option linter.unusedVariables false
set_option linter.unusedSimpArgs false
section
variable {W w1 w2 : World} {g t : Nat} {cells new : Array Value}
theorem Opd.setRow' {ep : Int} {A : Option Addr} {c : Nat} {cs F : List Int} {a5 : Addr} {c5 mb : Nat} {w : World} (hw : w1 = W.setRow g new) (ht : 3 ≠ t) (z : w.heap.size ≤ g) (o : W.heap[g]? = some (.cells cells t (0, 0))) (h : Opd ep A c cs F a5 c5 mb w W) : Opd ep A c cs F a5 c5 mb w w1 := by
  rw [hw]
  exact Opd.setRow ht z o h new
theorem EOk.setRow' {sf : Int → Int} {mb : Nat} (hw : w1 = W.setRow g new) (o : W.heap[g]? = some (.cells cells t (0, 0))) (h : EOk sf mb W) : EOk sf mb w1 := by
  obtain ⟨es, cl, hm, he⟩ := h
  rw [hw]
  exact ⟨es, cl, (setRow_other W g mb new (fun e => by rw [e, o] at hm; cases hm)).trans hm, he⟩
theorem below_setRow' {w : World} (hw : w1 = W.setRow g new) (z : w.heap.size ≤ g) (h : Below w.heap.size w W) : Below w.heap.size w w1 := by
  rw [hw]
  exact below_setRow h z new
theorem EOk.belowD {sf : Int → Int} {mb : Nat} (h : EOk sf mb W) (hb : Below W.drew.heap.size W.drew w1) : EOk sf mb w1 := h.below (drew_then hb)
theorem grown_then {row : Option Nat} (h : W.grownBy w1 row) (h2 : w1.grownBy w2 row) : W.grownBy w2 row :=
  ⟨h2.os.trans h.os, h2.tape.trans h.tape, h2.output.trans h.output, Nat.le_trans h.size h2.size, fun k hk hne => (h2.block k (Nat.lt_of_lt_of_le hk h.size) hne).trans (h.block k hk hne)⟩
theorem grown_thenA {row : Option Nat} (h : Below W.heap.size W w1) (h2 : w1.grownBy w2 row) : W.grownBy w2 row := grown_then (grown_of_below h row) h2
theorem grown_refl (W : World) (row : Option Nat) : W.grownBy W row := grown_of_below (Below.refl _ _) row
theorem blk_gr {mb k : Nat} {o : Obj} (h : W.heap[k]? = some o) (hg : W.grownBy w1 (some mb)) (hne : k ≠ mb) : w1.heap[k]? = some o := (hg.block k (blk_lt h) (fun e => hne (Option.some.inj e))).trans h
theorem cells_ne_map {mb k t : Nat} {cells : Array Value} {es : Array MapEntry} {cl : Nat} (h : W.heap[k]? = some (.cells cells t (0, 0))) (hm : W.heap[mb]? = some (.map es cl)) : k ≠ mb := fun e => by rw [e, hm] at h; cases h
theorem blk_gr_cells {mb k t : Nat} {cells : Array Value} (h : W.heap[k]? = some (.cells cells t (0, 0))) (hm : ∃ es cl, W.heap[mb]? = some (.map es cl)) (hg : W.grownBy w1 (some mb)) : w1.heap[k]? = some (.cells cells t (0, 0)) := by
  obtain ⟨es, cl, hm⟩ := hm
  exact blk_gr h hg (cells_ne_map h hm)
theorem Opd.gr {ep : Int} {A : Option Addr} {c : Nat} {cs F : List Int} {a5 : Addr} {c5 mb : Nat} {w : World} (h : Opd ep A c cs F a5 c5 mb w W) (hg : W.grownBy w1 (some mb)) (hm : ∃ es cl, w1.heap[mb]? = some (.map es cl)) : Opd ep A c cs F a5 c5 mb w w1 :=
  ⟨h.hF, h.cal, h.rc, h.c, Kd.R_grown h.f hg (fun k hk e => hk (Option.some.inj e)), hm, h.b.grown hg h.b.size (fun k e => by cases e; exact h.zmb), h.zmb⟩
theorem below_gr {w : World} {mb : Nat} (h : Below w.heap.size w W) (hg : W.grownBy w1 (some mb)) (hz : w.heap.size ≤ mb) : Below w.heap.size w w1 := h.grown hg h.size (fun k e => by cases e; exact hz)
end
section
variable {P : Program} {ops : Array Oper} {rest : List Oper} {o : Oper} {a : Act} {Q : Exit → Act → World → Prop} {W W1 : World}
theorem mapUpdate_event (hgd : o.guard = none) (hN : o.dst = none) (t : TypeId) (x y z : Operand) (ho : o.op = .mapUpdate t x y z) {vx vy vz : Value} (hx : a.eval x = vx) (hy : a.eval y = vy) (hz : a.eval z = vz) (hrun : (Instr.mapUpdate t vx vy vz).run P W = .ok () W1)
    (h : wpList P ops Q rest a W1) : wpList P ops Q (o :: rest) a W := by
  refine wpList_plain hgd fun K hK => ?_
  unfold Oper.wp execOp
  simp only [ho, hx, hy, hz, Sem.run_bind, Sem.run_pure, Result.andThen_ok, hrun]
  show K (a.put o.dst undef) _
  rw [hN]
  exact hK _ _ h
end
end Go.Proofs.YtnllidgonghckaaGreatDoor.X
namespace Go.Proofs.YtnllidgonghckaaGreatDoor.X
open Go.RowKit Go.Proofs.YtnllidgonghckaaGreatDoorW.PrintWords Go.Proofs.YtnllidgonghckaaGreatDoorW.PrintLast Go.Proofs.YtnllidgonghckaaGreatDoorW.PrintMore Go.Proofs.YtnllidgonghckaaGreatDoor.Dm
set_option linter.unusedVariables false
set_option linter.unusedSimpArgs false
attribute [local go_sem] max2_int min2_int max_two min_two max_three min_three max_four min_four
def sundayOf (ep : Int) (cs : List Int) (num den add : Int) (y : Int) : Int := fullOf num den add (dayOf ep cs y 3 21) + 7 - wday (fullOf num den add (dayOf ep cs y 3 21))
theorem age_b {num den add : Int} (h : moonB num den add = true) (d : Int) (w : World) (h0 : 0 ≤ d) (h1 : d ≤ 100000000) : Calls Tryz.prog 60 #[.agg #[.int .i64 num, .int .i64 den, .int .i64 add], .int .i64 d] w fun e w' => e = .returned (.int .i64 (ageOf num den add d)) ∧ Below w.heap.size w w' :=
  dial_age.calls num den add d _ w (age_f h d h0 h1)
theorem age_l {num den add : Int} (h : moonB num den add = true) (d r : Int) (w : World) (h0 : 0 ≤ d) (h1 : d ≤ 100000000) (hr : ageOf num den add d = r) : Calls Tryz.prog 60 #[.agg #[.int .i64 num, .int .i64 den, .int .i64 add], .int .i64 d] w fun e w' => e = .returned (.int .i64 r) ∧ Below w.heap.size w w' := by
  subst hr
  exact age_b h d w h0 h1
section
variable {sf : Int → Int} {mb : Nat} {W w1 : World} {es : Array MapEntry} {cl : Nat} {y : Int}
theorem look_hit (hm : W.heap[mb]? = some (.map es cl)) (hb : Below W.heap.size W w1) (he : ∀ e ∈ es.toList, ∃ y : Int, 0 ≤ y ∧ y ≤ 4000 ∧ e.key = march y ∧ e.val = .int .i64 (sf y)) (h0 : 0 ≤ y) (h1 : y ≤ 4000) (hx : ∃ e ∈ es.toList, e.key = march y) :
    (Instr.lookup 81 (.map (some mb)) (march y) true).run Tryz.prog w1 = .ok (.tuple #[.int .i64 (sf y), .bool true]) w1 := by
  have ht := Tryz.underlying81
  have hm1 := (hb.block _ (blk_lt hm)).trans hm
  obtain ⟨l, hl⟩ := march_key y h0 h1
  rcases dateKeys.find w1 hl es.toList (EOk.keys es he) with ⟨g1, g2⟩ | ⟨j, e0, g1, g2, g3⟩
  · obtain ⟨e, he', hk⟩ := hx
    exact absurd hk (g2 e he')
  · obtain ⟨z, _, _, hk, hv⟩ := he e0 (List.mem_of_getElem? g2)
    have : z = y := march_inj (hk.symm.trans g3)
    subst this
    simp [Instr.lookup, run_underlying ht, MapKept.run_getObj_map hm1, dateKeys.check w1 _ hl, g1, hv, Result.andThen]
theorem look_miss (hm : W.heap[mb]? = some (.map es cl)) (hb : Below W.heap.size W w1) (he : ∀ e ∈ es.toList, ∃ y : Int, 0 ≤ y ∧ y ≤ 4000 ∧ e.key = march y ∧ e.val = .int .i64 (sf y)) (h0 : 0 ≤ y) (h1 : y ≤ 4000) (hx : ¬ ∃ e ∈ es.toList, e.key = march y) :
    (Instr.lookup 81 (.map (some mb)) (march y) true).run Tryz.prog w1 = .ok (.tuple #[.int .i64 0, .bool false]) w1 := by
  have ht := Tryz.underlying81
  have hz : ∀ u : World, (zeroValue 3).run Tryz.prog u = .ok (.int .i64 0) u := fun u => by kernel_rfl
  have hm1 := (hb.block _ (blk_lt hm)).trans hm
  obtain ⟨l, hl⟩ := march_key y h0 h1
  rcases dateKeys.find w1 hl es.toList (EOk.keys es he) with ⟨g1, g2⟩ | ⟨j, e0, g1, g2, g3⟩
  · simp [Instr.lookup, run_underlying ht, MapKept.run_getObj_map hm1, dateKeys.check w1 _ hl, g1, hz, Result.andThen]
  · exact absurd ⟨e0, List.mem_of_getElem? g2, g3⟩ hx
end
set_option maxHeartbeats 8000000 in
set_option maxRecDepth 100000 in
theorem sunday_hit {ep : Int} {A : Option Addr} {c : Nat} {cs F : List Int} {a5 : Addr} {c5 mb : Nat} {w W : World} (m0 m1 m2 : Int) (h : Opd ep A c cs F a5 c5 mb w W) (hE : EOk (sundayOf ep cs m0 m1 m2) mb W) (hM : moonB m0 m1 m2 = true) (y : Int) (h0 : 0 ≤ y) (h1 : y ≤ 4000) {es : Array MapEntry} {cl : Nat} (hes : W.heap[mb]? = some (.map es cl)) (hhe : ∀ e ∈ es.toList, ∃ y : Int, 0 ≤ y ∧ y ≤ 4000 ∧ e.key = march y ∧ e.val = .int .i64 (sundayOf ep cs m0 m1 m2 y)) (hx : ∃ e ∈ es.toList, e.key = march y) :
    Calls Tryz.prog 71 #[.agg #[.int .i64 ep, .slice A cs.length c, .int .i64 m0, .int .i64 m1, .int .i64 m2, .slice (some a5) F.length c5, .map (some mb)], .int .i64 y] W fun e w' => e = .returned (.int .i64 (sundayOf ep cs m0 m1 m2 y)) ∧ EOk (sundayOf ep cs m0 m1 m2) mb w' ∧ W.grownBy w' (some mb) := by
  have hu38 := Tryz.underlying38
  have hu45 := Tryz.underlying45
  have hu83 := Tryz.underlying83
  have HZ := Aside0.mk h.b.size
  have OPd := Aside0.mk h
  have HES := Aside0.mk hes
  have HHE := Aside0.mk hhe
  have HX := Aside0.mk hx
  have HM := Aside0.mk hM
  have Y0 := Aside0.mk h0
  have Y1 := Aside0.mk h1
  have EOx := Aside0.mk hE
  have HW := Aside0.mk (Below.refl W.heap.size W)
  clear h hes hhe hx hM h0 h1 hE
  go_enter Tryz.func71, Tryz.ntmps71
  go_wp2_with (first
    | ((with_reducible refine zG 2 rfl ?_); refine zBox 2 #[.int .i64 ep, .slice A cs.length c, .int .i64 m0, .int .i64 m1, .int .i64 m2, .slice (some a5) F.length c5, .map (some mb)] 83 ?_; intro g1 hg w1 hbox hb; have GEg1 := zge hg HW; replace HW := zW HW hb; replace OPd := zo OPd hb; replace EOx := Aside0.mk (by first | exact EOx.out.below hb | exact EOx.out.belowD hb); have BKg1 := Aside0.mk hbox; clear hb hbox hg; have z1_g10 := zC BKg1)
    | ((with_reducible refine zG 5 rfl ?_); refine zBox 5 #[.int .i64 0, .int .i64 0, .int .i64 0] 38 ?_; intro g2 hg w2 hbox hb; have GEg2 := zge hg HW; have NEg1_g2 := zne hg BKg1; replace HW := zW HW hb; replace OPd := zo OPd hb; replace EOx := Aside0.mk (by first | exact EOx.out.below hb | exact EOx.out.belowD hb); replace BKg1 := zb BKg1 hb; have BKg2 := Aside0.mk hbox; clear hb hbox hg; (try clear z1_g10); have z2_g10 := zC BKg1; have z2_g20 := zC BKg2)
    | ((with_reducible refine zH 38 5 rfl ?_); refine zSto 38 5 #[.int .i64 y, .int .i64 3, .int .i64 21] BKg2 ?_; intro w3 hw; replace HW := zWS hw GEg2 HW; replace OPd := Aside0.mk (Opd.setRow' hw (by decide) (Nat.le_trans HZ.out GEg2.out) BKg2.out OPd.out); replace EOx := Aside0.mk (EOk.setRow' hw BKg2.out EOx.out); replace BKg1 := zfar hw (by first | exact NEg1_g2.out | exact NEg2_g1.out.symm) BKg1; replace BKg2 := znew hw BKg2; clear hw; (try clear z2_g10 z2_g20); have z3_g10 := zC BKg1; have z3_g20 := zC BKg2; have hlk : (Instr.lookup 81 (.map (some mb)) (.agg #[.int .i64 y, .int .i64 3, .int .i64 21]) true).run Tryz.prog w3 = .ok (.tuple #[.int .i64 (sundayOf ep cs m0 m1 m2 y), .bool true]) w3 := look_hit HES.out HW.out HHE.out Y0.out Y1.out HX.out))
  go_ret
  exact ⟨rfl, EOx.out, grown_of_below HW.out _⟩
set_option maxHeartbeats 8000000 in
set_option maxRecDepth 100000 in
theorem sunday_miss {ep : Int} {A : Option Addr} {c : Nat} {cs F : List Int} {a5 : Addr} {c5 mb : Nat} {w W : World} (m0 m1 m2 : Int) (h : Opd ep A c cs F a5 c5 mb w W) (hE : EOk (sundayOf ep cs m0 m1 m2) mb W) (hM : moonB m0 m1 m2 = true) (y : Int) (h0 : 0 ≤ y) (h1 : y ≤ 4000) {es : Array MapEntry} {cl : Nat} (hes : W.heap[mb]? = some (.map es cl)) (hhe : ∀ e ∈ es.toList, ∃ y : Int, 0 ≤ y ∧ y ≤ 4000 ∧ e.key = march y ∧ e.val = .int .i64 (sundayOf ep cs m0 m1 m2 y)) (hx : ¬ ∃ e ∈ es.toList, e.key = march y) :
    Calls Tryz.prog 71 #[.agg #[.int .i64 ep, .slice A cs.length c, .int .i64 m0, .int .i64 m1, .int .i64 m2, .slice (some a5) F.length c5, .map (some mb)], .int .i64 y] W fun e w' => e = .returned (.int .i64 (sundayOf ep cs m0 m1 m2 y)) ∧ EOk (sundayOf ep cs m0 m1 m2) mb w' ∧ W.grownBy w' (some mb) := by
  have hu38 := Tryz.underlying38
  have hu45 := Tryz.underlying45
  have hu83 := Tryz.underlying83
  have HZ := Aside0.mk h.b.size
  have OPd := Aside0.mk h
  have HES := Aside0.mk hes
  have HHE := Aside0.mk hhe
  have HX := Aside0.mk hx
  have HM := Aside0.mk hM
  have Y0 := Aside0.mk h0
  have Y1 := Aside0.mk h1
  have EOx := Aside0.mk hE
  have HW := Aside0.mk (Below.refl W.heap.size W)
  have hcb := calB_iff h.cal
  have HDY := Aside0.mk (show 0 ≤ y ∧ y ≤ 4000 ∧ (1 : Int) ≤ 3 ∧ (3 : Int) ≤ 12 ∧ (1 : Int) ≤ 21 ∧ (21 : Int) ≤ 31 from ⟨h0, h1, by omega, by omega, by omega, by omega⟩)
  obtain ⟨D, hD⟩ : ∃ D, dayOf ep cs y 3 21 = D := ⟨_, rfl⟩
  have HDB := Aside0.mk (show 0 ≤ D ∧ D ≤ 1467000 by have a := fday_bd ep cs y.toNat ⟨hcb.1, hcb.2.1⟩ (by omega); have b := mbefore_bd cs y 3; rw [← hD]; unfold dayOf; omega)
  obtain ⟨fl, hfl⟩ : ∃ f, fullOf m0 m1 m2 D = f := ⟨_, rfl⟩
  have HFL := Aside0.mk (show D ≤ fl ∧ fl ≤ D + 43 ∧ ageOf m0 m1 m2 fl = 13 ∧ ∀ t, D ≤ t → t < fl → ageOf m0 m1 m2 t ≠ 13 by rw [← hfl]; exact fullOf_spec hM D)
  have HSUN := Aside0.mk (show sundayOf ep cs m0 m1 m2 y = fl + 7 - wday fl by unfold sundayOf; rw [hD, hfl])
  have HD0 := Aside0.mk hD
  clear hcb h hes hhe hx hM h0 h1 hE hD hfl
  go_enter Tryz.func71, Tryz.ntmps71
  go_wp2_with (first
    | ((with_reducible refine zG 2 rfl ?_); refine zBox 2 #[.int .i64 ep, .slice A cs.length c, .int .i64 m0, .int .i64 m1, .int .i64 m2, .slice (some a5) F.length c5, .map (some mb)] 83 ?_; intro g1 hg w1 hbox hb; have GEg1 := zge hg HW; replace HW := zW HW hb; replace OPd := zo OPd hb; replace EOx := Aside0.mk (by first | exact EOx.out.below hb | exact EOx.out.belowD hb); have BKg1 := Aside0.mk hbox; clear hb hbox hg; have z1_g10 := zC BKg1)
    | ((with_reducible refine zG 5 rfl ?_); refine zBox 5 #[.int .i64 0, .int .i64 0, .int .i64 0] 38 ?_; intro g2 hg w2 hbox hb; have GEg2 := zge hg HW; have NEg1_g2 := zne hg BKg1; replace HW := zW HW hb; replace OPd := zo OPd hb; replace EOx := Aside0.mk (by first | exact EOx.out.below hb | exact EOx.out.belowD hb); replace BKg1 := zb BKg1 hb; have BKg2 := Aside0.mk hbox; clear hb hbox hg; (try clear z1_g10); have z2_g10 := zC BKg1; have z2_g20 := zC BKg2)
    | ((with_reducible refine zH 38 5 rfl ?_); refine zSto 38 5 #[.int .i64 y, .int .i64 3, .int .i64 21] BKg2 ?_; intro w3 hw; replace HW := zWS hw GEg2 HW; replace OPd := Aside0.mk (Opd.setRow' hw (by decide) (Nat.le_trans HZ.out GEg2.out) BKg2.out OPd.out); replace EOx := Aside0.mk (EOk.setRow' hw BKg2.out EOx.out); replace BKg1 := zfar hw (by first | exact NEg1_g2.out | exact NEg2_g1.out.symm) BKg1; replace BKg2 := znew hw BKg2; clear hw; (try clear z2_g10 z2_g20); have z3_g10 := zC BKg1; have z3_g20 := zC BKg2; have hlk : (Instr.lookup 81 (.map (some mb)) (.agg #[.int .i64 y, .int .i64 3, .int .i64 21]) true).run Tryz.prog w3 = .ok (.tuple #[.int .i64 0, .bool false]) w3 := look_miss HES.out HW.out HHE.out Y0.out Y1.out HX.out)
    | (go_at_call 57; (with_reducible refine (day_b m0 m1 m2 OPd.out y 3 21 HDY.out).mono ?_); rintro e w4 ⟨rfl, hb⟩; replace HW := zW HW hb; replace OPd := zo OPd hb; replace EOx := Aside0.mk (by first | exact EOx.out.below hb | exact EOx.out.belowD hb); replace BKg1 := zb BKg1 hb; replace BKg2 := zb BKg2 hb; clear hb; (try clear z3_g10 z3_g20); have z4_g10 := zC BKg1; have z4_g20 := zC BKg2; rw [HD0.out]))
  go_loopw [8] (fun v8 Wr => ∃ (n : Int), v8 = .int .i64 n ∧ D ≤ n ∧ n ≤ fl ∧ Aside0 (Opd ep A c cs F a5 c5 mb w Wr) ∧ Aside0 (EOk (sundayOf ep cs m0 m1 m2) mb Wr) ∧ Aside0 (Below W.heap.size W Wr) ∧ Aside0 (Wr.heap[g1]? = some (.cells #[.int .i64 ep, .slice A cs.length c, .int .i64 m0, .int .i64 m1, .int .i64 m2, .slice (some a5) F.length c5, .map (some mb)] 83 (0, 0))) ∧ Aside0 (Wr.heap[g2]? = some (.cells #[.int .i64 y, .int .i64 3, .int .i64 21] 38 (0, 0)))) (fun i _ => (fl - intOf i).toNat)
  case atStart => exact ⟨D, rfl, Int.le_refl _, HFL.out.1, OPd, EOx, HW, BKg1, BKg2⟩
  case round =>
    clear OPd EOx HW BKg1 BKg2
    obtain ⟨n, rfl, hn0, hn1, OPd, EOx, HW, BKg1, BKg2⟩ := hrel
    have N0 := Aside0.mk (show 0 ≤ n by have := HDB.out; omega)
    have N1 := Aside0.mk (show n ≤ 100000000 by have := HDB.out; have := HFL.out.2.1; omega)
    have wn1 : IntKind.i64.wrap (n + 1) = n + 1 := (i64_w _).trans (wrap_of (n + 1) (by have := N0.out; omega) (by have := N1.out; omega))
    have v1_g10 := zC BKg1
    have v1_g20 := zC BKg2
    by_cases hlt : n < fl
    · have HA := Aside0.mk (show ¬ ageOf m0 m1 m2 n = 13 from HFL.out.2.2.2 n hn0 hlt)
      obtain ⟨q, hq⟩ : ∃ q, ageOf m0 m1 m2 n = q := ⟨_, rfl⟩
      have HQ := Aside0.mk hq
      have q1 : (q == 13) = false := by have := HA.out; rw [hq] at this; simpa using this
      have q2 : (q != 13) = true := by simp [bne, q1]
      have q3 : decide (q = 13) = false := by simpa using q1
      clear hq
      go_wp2_with (first
        | (go_at_call 60; (with_reducible refine (age_b HM.out n _ N0.out N1.out).mono ?_); rintro e wa ⟨rfl, hb⟩; replace HW := zW HW hb; replace OPd := zo OPd hb; replace EOx := Aside0.mk (by first | exact EOx.out.below hb | exact EOx.out.belowD hb); replace BKg1 := zb BKg1 hb; replace BKg2 := zb BKg2 hb; clear hb; (try clear v1_g10 v1_g20); have v2_g10 := zC BKg1; have v2_g20 := zC BKg2; rw [HQ.out]))
      go_roundw
      case rel => exact ⟨n + 1, by first | rfl | rw [wn1], by omega, by omega, OPd, EOx, HW, BKg1, BKg2⟩
      case measure => simp [intOf, wn1]; omega
    · have hne : n = fl := by omega
      subst hne
      have HA := Aside0.mk HFL.out.2.2.1
      obtain ⟨d, hd⟩ : ∃ d, wday n = d := ⟨_, rfl⟩
      have hdb := wday_bd n
      rw [hd] at hdb
      obtain ⟨d0, d1⟩ := hdb
      have HWD := Aside0.mk hd
      have N9 := Aside0.mk (show n ≤ 1000000000 by have := N1.out; omega)
      have HSU := Aside0.mk (show sundayOf ep cs m0 m1 m2 y = n + (7 - d) by rw [HSUN.out, hd]; omega)
      have w1_ : IntKind.i64.wrap (7 - d) = 7 - d := (i64_w _).trans (wrap_of (7 - d) (by omega) (by omega))
      have w2_ : IntKind.i64.wrap (n + (7 - d)) = n + (7 - d) := (i64_w _).trans (wrap_of _ (by have := N0.out; omega) (by have := N1.out; omega))
      clear hd
      go_wp2_with (first
        | (go_at_call 60; (with_reducible refine (age_l HM.out n 13 _ N0.out N1.out HA.out).mono ?_); rintro e wa ⟨rfl, hb⟩; replace HW := zW HW hb; replace OPd := zo OPd hb; replace EOx := Aside0.mk (by first | exact EOx.out.below hb | exact EOx.out.belowD hb); replace BKg1 := zb BKg1 hb; replace BKg2 := zb BKg2 hb; clear hb; (try clear v1_g10 v1_g20); have v2_g10 := zC BKg1; have v2_g20 := zC BKg2)
        | (go_at_call 49; (with_reducible refine (weekday_l n d _ HWD.out N0.out N9.out).mono ?_); rintro e wb ⟨rfl, hb⟩; replace HW := zW HW hb; replace OPd := zo OPd hb; replace EOx := Aside0.mk (by first | exact EOx.out.below hb | exact EOx.out.belowD hb); replace BKg1 := zb BKg1 hb; replace BKg2 := zb BKg2 hb; clear hb; (try clear v2_g10 v2_g20); have v3_g10 := zC BKg1; have v3_g20 := zC BKg2)
        | (at_mapUpdate; obtain ⟨w9, hrun, he9, hg9⟩ := (EOx.out).put y Y0.out Y1.out; rw [HSU.out] at hrun; refine mapUpdate_event rfl rfl 81 _ _ _ rfl (by first | rfl | (go_simp; done)) (by first | rfl | (go_simp; done)) (by first | rfl | (go_simp; done)) hrun ?_; have HG := Aside0.mk (grown_thenA HW.out hg9); clear EOx; have EOx := Aside0.mk he9; clear hrun he9 hg9 OPd HW BKg1 BKg2))
      go_ret
      exact ⟨by rw [HSU.out]; first | done | rfl, EOx.out, HG.out⟩
theorem sunday_b {ep : Int} {A : Option Addr} {c : Nat} {cs F : List Int} {a5 : Addr} {c5 mb : Nat} {w W : World} (m0 m1 m2 : Int) (h : Opd ep A c cs F a5 c5 mb w W) (hE : EOk (sundayOf ep cs m0 m1 m2) mb W) (hM : moonB m0 m1 m2 = true) (y : Int) (h0 : 0 ≤ y) (h1 : y ≤ 4000) :
    Calls Tryz.prog 71 #[.agg #[.int .i64 ep, .slice A cs.length c, .int .i64 m0, .int .i64 m1, .int .i64 m2, .slice (some a5) F.length c5, .map (some mb)], .int .i64 y] W fun e w' => e = .returned (.int .i64 (sundayOf ep cs m0 m1 m2 y)) ∧ EOk (sundayOf ep cs m0 m1 m2) mb w' ∧ W.grownBy w' (some mb) := by
  obtain ⟨es, cl, hes, hhe⟩ := id hE
  by_cases hx : ∃ e ∈ es.toList, e.key = march y
  · exact sunday_hit m0 m1 m2 h hE hM y h0 h1 hes hhe hx
  · exact sunday_miss m0 m1 m2 h hE hM y h0 h1 hes hhe hx
end Go.Proofs.YtnllidgonghckaaGreatDoor.X
namespace Go.Proofs.YtnllidgonghckaaGreatDoor.X
open Go.RowKit Go.Proofs.YtnllidgonghckaaGreatDoorW.PrintWords Go.Proofs.YtnllidgonghckaaGreatDoorW.PrintLast Go.Proofs.YtnllidgonghckaaGreatDoorW.PrintMore Go.Proofs.YtnllidgonghckaaGreatDoor.Dm
set_option linter.unusedVariables false
set_option linter.unusedSimpArgs false
attribute [local go_sem] max2_int min2_int max_two min_two max_three min_three max_four min_four
theorem isMoon_l (num den add : Int) (r : Bool) (hr : moonB num den add = r) (w : World) : Calls Tryz.prog 58 #[.agg #[.int .i64 num, .int .i64 den, .int .i64 add]] w fun e w' => e = .returned (.bool r) ∧ Below w.heap.size w w' :=
  dial_isMoon.calls num den add _ w ((isMoon_f num den add).trans (congrArg some hr))
theorem open_eok (ep : Int) (A : Option Addr) (c : Nat) (cs : List Int) (m0 m1 m2 : Int) (sf : Int → Int) (w0 w : World) (hr : Kd.C (Kd.int .i64) w0 A cs.length cs) (hc : cs.length ≤ c) (hcal : calB ep cs = true) (hB : Below w0.heap.size w0 w) (F : List Int) (hF : firsts ep cs = F) :
    Calls Tryz.prog 48 #[.agg #[.int .i64 ep, .slice A cs.length c], .agg #[.int .i64 m0, .int .i64 m1, .int .i64 m2]] w fun e w' => ∃ (a5 : Addr) (c5 mb : Nat), e = .returned (.agg #[.int .i64 ep, .slice A cs.length c, .int .i64 m0, .int .i64 m1, .int .i64 m2, .slice (some a5) F.length c5, .map (some mb)]) ∧
      Opd ep A c cs F a5 c5 mb w0 w' ∧ EOk sf mb w' ∧ Below w.heap.size w w' := by
  refine (open_calls ep A c cs m0 m1 m2 w (Kd.C_below hr hB) hc hcal).mono ?_
  rintro e w' ⟨v5, mb, rfl, hf, hm, hmb, hb⟩
  rw [hF] at hf
  obtain ⟨A5, c5, rfl⟩ := Kd.R_slice hf
  have hlen : F.length = 4002 := by rw [← hF]; exact firsts_length _ _
  obtain ⟨a5, e5, _⟩ := Kd.at_int (Kd.R_reads' hf).2.2 0 (by omega) (by rw [hlen]; omega)
  cases e5
  refine ⟨a5, c5, mb, rfl, ⟨hF, hcal, hr, hc, ?_, ⟨_, _, hm⟩, below_then hB hB.size hb, Nat.le_trans hB.size hmb⟩, EOk.start hm, hb⟩
  refine Kd.R_lower (Kd.R_mono (Kd.R_bound hf) (fun k hk => ?_)) hB.size
  obtain ⟨_, _, _, q, _, cells, hc'⟩ := hk
  rintro rfl
  rw [hm] at hc'
  cases hc'
def Easter4.T : Bool × List (List Nat × List Nat) := (true, [([], []), ([], []), ([], []), ([1, 2], [1, 2]), ([0, 3, 3], [0, 3]), ([4, 4, 0, 1, 2, 3, 4], [4]), ([5, 0, 1, 2, 3, 4, 5], [])])
def Easter4.B : List Nat := [0, 0, 0, 6, 15, 31, 63]
theorem Easter4.tab : rtab .any (opsOf Tryz.f37 4) = Easter4.T := by kernel_rfl
theorem Easter4.bits : waitsOk Easter4.T.2 Easter4.B = true := by kernel_rfl
set_option maxHeartbeats 8000000 in
set_option maxRecDepth 100000 in
theorem Easter_good (ep : Int) (A : Option Addr) (c : Nat) (cs : List Int) (m0 m1 m2 y : Int) (w : World) (hr : Kd.C (Kd.int .i64) w A cs.length cs) (hc : cs.length ≤ c) (hcal : calB ep cs = true) (hmn : moonB m0 m1 m2 = true) (hy : yearB y = true) (yy mo d : Int) (hdt : dateOf ep cs (sundayOf ep cs m0 m1 m2 y) = some (yy, mo, d)) :
    Calls Tryz.prog 37 #[.agg #[.int .i64 ep, .slice A cs.length c], .agg #[.int .i64 m0, .int .i64 m1, .int .i64 m2], .int .i64 y] w fun e w' => e = .returned (.tuple #[.agg #[.int .i64 yy, .int .i64 mo, .int .i64 d], .int .i64 0]) ∧ Below w.heap.size w w' := by
  obtain ⟨F, hF⟩ : ∃ F, firsts ep cs = F := ⟨_, rfl⟩
  have HFF := Aside0.mk hF
  clear hF
  obtain ⟨hy0, hy1⟩ := yearB_iff hy
  have Y0 := Aside0.mk hy0
  have Y1 := Aside0.mk hy1
  clear hy0 hy1
  obtain ⟨S, hS⟩ : ∃ S, sundayOf ep cs m0 m1 m2 y = S := ⟨_, rfl⟩
  rw [hS] at hdt
  have HS := Aside0.mk hS
  have HDT := Aside0.mk hdt
  clear hS hdt
  have hu24 := Tryz.underlying24
  have hu38 := Tryz.underlying38
  have hu45 := Tryz.underlying45
  have hu83 := Tryz.underlying83
  have HB := Aside0.mk (Below.refl w.heap.size w)
  have HR := Aside0.mk hr
  have HC := Aside0.mk hc
  clear hr hc
  have HCAL := Aside0.mk hcal
  clear hcal
  have HMN := Aside0.mk hmn
  clear hmn
  have HY := Aside0.mk hy
  clear hy
  go_enter Tryz.func37, Tryz.ntmps37
  go_wp2_with (first
    | ((with_reducible refine zG 3 rfl ?_); refine zBox 3 #[.int .i64 ep, .slice A cs.length c] 24 ?_; intro g1 hg w1 hbox hb; have GEg1 := zge hg HB; replace HB := zW HB hb; have BKg1 := Aside0.mk hbox; clear hb hbox hg; have z1_g10 := zC BKg1)
    | ((with_reducible refine zG 4 rfl ?_); refine zBox 4 #[.int .i64 m0, .int .i64 m1, .int .i64 m2] 45 ?_; intro g2 hg w2 hbox hb; have GEg2 := zge hg HB; have NEg1_g2 := zne hg BKg1; replace HB := zW HB hb; replace BKg1 := zb BKg1 hb; have BKg2 := Aside0.mk hbox; clear hb hbox hg; (try clear z1_g10); have z2_g10 := zC BKg1; have z2_g20 := zC BKg2)
    | ((with_reducible refine zG 6 rfl ?_); refine zBox 6 #[.int .i64 0, .int .i64 0, .int .i64 0] 38 ?_; intro gr hg w3 hbox hb; have GEgr := zge hg HB; have NEg1_gr := zne hg BKg1; have NEg2_gr := zne hg BKg2; replace HB := zW HB hb; replace BKg1 := zb BKg1 hb; replace BKg2 := zb BKg2 hb; have BKgr := Aside0.mk hbox; clear hb hbox hg; (try clear z2_g10 z2_g20); have z3_g10 := zC BKg1; have z3_g20 := zC BKg2; have z3_gr0 := zC BKgr)
    | (go_at_call 46; (with_reducible refine (isCal_l ep A c cs true HCAL.out w _ HR.out HC.out HB.out).mono ?_); rintro e w4 ⟨rfl, hb⟩; replace HB := zW HB hb; replace BKg1 := zb BKg1 hb; replace BKg2 := zb BKg2 hb; replace BKgr := zb BKgr hb; clear hb; (try clear z3_g10 z3_g20 z3_gr0); have z4_g10 := zC BKg1; have z4_g20 := zC BKg2; have z4_gr0 := zC BKgr)
    | (go_at_call 58; (with_reducible refine (isMoon_l m0 m1 m2 true HMN.out _).mono ?_); rintro e w5 ⟨rfl, hb⟩; replace HB := zW HB hb; replace BKg1 := zb BKg1 hb; replace BKg2 := zb BKg2 hb; replace BKgr := zb BKgr hb; clear hb; (try clear z4_g10 z4_g20 z4_gr0); have z5_g10 := zC BKg1; have z5_g20 := zC BKg2; have z5_gr0 := zC BKgr)
    | (go_at_call 47; (with_reducible refine (isYear_l y true HY.out _).mono ?_); rintro e w6 ⟨rfl, hb⟩; replace HB := zW HB hb; replace BKg1 := zb BKg1 hb; replace BKg2 := zb BKg2 hb; replace BKgr := zb BKgr hb; clear hb; (try clear z5_g10 z5_g20 z5_gr0); have z6_g10 := zC BKg1; have z6_g20 := zC BKg2; have z6_gr0 := zC BKgr)
    | (go_at_call 48; (with_reducible refine (open_eok ep A c cs m0 m1 m2 (sundayOf ep cs m0 m1 m2) w _ HR.out HC.out HCAL.out HB.out F HFF.out).mono ?_); rintro e w7 ⟨a5, c5, mb, rfl, ho, he, hb⟩; have OP := Aside0.mk ho; have EOx := Aside0.mk he; replace HB := zW HB hb; replace BKg1 := zb BKg1 hb; replace BKg2 := zb BKg2 hb; replace BKgr := zb BKgr hb; clear ho he hb; (try clear z6_g10 z6_g20 z6_gr0); have z7_g10 := zC BKg1; have z7_g20 := zC BKg2; have z7_gr0 := zC BKgr)
    | ((with_reducible refine zG 8 rfl ?_); refine zBox 8 #[.int .i64 0, .slice none 0 0, .int .i64 0, .int .i64 0, .int .i64 0, .slice none 0 0, .map none] 83 ?_; intro go hg w8 hbox hb; have GEgo := zge hg HB; have NEg1_go := zne hg BKg1; have NEg2_go := zne hg BKg2; have NEgr_go := zne hg BKgr; replace HB := zW HB hb; replace BKg1 := zb BKg1 hb; replace BKg2 := zb BKg2 hb; replace BKgr := zb BKgr hb; replace OP := zo OP hb; replace EOx := Aside0.mk (by first | exact EOx.out.below hb | exact EOx.out.belowD hb); have BKgo := Aside0.mk hbox; clear hb hbox hg; (try clear z7_g10 z7_g20 z7_gr0); have z8_g10 := zC BKg1; have z8_g20 := zC BKg2; have z8_gr0 := zC BKgr; have z8_go0 := zC BKgo)
    | ((with_reducible refine zH 83 8 rfl ?_); refine zSto 83 8 #[.int .i64 ep, .slice A cs.length c, .int .i64 m0, .int .i64 m1, .int .i64 m2, .slice (some a5) F.length c5, .map (some mb)] BKgo ?_; intro w9 hw; replace HB := zWS hw GEgo HB; replace BKg1 := zfar hw (by first | exact NEg1_go.out | exact NEgo_g1.out.symm) BKg1; replace BKg2 := zfar hw (by first | exact NEg2_go.out | exact NEgo_g2.out.symm) BKg2; replace BKgr := zfar hw (by first | exact NEgr_go.out | exact NEgo_gr.out.symm) BKgr; replace OP := zoS hw GEgo BKgo OP; replace EOx := Aside0.mk (EOk.setRow' hw BKgo.out EOx.out); replace BKgo := znew hw BKgo; clear hw; (try clear z8_g10 z8_g20 z8_gr0 z8_go0); have z9_g10 := zC BKg1; have z9_g20 := zC BKg2; have z9_gr0 := zC BKgr; have z9_go0 := zC BKgo))
  try go_wp2
  replace OP := zoD OP
  replace EOx := Aside0.mk (EOx.out.belowD (Below.refl _ _))
  replace BKgo := zbD BKgo
  replace BKgr := zbD BKgr
  replace HB := zWD HB
  refine zStart 7 (fun w' => zCells w' go 0 [.int .i64 ep, .slice A cs.length c, .int .i64 m0, .int .i64 m1, .int .i64 m2, .slice (some a5) F.length c5, .map (some mb)]) #[false, false, false, false, false, false, false] Easter4.tab Easter4.bits (zS BKgo) (fun hHeld HT_ HW_ => ?_)
  generalize w9.drew = wd at OP EOx BKgo BKgr HB hHeld ⊢
  refine zP 2 (some 28) HT_ ?_
  refine zT 0 (some 26) HT_ HW_ hHeld ?_
  refine zT 1 (some 27) HT_ HW_ hHeld ?_
  refine zGo 3 (some 29) HT_ Tryz.func71 #[.agg #[.int .i64 ep, .slice A cs.length c, .int .i64 m0, .int .i64 m1, .int .i64 m2, .slice (some a5) F.length c5, .map (some mb)], .int .i64 y] ?_
  with_reducible refine (sunday_b m0 m1 m2 OP.out EOx.out HMN.out y Y0.out Y1.out).mono ?_
  rintro e ws ⟨rfl, he9, hg⟩
  rw [HS.out]
  have n0_ := Aside0.mk (OP.out.gr hg he9.blk)
  have n1_ := Aside0.mk (blk_gr_cells BKgo.out EOx.out.blk hg)
  have n2_ := Aside0.mk (blk_gr_cells BKgr.out EOx.out.blk hg)
  have n3_ := Aside0.mk (below_gr HB.out hg OP.out.zmb)
  clear OP BKgo BKgr HB EOx hHeld
  have OP := n0_
  have BKgo := n1_
  have BKgr := n2_
  have HB := n3_
  have EOx := Aside0.mk he9
  clear n0_ n1_ n2_ n3_ he9 hg
  refine zV (zS BKgo) (fun hHeld => ?_)
  refine zGo 4 (some 30) HT_ Tryz.func64 #[.agg #[.int .i64 ep, .slice A cs.length c, .int .i64 m0, .int .i64 m1, .int .i64 m2, .slice (some a5) F.length c5, .map (some mb)], .int .i64 S] ?_
  with_reducible refine (date_b m0 m1 m2 OP.out S yy mo d HDT.out).mono ?_
  rintro e wd_1 ⟨rfl, hb⟩
  replace OP := zo OP hb
  replace EOx := Aside0.mk (EOx.out.below hb)
  replace BKgo := zb BKgo hb
  replace BKgr := zb BKgr hb
  replace HB := zW HB hb
  clear hb hHeld
  refine zV (zS BKgo) (fun hHeld => ?_)
  refine one_ (i := 5) (N := none) #[true, true, true, true, true, true, false] rfl rfl (one_of HT_.out (by kernel_rfl)) (by decide) (fun K hK => ?_)
  refine store_row_step (by rfl) rfl 38 _ _ rfl #[.int .i64 yy, .int .i64 mo, .int .i64 d] BKgr.out (by rfl) (by rfl) (by kernel_rfl) rfl (by simp [Value.oneCell']) ?_
  intro w' hw
  have n0_ := Aside0.mk (show w'.heap[gr]? = some (.cells #[.int .i64 yy, .int .i64 mo, .int .i64 d] 38 (0, 0)) by rw [hw]; exact row_new BKgr.out _)
  have n1_ := Aside0.mk (below_setRow' hw GEgr.out HB.out)
  have n2_ := Aside0.mk (show w'.heap[go]? = some (.cells #[.int .i64 ep, .slice A cs.length c, .int .i64 m0, .int .i64 m1, .int .i64 m2, .slice (some a5) F.length c5, .map (some mb)] 83 (0, 0)) by rw [hw]; exact row_far _ NEgr_go.out.symm BKgo.out)
  clear hw hHeld BKgr HB BKgo OP EOx
  have BKgr := n0_
  have HB := n1_
  have BKgo := n2_
  clear n0_ n1_ n2_
  refine hK.out _ _ (zS BKgo) (fun hHeld => ?_)
  clear hK K
  refine zP 6 (some 7) HT_ ?_
  refine done_ (done_of HT_.out (by kernel_rfl)) ?_
  try go_wp2
  refine bodyPost_ret (results_ct rfl _ _ gr 38 #[.int .i64 yy, .int .i64 mo, .int .i64 d] (0, 0) _ rfl BKgr.out Tryz.underlying38 rfl (by kernel_rfl)) rfl ?_
  exact ⟨rfl, HB.out⟩
end Go.Proofs.YtnllidgonghckaaGreatDoor.X
namespace Go.Proofs.YtnllidgonghckaaGreatDoor.X
open Go.RowKit Go.Proofs.YtnllidgonghckaaGreatDoorW.PrintWords Go.Proofs.YtnllidgonghckaaGreatDoorW.PrintLast Go.Proofs.YtnllidgonghckaaGreatDoorW.PrintMore Go.Proofs.YtnllidgonghckaaGreatDoor.Dm
set_option linter.unusedVariables false
set_option linter.unusedSimpArgs false
attribute [local go_sem] max2_int min2_int max_two min_two max_three min_three max_four min_four
structure S74 where
  f0 : Int
  f1 : Int
  f2 : Int
  f3 : Int
def z74 : S74 := ⟨(0 : Int), (0 : Int), (0 : Int), (0 : Int)⟩
def k74 : Kd S74 := Kd.iso (Kd.pair (Kd.int .i64) (Kd.pair (Kd.int .i64) (Kd.pair (Kd.int .i64) (Kd.int .i64)))) (fun x : S74 => (x.f0, x.f1, x.f2, x.f3))
theorem k74_open {w : World} {x : S74} {cs : List Value} (h : k74.K w x cs) : cs = [.int .i64 x.f0, .int .i64 x.f1, .int .i64 x.f2, .int .i64 x.f3] := by
  obtain ⟨_, _, rfl, rfl, ⟨_, _, rfl, rfl, ⟨_, _, rfl, rfl, rfl⟩⟩⟩ := h
  exact rfl
theorem k74_mk (w : World) (x : S74)  : k74.K w x [.int .i64 x.f0, .int .i64 x.f1, .int .i64 x.f2, .int .i64 x.f3] := ⟨[.int .i64 x.f0], [.int .i64 x.f1, .int .i64 x.f2, .int .i64 x.f3], rfl, rfl, ⟨[.int .i64 x.f1], [.int .i64 x.f2, .int .i64 x.f3], rfl, rfl, ⟨[.int .i64 x.f2], [.int .i64 x.f3], rfl, rfl, rfl⟩⟩⟩
def rd_T74 (xs : List S74) (i : Int) : S74 := xs.getD i.toNat z74
theorem at_T74 {w : World} {A : Option Addr} {n : Nat} {xs : List S74} (h : Kd.C k74 w A n xs) (i : Int) (h0 : 0 ≤ i) (h1 : i < n) : ∃ ad , A = some ad ∧ w.cell? (ad.add (i.toNat * 4)) = some (.int .i64 (rd_T74 xs i).f0) ∧ w.cell? ⟨(ad.add (i.toNat * 4)).block, (ad.add (i.toNat * 4)).off + 1, none⟩ = some (.int .i64 (rd_T74 xs i).f1) ∧ w.cell? ⟨(ad.add (i.toNat * 4)).block, (ad.add (i.toNat * 4)).off + 2, none⟩ = some (.int .i64 (rd_T74 xs i).f2) ∧ w.cell? ⟨(ad.add (i.toNat * 4)).block, (ad.add (i.toNat * 4)).off + 3, none⟩ = some (.int .i64 (rd_T74 xs i).f3) := by
  obtain ⟨ad, c, e, _, hK, hc0⟩ := Kd.C_get h z74 i h0 h1
  have hc : ∀ j u, c[j]? = some u → w.cell? (ad.add (i.toNat * 4 + j)) = some u := hc0
  obtain rfl := k74_open hK
  exact ⟨ad, e, hc 0 _ rfl, by rw [← add_field _ _ 1 (by omega)]; exact hc 1 _ rfl, by rw [← add_field _ _ 2 (by omega)]; exact hc 2 _ rfl, by rw [← add_field _ _ 3 (by omega)]; exact hc 3 _ rfl⟩
theorem cases5 (mo d : Int) : (inB mo 1 12 = true ∧ inB d 1 31 = true ∧ ((mo == 0) = false ∧ decide (mo = 0) = false)) ∨ (inB mo 1 12 = true ∧ inB d 1 31 = false ∧ ((mo == 0) = false ∧ decide (mo = 0) = false)) ∨ (inB mo 1 12 = false ∧ ((mo == 0) = false ∧ decide (mo = 0) = false)) ∨ (inB mo 1 12 = false ∧ ((mo == 0) = true ∧ decide (mo = 0) = true) ∧ ((d == 0) = true ∧ decide (d = 0) = true)) ∨ (inB mo 1 12 = false ∧ ((mo == 0) = true ∧ decide (mo = 0) = true) ∧ ((d == 0) = false ∧ decide (d = 0) = false)) := by
  simp only [inB, beq_eq_false_iff_ne, ne_eq, decide_eq_false_iff_not, beq_iff_eq, decide_eq_true_eq, Bool.and_eq_true, Bool.and_eq_false_iff]
  omega
def kindOk (k mo d : Int) : Bool := if k = 1 ∨ k = 2 ∨ k = 3 then inB mo 1 12 && inB d 1 31 else if k = 4 ∨ k = 5 then (mo == 0) && (d == 0) else false
def loOf (k : Int) : Int := if k = 4 then 1 else if k = 5 then 365 else 0
def hiOf (k : Int) : Int := if k = 1 then 6 else if k = 2 then 29 else if k = 3 then 0 else if k = 4 then 19 else 366
def factB (x : S74) : Bool := kindOk x.f0 x.f1 x.f2 && inB x.f3 (loOf x.f0) (hiOf x.f0)
def askB (x : S74) : Bool := kindOk x.f0 x.f1 x.f2 && (x.f3 == 0)
set_option maxHeartbeats 8000000 in
set_option maxRecDepth 100000 in
theorem inner_fact (k mo d v lo hi : Int) (g : Nat) (W : World) (hb : W.heap[g]? = some (.cells #[.int .i64 k, .int .i64 mo, .int .i64 d, .int .i64 v] 74 (0, 0))) :
    Calls Tryz.prog 95 #[.int .i64 lo, .int .i64 hi, .pointer (some ⟨g, 0, none⟩)] W fun e w' => e = .returned (.bool (inB v lo hi)) ∧ Below W.heap.size W w' := by
  have hu74 := Tryz.underlying74
  have hu72 := Tryz.underlying72
  have HW := Aside0.mk (Below.refl W.heap.size W)
  have BKg := Aside0.mk hb
  clear hb
  have y1_g0 := zC BKg
  go_enter Tryz.func95, Tryz.ntmps95
  go_wp2_with (first
    | (go_at_call 70; (with_reducible refine (in_b v lo hi _).mono ?_); rintro e w1 ⟨rfl, hb⟩; replace HW := zW HW hb; replace BKg := zb BKg hb; clear hb; have z1_g0 := zC BKg))
  all_goals
    go_ret
    refine ⟨?_, HW.out⟩
    first | rfl | (simp_all; done)
set_option maxHeartbeats 8000000 in
set_option maxRecDepth 100000 in
theorem inner_ask (k mo d v lo hi : Int) (g : Nat) (W : World) (hb : W.heap[g]? = some (.cells #[.int .i64 k, .int .i64 mo, .int .i64 d, .int .i64 v] 74 (0, 0))) :
    Calls Tryz.prog 99 #[.int .i64 lo, .int .i64 hi, .pointer (some ⟨g, 0, none⟩)] W fun e w' => e = .returned (.bool ((v == 0))) ∧ Below W.heap.size W w' := by
  have hu74 := Tryz.underlying74
  have hu72 := Tryz.underlying72
  have HW := Aside0.mk (Below.refl W.heap.size W)
  have BKg := Aside0.mk hb
  clear hb
  have y1_g0 := zC BKg
  go_enter Tryz.func99, Tryz.ntmps99
  go_wp2_with (first
    | fail)
  all_goals
    go_ret
    refine ⟨?_, HW.out⟩
    first | rfl | (simp_all; done)
set_option maxHeartbeats 8000000 in
set_option maxRecDepth 100000 in
theorem isFact_f0 (k mo d v : Int) (pv : Bool) (gf : Nat) (W : World) (hk : ¬ (k = 1 ∨ k = 2 ∨ k = 3) ∧ ¬ (k = 4 ∨ k = 5)) :
    Calls Tryz.prog 94 #[.agg #[.int .i64 k, .int .i64 mo, .int .i64 d, .int .i64 v], .func (.func 95) #[] #[.pointer (some ⟨gf, 0, none⟩)]] W fun e w' => e = .returned (.bool (kindOk k mo d && pv)) ∧ Below W.heap.size W w' := by
  have hu74 := Tryz.underlying74
  have hu72 := Tryz.underlying72
  have HW := Aside0.mk (Below.refl W.heap.size W)
  have k1 : (k == 1) = false := by simp; omega
  have k2 : (k == 2) = false := by simp; omega
  have k3 : (k == 3) = false := by simp; omega
  have k4 : (k == 4) = false := by simp; omega
  have k5 : (k == 5) = false := by simp; omega
  have k1' : decide (k = 1) = false := by simp; omega
  have k2' : decide (k = 2) = false := by simp; omega
  have k3' : decide (k = 3) = false := by simp; omega
  have k4' : decide (k = 4) = false := by simp; omega
  have k5' : decide (k = 5) = false := by simp; omega
  have HKO := Aside0.mk (show kindOk k mo d = false by unfold kindOk; rw [if_neg hk.1, if_neg hk.2])
  clear hk
  rcases cases5 mo d with ⟨a1, a2, a3, a4⟩ | ⟨a1, a2, a3, a4⟩ | ⟨a1, a3, a4⟩ | ⟨a1, ⟨a3, a4⟩, a5, a6⟩ | ⟨a1, ⟨a3, a4⟩, a5, a6⟩
  · have A1 := Aside0.mk a1
    have A2 := Aside0.mk a2
    clear a1 a2
    go_enter Tryz.func94, Tryz.ntmps94
    go_wp2_with (first
      | ((with_reducible refine zG 2 rfl ?_); refine zBox 2 #[.int .i64 k, .int .i64 mo, .int .i64 d, .int .i64 v] 74 ?_; intro g1 hg w1 hbox hb; have GEg1 := zge hg HW; replace HW := zW HW hb; have BKg1 := Aside0.mk hbox; clear hb hbox hg; have z1_g10 := zC BKg1)
      | (go_at_call 70; (with_reducible refine (in_l mo 1 12 true A1.out _).mono ?_); rintro e w2 ⟨rfl, hb⟩; replace HW := zW HW hb; replace BKg1 := zb BKg1 hb; clear hb; (try clear z1_g10); have z2_g10 := zC BKg1)
      | (go_at_call 70; (with_reducible refine (in_l d 1 31 true A2.out _).mono ?_); rintro e w3 ⟨rfl, hb⟩; replace HW := zW HW hb; replace BKg1 := zb BKg1 hb; clear hb; (try clear z2_g10); have z3_g10 := zC BKg1))
    go_ret
    exact ⟨by rw [HKO.out]; first | done | rfl, HW.out⟩
  · have A1 := Aside0.mk a1
    have A2 := Aside0.mk a2
    clear a1 a2
    go_enter Tryz.func94, Tryz.ntmps94
    go_wp2_with (first
      | ((with_reducible refine zG 2 rfl ?_); refine zBox 2 #[.int .i64 k, .int .i64 mo, .int .i64 d, .int .i64 v] 74 ?_; intro g1 hg w1 hbox hb; have GEg1 := zge hg HW; replace HW := zW HW hb; have BKg1 := Aside0.mk hbox; clear hb hbox hg; have z1_g10 := zC BKg1)
      | (go_at_call 70; (with_reducible refine (in_l mo 1 12 true A1.out _).mono ?_); rintro e w2 ⟨rfl, hb⟩; replace HW := zW HW hb; replace BKg1 := zb BKg1 hb; clear hb; (try clear z1_g10); have z2_g10 := zC BKg1)
      | (go_at_call 70; (with_reducible refine (in_l d 1 31 false A2.out _).mono ?_); rintro e w3 ⟨rfl, hb⟩; replace HW := zW HW hb; replace BKg1 := zb BKg1 hb; clear hb; (try clear z2_g10); have z3_g10 := zC BKg1))
    go_ret
    exact ⟨by rw [HKO.out]; first | done | rfl, HW.out⟩
  · have A1 := Aside0.mk a1
    clear a1
    go_enter Tryz.func94, Tryz.ntmps94
    go_wp2_with (first
      | ((with_reducible refine zG 2 rfl ?_); refine zBox 2 #[.int .i64 k, .int .i64 mo, .int .i64 d, .int .i64 v] 74 ?_; intro g1 hg w1 hbox hb; have GEg1 := zge hg HW; replace HW := zW HW hb; have BKg1 := Aside0.mk hbox; clear hb hbox hg; have z1_g10 := zC BKg1)
      | (go_at_call 70; (with_reducible refine (in_l mo 1 12 false A1.out _).mono ?_); rintro e w2 ⟨rfl, hb⟩; replace HW := zW HW hb; replace BKg1 := zb BKg1 hb; clear hb; (try clear z1_g10); have z2_g10 := zC BKg1))
    go_ret
    exact ⟨by rw [HKO.out]; first | done | rfl, HW.out⟩
  · have A1 := Aside0.mk a1
    clear a1
    go_enter Tryz.func94, Tryz.ntmps94
    go_wp2_with (first
      | ((with_reducible refine zG 2 rfl ?_); refine zBox 2 #[.int .i64 k, .int .i64 mo, .int .i64 d, .int .i64 v] 74 ?_; intro g1 hg w1 hbox hb; have GEg1 := zge hg HW; replace HW := zW HW hb; have BKg1 := Aside0.mk hbox; clear hb hbox hg; have z1_g10 := zC BKg1)
      | (go_at_call 70; (with_reducible refine (in_l mo 1 12 false A1.out _).mono ?_); rintro e w2 ⟨rfl, hb⟩; replace HW := zW HW hb; replace BKg1 := zb BKg1 hb; clear hb; (try clear z1_g10); have z2_g10 := zC BKg1))
    go_ret
    exact ⟨by rw [HKO.out]; first | done | rfl, HW.out⟩
  · have A1 := Aside0.mk a1
    clear a1
    go_enter Tryz.func94, Tryz.ntmps94
    go_wp2_with (first
      | ((with_reducible refine zG 2 rfl ?_); refine zBox 2 #[.int .i64 k, .int .i64 mo, .int .i64 d, .int .i64 v] 74 ?_; intro g1 hg w1 hbox hb; have GEg1 := zge hg HW; replace HW := zW HW hb; have BKg1 := Aside0.mk hbox; clear hb hbox hg; have z1_g10 := zC BKg1)
      | (go_at_call 70; (with_reducible refine (in_l mo 1 12 false A1.out _).mono ?_); rintro e w2 ⟨rfl, hb⟩; replace HW := zW HW hb; replace BKg1 := zb BKg1 hb; clear hb; (try clear z1_g10); have z2_g10 := zC BKg1))
    go_ret
    exact ⟨by rw [HKO.out]; first | done | rfl, HW.out⟩
set_option maxHeartbeats 8000000 in
set_option maxRecDepth 100000 in
theorem isFact_f1 (k mo d v : Int) (pv : Bool) (gf : Nat) (W : World) (hk : k = 1) (hv : ∀ W', Below W.heap.size W W' → Calls Tryz.prog 95 #[.int .i64 0, .int .i64 6, .pointer (some ⟨gf, 0, none⟩)] W' fun e w' => e = .returned (.bool pv) ∧ Below W'.heap.size W' w') :
    Calls Tryz.prog 94 #[.agg #[.int .i64 k, .int .i64 mo, .int .i64 d, .int .i64 v], .func (.func 95) #[] #[.pointer (some ⟨gf, 0, none⟩)]] W fun e w' => e = .returned (.bool (kindOk k mo d && pv)) ∧ Below W.heap.size W w' := by
  have hu74 := Tryz.underlying74
  have hu72 := Tryz.underlying72
  have HW := Aside0.mk (Below.refl W.heap.size W)
  subst hk
  have HV := Aside0.mk hv
  clear hv
  rcases cases5 mo d with ⟨a1, a2, a3, a4⟩ | ⟨a1, a2, a3, a4⟩ | ⟨a1, a3, a4⟩ | ⟨a1, ⟨a3, a4⟩, a5, a6⟩ | ⟨a1, ⟨a3, a4⟩, a5, a6⟩
  · have A1 := Aside0.mk a1
    have A2 := Aside0.mk a2
    have HKO := Aside0.mk (show kindOk 1 mo d = true by unfold kindOk; rw [if_pos (by decide)]; simp [a1, a2])
    clear a1 a2
    go_enter Tryz.func94, Tryz.ntmps94
    go_wp2_with (first
      | ((with_reducible refine zG 2 rfl ?_); refine zBox 2 #[.int .i64 1, .int .i64 mo, .int .i64 d, .int .i64 v] 74 ?_; intro g1 hg w1 hbox hb; have GEg1 := zge hg HW; replace HW := zW HW hb; have BKg1 := Aside0.mk hbox; clear hb hbox hg; have z1_g10 := zC BKg1)
      | (go_at_call 70; (with_reducible refine (in_l mo 1 12 true A1.out _).mono ?_); rintro e w2 ⟨rfl, hb⟩; replace HW := zW HW hb; replace BKg1 := zb BKg1 hb; clear hb; (try clear z1_g10); have z2_g10 := zC BKg1)
      | (go_at_call 70; (with_reducible refine (in_l d 1 31 true A2.out _).mono ?_); rintro e w3 ⟨rfl, hb⟩; replace HW := zW HW hb; replace BKg1 := zb BKg1 hb; clear hb; (try clear z2_g10); have z3_g10 := zC BKg1)
      | (go_at_call 95; (with_reducible refine (HV.out _ HW.out).mono ?_); rintro e w4 ⟨rfl, hb⟩; replace HW := zW HW hb; replace BKg1 := zb BKg1 hb; clear hb))
    go_ret
    exact ⟨by rw [HKO.out]; first | done | rfl, HW.out⟩
  · have A1 := Aside0.mk a1
    have A2 := Aside0.mk a2
    have HKO := Aside0.mk (show kindOk 1 mo d = false by unfold kindOk; rw [if_pos (by decide)]; simp [a1, a2])
    clear a1 a2
    go_enter Tryz.func94, Tryz.ntmps94
    go_wp2_with (first
      | ((with_reducible refine zG 2 rfl ?_); refine zBox 2 #[.int .i64 1, .int .i64 mo, .int .i64 d, .int .i64 v] 74 ?_; intro g1 hg w1 hbox hb; have GEg1 := zge hg HW; replace HW := zW HW hb; have BKg1 := Aside0.mk hbox; clear hb hbox hg; have z1_g10 := zC BKg1)
      | (go_at_call 70; (with_reducible refine (in_l mo 1 12 true A1.out _).mono ?_); rintro e w2 ⟨rfl, hb⟩; replace HW := zW HW hb; replace BKg1 := zb BKg1 hb; clear hb; (try clear z1_g10); have z2_g10 := zC BKg1)
      | (go_at_call 70; (with_reducible refine (in_l d 1 31 false A2.out _).mono ?_); rintro e w3 ⟨rfl, hb⟩; replace HW := zW HW hb; replace BKg1 := zb BKg1 hb; clear hb; (try clear z2_g10); have z3_g10 := zC BKg1))
    go_ret
    exact ⟨by rw [HKO.out]; first | done | rfl, HW.out⟩
  · have A1 := Aside0.mk a1
    have HKO := Aside0.mk (show kindOk 1 mo d = false by unfold kindOk; rw [if_pos (by decide)]; simp [a1])
    clear a1
    go_enter Tryz.func94, Tryz.ntmps94
    go_wp2_with (first
      | ((with_reducible refine zG 2 rfl ?_); refine zBox 2 #[.int .i64 1, .int .i64 mo, .int .i64 d, .int .i64 v] 74 ?_; intro g1 hg w1 hbox hb; have GEg1 := zge hg HW; replace HW := zW HW hb; have BKg1 := Aside0.mk hbox; clear hb hbox hg; have z1_g10 := zC BKg1)
      | (go_at_call 70; (with_reducible refine (in_l mo 1 12 false A1.out _).mono ?_); rintro e w2 ⟨rfl, hb⟩; replace HW := zW HW hb; replace BKg1 := zb BKg1 hb; clear hb; (try clear z1_g10); have z2_g10 := zC BKg1))
    go_ret
    exact ⟨by rw [HKO.out]; first | done | rfl, HW.out⟩
  · have A1 := Aside0.mk a1
    have HKO := Aside0.mk (show kindOk 1 mo d = false by unfold kindOk; rw [if_pos (by decide)]; simp [a1])
    clear a1
    go_enter Tryz.func94, Tryz.ntmps94
    go_wp2_with (first
      | ((with_reducible refine zG 2 rfl ?_); refine zBox 2 #[.int .i64 1, .int .i64 mo, .int .i64 d, .int .i64 v] 74 ?_; intro g1 hg w1 hbox hb; have GEg1 := zge hg HW; replace HW := zW HW hb; have BKg1 := Aside0.mk hbox; clear hb hbox hg; have z1_g10 := zC BKg1)
      | (go_at_call 70; (with_reducible refine (in_l mo 1 12 false A1.out _).mono ?_); rintro e w2 ⟨rfl, hb⟩; replace HW := zW HW hb; replace BKg1 := zb BKg1 hb; clear hb; (try clear z1_g10); have z2_g10 := zC BKg1))
    go_ret
    exact ⟨by rw [HKO.out]; first | done | rfl, HW.out⟩
  · have A1 := Aside0.mk a1
    have HKO := Aside0.mk (show kindOk 1 mo d = false by unfold kindOk; rw [if_pos (by decide)]; simp [a1])
    clear a1
    go_enter Tryz.func94, Tryz.ntmps94
    go_wp2_with (first
      | ((with_reducible refine zG 2 rfl ?_); refine zBox 2 #[.int .i64 1, .int .i64 mo, .int .i64 d, .int .i64 v] 74 ?_; intro g1 hg w1 hbox hb; have GEg1 := zge hg HW; replace HW := zW HW hb; have BKg1 := Aside0.mk hbox; clear hb hbox hg; have z1_g10 := zC BKg1)
      | (go_at_call 70; (with_reducible refine (in_l mo 1 12 false A1.out _).mono ?_); rintro e w2 ⟨rfl, hb⟩; replace HW := zW HW hb; replace BKg1 := zb BKg1 hb; clear hb; (try clear z1_g10); have z2_g10 := zC BKg1))
    go_ret
    exact ⟨by rw [HKO.out]; first | done | rfl, HW.out⟩
set_option maxHeartbeats 8000000 in
set_option maxRecDepth 100000 in
theorem isFact_f2 (k mo d v : Int) (pv : Bool) (gf : Nat) (W : World) (hk : k = 2) (hv : ∀ W', Below W.heap.size W W' → Calls Tryz.prog 95 #[.int .i64 0, .int .i64 29, .pointer (some ⟨gf, 0, none⟩)] W' fun e w' => e = .returned (.bool pv) ∧ Below W'.heap.size W' w') :
    Calls Tryz.prog 94 #[.agg #[.int .i64 k, .int .i64 mo, .int .i64 d, .int .i64 v], .func (.func 95) #[] #[.pointer (some ⟨gf, 0, none⟩)]] W fun e w' => e = .returned (.bool (kindOk k mo d && pv)) ∧ Below W.heap.size W w' := by
  have hu74 := Tryz.underlying74
  have hu72 := Tryz.underlying72
  have HW := Aside0.mk (Below.refl W.heap.size W)
  subst hk
  have HV := Aside0.mk hv
  clear hv
  rcases cases5 mo d with ⟨a1, a2, a3, a4⟩ | ⟨a1, a2, a3, a4⟩ | ⟨a1, a3, a4⟩ | ⟨a1, ⟨a3, a4⟩, a5, a6⟩ | ⟨a1, ⟨a3, a4⟩, a5, a6⟩
  · have A1 := Aside0.mk a1
    have A2 := Aside0.mk a2
    have HKO := Aside0.mk (show kindOk 2 mo d = true by unfold kindOk; rw [if_pos (by decide)]; simp [a1, a2])
    clear a1 a2
    go_enter Tryz.func94, Tryz.ntmps94
    go_wp2_with (first
      | ((with_reducible refine zG 2 rfl ?_); refine zBox 2 #[.int .i64 2, .int .i64 mo, .int .i64 d, .int .i64 v] 74 ?_; intro g1 hg w1 hbox hb; have GEg1 := zge hg HW; replace HW := zW HW hb; have BKg1 := Aside0.mk hbox; clear hb hbox hg; have z1_g10 := zC BKg1)
      | (go_at_call 70; (with_reducible refine (in_l mo 1 12 true A1.out _).mono ?_); rintro e w2 ⟨rfl, hb⟩; replace HW := zW HW hb; replace BKg1 := zb BKg1 hb; clear hb; (try clear z1_g10); have z2_g10 := zC BKg1)
      | (go_at_call 70; (with_reducible refine (in_l d 1 31 true A2.out _).mono ?_); rintro e w3 ⟨rfl, hb⟩; replace HW := zW HW hb; replace BKg1 := zb BKg1 hb; clear hb; (try clear z2_g10); have z3_g10 := zC BKg1)
      | (go_at_call 95; (with_reducible refine (HV.out _ HW.out).mono ?_); rintro e w4 ⟨rfl, hb⟩; replace HW := zW HW hb; replace BKg1 := zb BKg1 hb; clear hb))
    go_ret
    exact ⟨by rw [HKO.out]; first | done | rfl, HW.out⟩
  · have A1 := Aside0.mk a1
    have A2 := Aside0.mk a2
    have HKO := Aside0.mk (show kindOk 2 mo d = false by unfold kindOk; rw [if_pos (by decide)]; simp [a1, a2])
    clear a1 a2
    go_enter Tryz.func94, Tryz.ntmps94
    go_wp2_with (first
      | ((with_reducible refine zG 2 rfl ?_); refine zBox 2 #[.int .i64 2, .int .i64 mo, .int .i64 d, .int .i64 v] 74 ?_; intro g1 hg w1 hbox hb; have GEg1 := zge hg HW; replace HW := zW HW hb; have BKg1 := Aside0.mk hbox; clear hb hbox hg; have z1_g10 := zC BKg1)
      | (go_at_call 70; (with_reducible refine (in_l mo 1 12 true A1.out _).mono ?_); rintro e w2 ⟨rfl, hb⟩; replace HW := zW HW hb; replace BKg1 := zb BKg1 hb; clear hb; (try clear z1_g10); have z2_g10 := zC BKg1)
      | (go_at_call 70; (with_reducible refine (in_l d 1 31 false A2.out _).mono ?_); rintro e w3 ⟨rfl, hb⟩; replace HW := zW HW hb; replace BKg1 := zb BKg1 hb; clear hb; (try clear z2_g10); have z3_g10 := zC BKg1))
    go_ret
    exact ⟨by rw [HKO.out]; first | done | rfl, HW.out⟩
  · have A1 := Aside0.mk a1
    have HKO := Aside0.mk (show kindOk 2 mo d = false by unfold kindOk; rw [if_pos (by decide)]; simp [a1])
    clear a1
    go_enter Tryz.func94, Tryz.ntmps94
    go_wp2_with (first
      | ((with_reducible refine zG 2 rfl ?_); refine zBox 2 #[.int .i64 2, .int .i64 mo, .int .i64 d, .int .i64 v] 74 ?_; intro g1 hg w1 hbox hb; have GEg1 := zge hg HW; replace HW := zW HW hb; have BKg1 := Aside0.mk hbox; clear hb hbox hg; have z1_g10 := zC BKg1)
      | (go_at_call 70; (with_reducible refine (in_l mo 1 12 false A1.out _).mono ?_); rintro e w2 ⟨rfl, hb⟩; replace HW := zW HW hb; replace BKg1 := zb BKg1 hb; clear hb; (try clear z1_g10); have z2_g10 := zC BKg1))
    go_ret
    exact ⟨by rw [HKO.out]; first | done | rfl, HW.out⟩
  · have A1 := Aside0.mk a1
    have HKO := Aside0.mk (show kindOk 2 mo d = false by unfold kindOk; rw [if_pos (by decide)]; simp [a1])
    clear a1
    go_enter Tryz.func94, Tryz.ntmps94
    go_wp2_with (first
      | ((with_reducible refine zG 2 rfl ?_); refine zBox 2 #[.int .i64 2, .int .i64 mo, .int .i64 d, .int .i64 v] 74 ?_; intro g1 hg w1 hbox hb; have GEg1 := zge hg HW; replace HW := zW HW hb; have BKg1 := Aside0.mk hbox; clear hb hbox hg; have z1_g10 := zC BKg1)
      | (go_at_call 70; (with_reducible refine (in_l mo 1 12 false A1.out _).mono ?_); rintro e w2 ⟨rfl, hb⟩; replace HW := zW HW hb; replace BKg1 := zb BKg1 hb; clear hb; (try clear z1_g10); have z2_g10 := zC BKg1))
    go_ret
    exact ⟨by rw [HKO.out]; first | done | rfl, HW.out⟩
  · have A1 := Aside0.mk a1
    have HKO := Aside0.mk (show kindOk 2 mo d = false by unfold kindOk; rw [if_pos (by decide)]; simp [a1])
    clear a1
    go_enter Tryz.func94, Tryz.ntmps94
    go_wp2_with (first
      | ((with_reducible refine zG 2 rfl ?_); refine zBox 2 #[.int .i64 2, .int .i64 mo, .int .i64 d, .int .i64 v] 74 ?_; intro g1 hg w1 hbox hb; have GEg1 := zge hg HW; replace HW := zW HW hb; have BKg1 := Aside0.mk hbox; clear hb hbox hg; have z1_g10 := zC BKg1)
      | (go_at_call 70; (with_reducible refine (in_l mo 1 12 false A1.out _).mono ?_); rintro e w2 ⟨rfl, hb⟩; replace HW := zW HW hb; replace BKg1 := zb BKg1 hb; clear hb; (try clear z1_g10); have z2_g10 := zC BKg1))
    go_ret
    exact ⟨by rw [HKO.out]; first | done | rfl, HW.out⟩
set_option maxHeartbeats 8000000 in
set_option maxRecDepth 100000 in
theorem isFact_f3 (k mo d v : Int) (pv : Bool) (gf : Nat) (W : World) (hk : k = 3) (hv : ∀ W', Below W.heap.size W W' → Calls Tryz.prog 95 #[.int .i64 0, .int .i64 0, .pointer (some ⟨gf, 0, none⟩)] W' fun e w' => e = .returned (.bool pv) ∧ Below W'.heap.size W' w') :
    Calls Tryz.prog 94 #[.agg #[.int .i64 k, .int .i64 mo, .int .i64 d, .int .i64 v], .func (.func 95) #[] #[.pointer (some ⟨gf, 0, none⟩)]] W fun e w' => e = .returned (.bool (kindOk k mo d && pv)) ∧ Below W.heap.size W w' := by
  have hu74 := Tryz.underlying74
  have hu72 := Tryz.underlying72
  have HW := Aside0.mk (Below.refl W.heap.size W)
  subst hk
  have HV := Aside0.mk hv
  clear hv
  rcases cases5 mo d with ⟨a1, a2, a3, a4⟩ | ⟨a1, a2, a3, a4⟩ | ⟨a1, a3, a4⟩ | ⟨a1, ⟨a3, a4⟩, a5, a6⟩ | ⟨a1, ⟨a3, a4⟩, a5, a6⟩
  · have A1 := Aside0.mk a1
    have A2 := Aside0.mk a2
    have HKO := Aside0.mk (show kindOk 3 mo d = true by unfold kindOk; rw [if_pos (by decide)]; simp [a1, a2])
    clear a1 a2
    go_enter Tryz.func94, Tryz.ntmps94
    go_wp2_with (first
      | ((with_reducible refine zG 2 rfl ?_); refine zBox 2 #[.int .i64 3, .int .i64 mo, .int .i64 d, .int .i64 v] 74 ?_; intro g1 hg w1 hbox hb; have GEg1 := zge hg HW; replace HW := zW HW hb; have BKg1 := Aside0.mk hbox; clear hb hbox hg; have z1_g10 := zC BKg1)
      | (go_at_call 70; (with_reducible refine (in_l mo 1 12 true A1.out _).mono ?_); rintro e w2 ⟨rfl, hb⟩; replace HW := zW HW hb; replace BKg1 := zb BKg1 hb; clear hb; (try clear z1_g10); have z2_g10 := zC BKg1)
      | (go_at_call 70; (with_reducible refine (in_l d 1 31 true A2.out _).mono ?_); rintro e w3 ⟨rfl, hb⟩; replace HW := zW HW hb; replace BKg1 := zb BKg1 hb; clear hb; (try clear z2_g10); have z3_g10 := zC BKg1)
      | (go_at_call 95; (with_reducible refine (HV.out _ HW.out).mono ?_); rintro e w4 ⟨rfl, hb⟩; replace HW := zW HW hb; replace BKg1 := zb BKg1 hb; clear hb))
    go_ret
    exact ⟨by rw [HKO.out]; first | done | rfl, HW.out⟩
  · have A1 := Aside0.mk a1
    have A2 := Aside0.mk a2
    have HKO := Aside0.mk (show kindOk 3 mo d = false by unfold kindOk; rw [if_pos (by decide)]; simp [a1, a2])
    clear a1 a2
    go_enter Tryz.func94, Tryz.ntmps94
    go_wp2_with (first
      | ((with_reducible refine zG 2 rfl ?_); refine zBox 2 #[.int .i64 3, .int .i64 mo, .int .i64 d, .int .i64 v] 74 ?_; intro g1 hg w1 hbox hb; have GEg1 := zge hg HW; replace HW := zW HW hb; have BKg1 := Aside0.mk hbox; clear hb hbox hg; have z1_g10 := zC BKg1)
      | (go_at_call 70; (with_reducible refine (in_l mo 1 12 true A1.out _).mono ?_); rintro e w2 ⟨rfl, hb⟩; replace HW := zW HW hb; replace BKg1 := zb BKg1 hb; clear hb; (try clear z1_g10); have z2_g10 := zC BKg1)
      | (go_at_call 70; (with_reducible refine (in_l d 1 31 false A2.out _).mono ?_); rintro e w3 ⟨rfl, hb⟩; replace HW := zW HW hb; replace BKg1 := zb BKg1 hb; clear hb; (try clear z2_g10); have z3_g10 := zC BKg1))
    go_ret
    exact ⟨by rw [HKO.out]; first | done | rfl, HW.out⟩
  · have A1 := Aside0.mk a1
    have HKO := Aside0.mk (show kindOk 3 mo d = false by unfold kindOk; rw [if_pos (by decide)]; simp [a1])
    clear a1
    go_enter Tryz.func94, Tryz.ntmps94
    go_wp2_with (first
      | ((with_reducible refine zG 2 rfl ?_); refine zBox 2 #[.int .i64 3, .int .i64 mo, .int .i64 d, .int .i64 v] 74 ?_; intro g1 hg w1 hbox hb; have GEg1 := zge hg HW; replace HW := zW HW hb; have BKg1 := Aside0.mk hbox; clear hb hbox hg; have z1_g10 := zC BKg1)
      | (go_at_call 70; (with_reducible refine (in_l mo 1 12 false A1.out _).mono ?_); rintro e w2 ⟨rfl, hb⟩; replace HW := zW HW hb; replace BKg1 := zb BKg1 hb; clear hb; (try clear z1_g10); have z2_g10 := zC BKg1))
    go_ret
    exact ⟨by rw [HKO.out]; first | done | rfl, HW.out⟩
  · have A1 := Aside0.mk a1
    have HKO := Aside0.mk (show kindOk 3 mo d = false by unfold kindOk; rw [if_pos (by decide)]; simp [a1])
    clear a1
    go_enter Tryz.func94, Tryz.ntmps94
    go_wp2_with (first
      | ((with_reducible refine zG 2 rfl ?_); refine zBox 2 #[.int .i64 3, .int .i64 mo, .int .i64 d, .int .i64 v] 74 ?_; intro g1 hg w1 hbox hb; have GEg1 := zge hg HW; replace HW := zW HW hb; have BKg1 := Aside0.mk hbox; clear hb hbox hg; have z1_g10 := zC BKg1)
      | (go_at_call 70; (with_reducible refine (in_l mo 1 12 false A1.out _).mono ?_); rintro e w2 ⟨rfl, hb⟩; replace HW := zW HW hb; replace BKg1 := zb BKg1 hb; clear hb; (try clear z1_g10); have z2_g10 := zC BKg1))
    go_ret
    exact ⟨by rw [HKO.out]; first | done | rfl, HW.out⟩
  · have A1 := Aside0.mk a1
    have HKO := Aside0.mk (show kindOk 3 mo d = false by unfold kindOk; rw [if_pos (by decide)]; simp [a1])
    clear a1
    go_enter Tryz.func94, Tryz.ntmps94
    go_wp2_with (first
      | ((with_reducible refine zG 2 rfl ?_); refine zBox 2 #[.int .i64 3, .int .i64 mo, .int .i64 d, .int .i64 v] 74 ?_; intro g1 hg w1 hbox hb; have GEg1 := zge hg HW; replace HW := zW HW hb; have BKg1 := Aside0.mk hbox; clear hb hbox hg; have z1_g10 := zC BKg1)
      | (go_at_call 70; (with_reducible refine (in_l mo 1 12 false A1.out _).mono ?_); rintro e w2 ⟨rfl, hb⟩; replace HW := zW HW hb; replace BKg1 := zb BKg1 hb; clear hb; (try clear z1_g10); have z2_g10 := zC BKg1))
    go_ret
    exact ⟨by rw [HKO.out]; first | done | rfl, HW.out⟩
set_option maxHeartbeats 8000000 in
set_option maxRecDepth 100000 in
theorem isFact_f4 (k mo d v : Int) (pv : Bool) (gf : Nat) (W : World) (hk : k = 4) (hv : ∀ W', Below W.heap.size W W' → Calls Tryz.prog 95 #[.int .i64 1, .int .i64 19, .pointer (some ⟨gf, 0, none⟩)] W' fun e w' => e = .returned (.bool pv) ∧ Below W'.heap.size W' w') :
    Calls Tryz.prog 94 #[.agg #[.int .i64 k, .int .i64 mo, .int .i64 d, .int .i64 v], .func (.func 95) #[] #[.pointer (some ⟨gf, 0, none⟩)]] W fun e w' => e = .returned (.bool (kindOk k mo d && pv)) ∧ Below W.heap.size W w' := by
  have hu74 := Tryz.underlying74
  have hu72 := Tryz.underlying72
  have HW := Aside0.mk (Below.refl W.heap.size W)
  subst hk
  have HV := Aside0.mk hv
  clear hv
  rcases cases5 mo d with ⟨a1, a2, a3, a4⟩ | ⟨a1, a2, a3, a4⟩ | ⟨a1, a3, a4⟩ | ⟨a1, ⟨a3, a4⟩, a5, a6⟩ | ⟨a1, ⟨a3, a4⟩, a5, a6⟩
  · have A1 := Aside0.mk a1
    have A2 := Aside0.mk a2
    have HKO := Aside0.mk (show kindOk 4 mo d = false by unfold kindOk; rw [if_neg (by decide), if_pos (by decide)]; simp only [a3]; rfl)
    clear a1 a2
    go_enter Tryz.func94, Tryz.ntmps94
    go_wp2_with (first
      | ((with_reducible refine zG 2 rfl ?_); refine zBox 2 #[.int .i64 4, .int .i64 mo, .int .i64 d, .int .i64 v] 74 ?_; intro g1 hg w1 hbox hb; have GEg1 := zge hg HW; replace HW := zW HW hb; have BKg1 := Aside0.mk hbox; clear hb hbox hg; have z1_g10 := zC BKg1)
      | (go_at_call 70; (with_reducible refine (in_l mo 1 12 true A1.out _).mono ?_); rintro e w2 ⟨rfl, hb⟩; replace HW := zW HW hb; replace BKg1 := zb BKg1 hb; clear hb; (try clear z1_g10); have z2_g10 := zC BKg1)
      | (go_at_call 70; (with_reducible refine (in_l d 1 31 true A2.out _).mono ?_); rintro e w3 ⟨rfl, hb⟩; replace HW := zW HW hb; replace BKg1 := zb BKg1 hb; clear hb; (try clear z2_g10); have z3_g10 := zC BKg1))
    go_ret
    exact ⟨by rw [HKO.out]; first | done | rfl, HW.out⟩
  · have A1 := Aside0.mk a1
    have A2 := Aside0.mk a2
    have HKO := Aside0.mk (show kindOk 4 mo d = false by unfold kindOk; rw [if_neg (by decide), if_pos (by decide)]; simp only [a3]; rfl)
    clear a1 a2
    go_enter Tryz.func94, Tryz.ntmps94
    go_wp2_with (first
      | ((with_reducible refine zG 2 rfl ?_); refine zBox 2 #[.int .i64 4, .int .i64 mo, .int .i64 d, .int .i64 v] 74 ?_; intro g1 hg w1 hbox hb; have GEg1 := zge hg HW; replace HW := zW HW hb; have BKg1 := Aside0.mk hbox; clear hb hbox hg; have z1_g10 := zC BKg1)
      | (go_at_call 70; (with_reducible refine (in_l mo 1 12 true A1.out _).mono ?_); rintro e w2 ⟨rfl, hb⟩; replace HW := zW HW hb; replace BKg1 := zb BKg1 hb; clear hb; (try clear z1_g10); have z2_g10 := zC BKg1)
      | (go_at_call 70; (with_reducible refine (in_l d 1 31 false A2.out _).mono ?_); rintro e w3 ⟨rfl, hb⟩; replace HW := zW HW hb; replace BKg1 := zb BKg1 hb; clear hb; (try clear z2_g10); have z3_g10 := zC BKg1))
    go_ret
    exact ⟨by rw [HKO.out]; first | done | rfl, HW.out⟩
  · have A1 := Aside0.mk a1
    have HKO := Aside0.mk (show kindOk 4 mo d = false by unfold kindOk; rw [if_neg (by decide), if_pos (by decide)]; simp only [a3]; rfl)
    clear a1
    go_enter Tryz.func94, Tryz.ntmps94
    go_wp2_with (first
      | ((with_reducible refine zG 2 rfl ?_); refine zBox 2 #[.int .i64 4, .int .i64 mo, .int .i64 d, .int .i64 v] 74 ?_; intro g1 hg w1 hbox hb; have GEg1 := zge hg HW; replace HW := zW HW hb; have BKg1 := Aside0.mk hbox; clear hb hbox hg; have z1_g10 := zC BKg1)
      | (go_at_call 70; (with_reducible refine (in_l mo 1 12 false A1.out _).mono ?_); rintro e w2 ⟨rfl, hb⟩; replace HW := zW HW hb; replace BKg1 := zb BKg1 hb; clear hb; (try clear z1_g10); have z2_g10 := zC BKg1))
    go_ret
    exact ⟨by rw [HKO.out]; first | done | rfl, HW.out⟩
  · have A1 := Aside0.mk a1
    have HKO := Aside0.mk (show kindOk 4 mo d = true by unfold kindOk; rw [if_neg (by decide), if_pos (by decide)]; simp only [a3, a5]; rfl)
    clear a1
    go_enter Tryz.func94, Tryz.ntmps94
    go_wp2_with (first
      | ((with_reducible refine zG 2 rfl ?_); refine zBox 2 #[.int .i64 4, .int .i64 mo, .int .i64 d, .int .i64 v] 74 ?_; intro g1 hg w1 hbox hb; have GEg1 := zge hg HW; replace HW := zW HW hb; have BKg1 := Aside0.mk hbox; clear hb hbox hg; have z1_g10 := zC BKg1)
      | (go_at_call 70; (with_reducible refine (in_l mo 1 12 false A1.out _).mono ?_); rintro e w2 ⟨rfl, hb⟩; replace HW := zW HW hb; replace BKg1 := zb BKg1 hb; clear hb; (try clear z1_g10); have z2_g10 := zC BKg1)
      | (go_at_call 95; (with_reducible refine (HV.out _ HW.out).mono ?_); rintro e w4 ⟨rfl, hb⟩; replace HW := zW HW hb; replace BKg1 := zb BKg1 hb; clear hb))
    go_ret
    exact ⟨by rw [HKO.out]; first | done | rfl, HW.out⟩
  · have A1 := Aside0.mk a1
    have HKO := Aside0.mk (show kindOk 4 mo d = false by unfold kindOk; rw [if_neg (by decide), if_pos (by decide)]; simp only [a3, a5]; rfl)
    clear a1
    go_enter Tryz.func94, Tryz.ntmps94
    go_wp2_with (first
      | ((with_reducible refine zG 2 rfl ?_); refine zBox 2 #[.int .i64 4, .int .i64 mo, .int .i64 d, .int .i64 v] 74 ?_; intro g1 hg w1 hbox hb; have GEg1 := zge hg HW; replace HW := zW HW hb; have BKg1 := Aside0.mk hbox; clear hb hbox hg; have z1_g10 := zC BKg1)
      | (go_at_call 70; (with_reducible refine (in_l mo 1 12 false A1.out _).mono ?_); rintro e w2 ⟨rfl, hb⟩; replace HW := zW HW hb; replace BKg1 := zb BKg1 hb; clear hb; (try clear z1_g10); have z2_g10 := zC BKg1))
    go_ret
    exact ⟨by rw [HKO.out]; first | done | rfl, HW.out⟩
set_option maxHeartbeats 8000000 in
set_option maxRecDepth 100000 in
theorem isFact_f5 (k mo d v : Int) (pv : Bool) (gf : Nat) (W : World) (hk : k = 5) (hv : ∀ W', Below W.heap.size W W' → Calls Tryz.prog 95 #[.int .i64 365, .int .i64 366, .pointer (some ⟨gf, 0, none⟩)] W' fun e w' => e = .returned (.bool pv) ∧ Below W'.heap.size W' w') :
    Calls Tryz.prog 94 #[.agg #[.int .i64 k, .int .i64 mo, .int .i64 d, .int .i64 v], .func (.func 95) #[] #[.pointer (some ⟨gf, 0, none⟩)]] W fun e w' => e = .returned (.bool (kindOk k mo d && pv)) ∧ Below W.heap.size W w' := by
  have hu74 := Tryz.underlying74
  have hu72 := Tryz.underlying72
  have HW := Aside0.mk (Below.refl W.heap.size W)
  subst hk
  have HV := Aside0.mk hv
  clear hv
  rcases cases5 mo d with ⟨a1, a2, a3, a4⟩ | ⟨a1, a2, a3, a4⟩ | ⟨a1, a3, a4⟩ | ⟨a1, ⟨a3, a4⟩, a5, a6⟩ | ⟨a1, ⟨a3, a4⟩, a5, a6⟩
  · have A1 := Aside0.mk a1
    have A2 := Aside0.mk a2
    have HKO := Aside0.mk (show kindOk 5 mo d = false by unfold kindOk; rw [if_neg (by decide), if_pos (by decide)]; simp only [a3]; rfl)
    clear a1 a2
    go_enter Tryz.func94, Tryz.ntmps94
    go_wp2_with (first
      | ((with_reducible refine zG 2 rfl ?_); refine zBox 2 #[.int .i64 5, .int .i64 mo, .int .i64 d, .int .i64 v] 74 ?_; intro g1 hg w1 hbox hb; have GEg1 := zge hg HW; replace HW := zW HW hb; have BKg1 := Aside0.mk hbox; clear hb hbox hg; have z1_g10 := zC BKg1)
      | (go_at_call 70; (with_reducible refine (in_l mo 1 12 true A1.out _).mono ?_); rintro e w2 ⟨rfl, hb⟩; replace HW := zW HW hb; replace BKg1 := zb BKg1 hb; clear hb; (try clear z1_g10); have z2_g10 := zC BKg1)
      | (go_at_call 70; (with_reducible refine (in_l d 1 31 true A2.out _).mono ?_); rintro e w3 ⟨rfl, hb⟩; replace HW := zW HW hb; replace BKg1 := zb BKg1 hb; clear hb; (try clear z2_g10); have z3_g10 := zC BKg1))
    go_ret
    exact ⟨by rw [HKO.out]; first | done | rfl, HW.out⟩
  · have A1 := Aside0.mk a1
    have A2 := Aside0.mk a2
    have HKO := Aside0.mk (show kindOk 5 mo d = false by unfold kindOk; rw [if_neg (by decide), if_pos (by decide)]; simp only [a3]; rfl)
    clear a1 a2
    go_enter Tryz.func94, Tryz.ntmps94
    go_wp2_with (first
      | ((with_reducible refine zG 2 rfl ?_); refine zBox 2 #[.int .i64 5, .int .i64 mo, .int .i64 d, .int .i64 v] 74 ?_; intro g1 hg w1 hbox hb; have GEg1 := zge hg HW; replace HW := zW HW hb; have BKg1 := Aside0.mk hbox; clear hb hbox hg; have z1_g10 := zC BKg1)
      | (go_at_call 70; (with_reducible refine (in_l mo 1 12 true A1.out _).mono ?_); rintro e w2 ⟨rfl, hb⟩; replace HW := zW HW hb; replace BKg1 := zb BKg1 hb; clear hb; (try clear z1_g10); have z2_g10 := zC BKg1)
      | (go_at_call 70; (with_reducible refine (in_l d 1 31 false A2.out _).mono ?_); rintro e w3 ⟨rfl, hb⟩; replace HW := zW HW hb; replace BKg1 := zb BKg1 hb; clear hb; (try clear z2_g10); have z3_g10 := zC BKg1))
    go_ret
    exact ⟨by rw [HKO.out]; first | done | rfl, HW.out⟩
  · have A1 := Aside0.mk a1
    have HKO := Aside0.mk (show kindOk 5 mo d = false by unfold kindOk; rw [if_neg (by decide), if_pos (by decide)]; simp only [a3]; rfl)
    clear a1
    go_enter Tryz.func94, Tryz.ntmps94
    go_wp2_with (first
      | ((with_reducible refine zG 2 rfl ?_); refine zBox 2 #[.int .i64 5, .int .i64 mo, .int .i64 d, .int .i64 v] 74 ?_; intro g1 hg w1 hbox hb; have GEg1 := zge hg HW; replace HW := zW HW hb; have BKg1 := Aside0.mk hbox; clear hb hbox hg; have z1_g10 := zC BKg1)
      | (go_at_call 70; (with_reducible refine (in_l mo 1 12 false A1.out _).mono ?_); rintro e w2 ⟨rfl, hb⟩; replace HW := zW HW hb; replace BKg1 := zb BKg1 hb; clear hb; (try clear z1_g10); have z2_g10 := zC BKg1))
    go_ret
    exact ⟨by rw [HKO.out]; first | done | rfl, HW.out⟩
  · have A1 := Aside0.mk a1
    have HKO := Aside0.mk (show kindOk 5 mo d = true by unfold kindOk; rw [if_neg (by decide), if_pos (by decide)]; simp only [a3, a5]; rfl)
    clear a1
    go_enter Tryz.func94, Tryz.ntmps94
    go_wp2_with (first
      | ((with_reducible refine zG 2 rfl ?_); refine zBox 2 #[.int .i64 5, .int .i64 mo, .int .i64 d, .int .i64 v] 74 ?_; intro g1 hg w1 hbox hb; have GEg1 := zge hg HW; replace HW := zW HW hb; have BKg1 := Aside0.mk hbox; clear hb hbox hg; have z1_g10 := zC BKg1)
      | (go_at_call 70; (with_reducible refine (in_l mo 1 12 false A1.out _).mono ?_); rintro e w2 ⟨rfl, hb⟩; replace HW := zW HW hb; replace BKg1 := zb BKg1 hb; clear hb; (try clear z1_g10); have z2_g10 := zC BKg1)
      | (go_at_call 95; (with_reducible refine (HV.out _ HW.out).mono ?_); rintro e w4 ⟨rfl, hb⟩; replace HW := zW HW hb; replace BKg1 := zb BKg1 hb; clear hb))
    go_ret
    exact ⟨by rw [HKO.out]; first | done | rfl, HW.out⟩
  · have A1 := Aside0.mk a1
    have HKO := Aside0.mk (show kindOk 5 mo d = false by unfold kindOk; rw [if_neg (by decide), if_pos (by decide)]; simp only [a3, a5]; rfl)
    clear a1
    go_enter Tryz.func94, Tryz.ntmps94
    go_wp2_with (first
      | ((with_reducible refine zG 2 rfl ?_); refine zBox 2 #[.int .i64 5, .int .i64 mo, .int .i64 d, .int .i64 v] 74 ?_; intro g1 hg w1 hbox hb; have GEg1 := zge hg HW; replace HW := zW HW hb; have BKg1 := Aside0.mk hbox; clear hb hbox hg; have z1_g10 := zC BKg1)
      | (go_at_call 70; (with_reducible refine (in_l mo 1 12 false A1.out _).mono ?_); rintro e w2 ⟨rfl, hb⟩; replace HW := zW HW hb; replace BKg1 := zb BKg1 hb; clear hb; (try clear z1_g10); have z2_g10 := zC BKg1))
    go_ret
    exact ⟨by rw [HKO.out]; first | done | rfl, HW.out⟩
theorem isFact_f (k mo d v : Int) (pv : Bool) (gf : Nat) (W : World) (hv : ∀ W', Below W.heap.size W W' → Calls Tryz.prog 95 #[.int .i64 (loOf k), .int .i64 (hiOf k), .pointer (some ⟨gf, 0, none⟩)] W' fun e w' => e = .returned (.bool pv) ∧ Below W'.heap.size W' w') :
    Calls Tryz.prog 94 #[.agg #[.int .i64 k, .int .i64 mo, .int .i64 d, .int .i64 v], .func (.func 95) #[] #[.pointer (some ⟨gf, 0, none⟩)]] W fun e w' => e = .returned (.bool (kindOk k mo d && pv)) ∧ Below W.heap.size W w' := by
  by_cases k1 : k = 1
  · exact isFact_f1 k mo d v pv gf W k1 (by rw [k1] at hv; exact hv)
  by_cases k2 : k = 2
  · exact isFact_f2 k mo d v pv gf W k2 (by rw [k2] at hv; exact hv)
  by_cases k3 : k = 3
  · exact isFact_f3 k mo d v pv gf W k3 (by rw [k3] at hv; exact hv)
  by_cases k4 : k = 4
  · exact isFact_f4 k mo d v pv gf W k4 (by rw [k4] at hv; exact hv)
  by_cases k5 : k = 5
  · exact isFact_f5 k mo d v pv gf W k5 (by rw [k5] at hv; exact hv)
  exact isFact_f0 k mo d v pv gf W ⟨by omega, by omega⟩
set_option maxHeartbeats 8000000 in
set_option maxRecDepth 100000 in
theorem isFact_q0 (k mo d v : Int) (pv : Bool) (gf : Nat) (W : World) (hk : ¬ (k = 1 ∨ k = 2 ∨ k = 3) ∧ ¬ (k = 4 ∨ k = 5)) :
    Calls Tryz.prog 94 #[.agg #[.int .i64 k, .int .i64 mo, .int .i64 d, .int .i64 v], .func (.func 99) #[] #[.pointer (some ⟨gf, 0, none⟩)]] W fun e w' => e = .returned (.bool (kindOk k mo d && pv)) ∧ Below W.heap.size W w' := by
  have hu74 := Tryz.underlying74
  have hu72 := Tryz.underlying72
  have HW := Aside0.mk (Below.refl W.heap.size W)
  have k1 : (k == 1) = false := by simp; omega
  have k2 : (k == 2) = false := by simp; omega
  have k3 : (k == 3) = false := by simp; omega
  have k4 : (k == 4) = false := by simp; omega
  have k5 : (k == 5) = false := by simp; omega
  have k1' : decide (k = 1) = false := by simp; omega
  have k2' : decide (k = 2) = false := by simp; omega
  have k3' : decide (k = 3) = false := by simp; omega
  have k4' : decide (k = 4) = false := by simp; omega
  have k5' : decide (k = 5) = false := by simp; omega
  have HKO := Aside0.mk (show kindOk k mo d = false by unfold kindOk; rw [if_neg hk.1, if_neg hk.2])
  clear hk
  rcases cases5 mo d with ⟨a1, a2, a3, a4⟩ | ⟨a1, a2, a3, a4⟩ | ⟨a1, a3, a4⟩ | ⟨a1, ⟨a3, a4⟩, a5, a6⟩ | ⟨a1, ⟨a3, a4⟩, a5, a6⟩
  · have A1 := Aside0.mk a1
    have A2 := Aside0.mk a2
    clear a1 a2
    go_enter Tryz.func94, Tryz.ntmps94
    go_wp2_with (first
      | ((with_reducible refine zG 2 rfl ?_); refine zBox 2 #[.int .i64 k, .int .i64 mo, .int .i64 d, .int .i64 v] 74 ?_; intro g1 hg w1 hbox hb; have GEg1 := zge hg HW; replace HW := zW HW hb; have BKg1 := Aside0.mk hbox; clear hb hbox hg; have z1_g10 := zC BKg1)
      | (go_at_call 70; (with_reducible refine (in_l mo 1 12 true A1.out _).mono ?_); rintro e w2 ⟨rfl, hb⟩; replace HW := zW HW hb; replace BKg1 := zb BKg1 hb; clear hb; (try clear z1_g10); have z2_g10 := zC BKg1)
      | (go_at_call 70; (with_reducible refine (in_l d 1 31 true A2.out _).mono ?_); rintro e w3 ⟨rfl, hb⟩; replace HW := zW HW hb; replace BKg1 := zb BKg1 hb; clear hb; (try clear z2_g10); have z3_g10 := zC BKg1))
    go_ret
    exact ⟨by rw [HKO.out]; first | done | rfl, HW.out⟩
  · have A1 := Aside0.mk a1
    have A2 := Aside0.mk a2
    clear a1 a2
    go_enter Tryz.func94, Tryz.ntmps94
    go_wp2_with (first
      | ((with_reducible refine zG 2 rfl ?_); refine zBox 2 #[.int .i64 k, .int .i64 mo, .int .i64 d, .int .i64 v] 74 ?_; intro g1 hg w1 hbox hb; have GEg1 := zge hg HW; replace HW := zW HW hb; have BKg1 := Aside0.mk hbox; clear hb hbox hg; have z1_g10 := zC BKg1)
      | (go_at_call 70; (with_reducible refine (in_l mo 1 12 true A1.out _).mono ?_); rintro e w2 ⟨rfl, hb⟩; replace HW := zW HW hb; replace BKg1 := zb BKg1 hb; clear hb; (try clear z1_g10); have z2_g10 := zC BKg1)
      | (go_at_call 70; (with_reducible refine (in_l d 1 31 false A2.out _).mono ?_); rintro e w3 ⟨rfl, hb⟩; replace HW := zW HW hb; replace BKg1 := zb BKg1 hb; clear hb; (try clear z2_g10); have z3_g10 := zC BKg1))
    go_ret
    exact ⟨by rw [HKO.out]; first | done | rfl, HW.out⟩
  · have A1 := Aside0.mk a1
    clear a1
    go_enter Tryz.func94, Tryz.ntmps94
    go_wp2_with (first
      | ((with_reducible refine zG 2 rfl ?_); refine zBox 2 #[.int .i64 k, .int .i64 mo, .int .i64 d, .int .i64 v] 74 ?_; intro g1 hg w1 hbox hb; have GEg1 := zge hg HW; replace HW := zW HW hb; have BKg1 := Aside0.mk hbox; clear hb hbox hg; have z1_g10 := zC BKg1)
      | (go_at_call 70; (with_reducible refine (in_l mo 1 12 false A1.out _).mono ?_); rintro e w2 ⟨rfl, hb⟩; replace HW := zW HW hb; replace BKg1 := zb BKg1 hb; clear hb; (try clear z1_g10); have z2_g10 := zC BKg1))
    go_ret
    exact ⟨by rw [HKO.out]; first | done | rfl, HW.out⟩
  · have A1 := Aside0.mk a1
    clear a1
    go_enter Tryz.func94, Tryz.ntmps94
    go_wp2_with (first
      | ((with_reducible refine zG 2 rfl ?_); refine zBox 2 #[.int .i64 k, .int .i64 mo, .int .i64 d, .int .i64 v] 74 ?_; intro g1 hg w1 hbox hb; have GEg1 := zge hg HW; replace HW := zW HW hb; have BKg1 := Aside0.mk hbox; clear hb hbox hg; have z1_g10 := zC BKg1)
      | (go_at_call 70; (with_reducible refine (in_l mo 1 12 false A1.out _).mono ?_); rintro e w2 ⟨rfl, hb⟩; replace HW := zW HW hb; replace BKg1 := zb BKg1 hb; clear hb; (try clear z1_g10); have z2_g10 := zC BKg1))
    go_ret
    exact ⟨by rw [HKO.out]; first | done | rfl, HW.out⟩
  · have A1 := Aside0.mk a1
    clear a1
    go_enter Tryz.func94, Tryz.ntmps94
    go_wp2_with (first
      | ((with_reducible refine zG 2 rfl ?_); refine zBox 2 #[.int .i64 k, .int .i64 mo, .int .i64 d, .int .i64 v] 74 ?_; intro g1 hg w1 hbox hb; have GEg1 := zge hg HW; replace HW := zW HW hb; have BKg1 := Aside0.mk hbox; clear hb hbox hg; have z1_g10 := zC BKg1)
      | (go_at_call 70; (with_reducible refine (in_l mo 1 12 false A1.out _).mono ?_); rintro e w2 ⟨rfl, hb⟩; replace HW := zW HW hb; replace BKg1 := zb BKg1 hb; clear hb; (try clear z1_g10); have z2_g10 := zC BKg1))
    go_ret
    exact ⟨by rw [HKO.out]; first | done | rfl, HW.out⟩
set_option maxHeartbeats 8000000 in
set_option maxRecDepth 100000 in
theorem isFact_q1 (k mo d v : Int) (pv : Bool) (gf : Nat) (W : World) (hk : k = 1) (hv : ∀ W', Below W.heap.size W W' → Calls Tryz.prog 99 #[.int .i64 0, .int .i64 6, .pointer (some ⟨gf, 0, none⟩)] W' fun e w' => e = .returned (.bool pv) ∧ Below W'.heap.size W' w') :
    Calls Tryz.prog 94 #[.agg #[.int .i64 k, .int .i64 mo, .int .i64 d, .int .i64 v], .func (.func 99) #[] #[.pointer (some ⟨gf, 0, none⟩)]] W fun e w' => e = .returned (.bool (kindOk k mo d && pv)) ∧ Below W.heap.size W w' := by
  have hu74 := Tryz.underlying74
  have hu72 := Tryz.underlying72
  have HW := Aside0.mk (Below.refl W.heap.size W)
  subst hk
  have HV := Aside0.mk hv
  clear hv
  rcases cases5 mo d with ⟨a1, a2, a3, a4⟩ | ⟨a1, a2, a3, a4⟩ | ⟨a1, a3, a4⟩ | ⟨a1, ⟨a3, a4⟩, a5, a6⟩ | ⟨a1, ⟨a3, a4⟩, a5, a6⟩
  · have A1 := Aside0.mk a1
    have A2 := Aside0.mk a2
    have HKO := Aside0.mk (show kindOk 1 mo d = true by unfold kindOk; rw [if_pos (by decide)]; simp [a1, a2])
    clear a1 a2
    go_enter Tryz.func94, Tryz.ntmps94
    go_wp2_with (first
      | ((with_reducible refine zG 2 rfl ?_); refine zBox 2 #[.int .i64 1, .int .i64 mo, .int .i64 d, .int .i64 v] 74 ?_; intro g1 hg w1 hbox hb; have GEg1 := zge hg HW; replace HW := zW HW hb; have BKg1 := Aside0.mk hbox; clear hb hbox hg; have z1_g10 := zC BKg1)
      | (go_at_call 70; (with_reducible refine (in_l mo 1 12 true A1.out _).mono ?_); rintro e w2 ⟨rfl, hb⟩; replace HW := zW HW hb; replace BKg1 := zb BKg1 hb; clear hb; (try clear z1_g10); have z2_g10 := zC BKg1)
      | (go_at_call 70; (with_reducible refine (in_l d 1 31 true A2.out _).mono ?_); rintro e w3 ⟨rfl, hb⟩; replace HW := zW HW hb; replace BKg1 := zb BKg1 hb; clear hb; (try clear z2_g10); have z3_g10 := zC BKg1)
      | (go_at_call 99; (with_reducible refine (HV.out _ HW.out).mono ?_); rintro e w4 ⟨rfl, hb⟩; replace HW := zW HW hb; replace BKg1 := zb BKg1 hb; clear hb))
    go_ret
    exact ⟨by rw [HKO.out]; first | done | rfl, HW.out⟩
  · have A1 := Aside0.mk a1
    have A2 := Aside0.mk a2
    have HKO := Aside0.mk (show kindOk 1 mo d = false by unfold kindOk; rw [if_pos (by decide)]; simp [a1, a2])
    clear a1 a2
    go_enter Tryz.func94, Tryz.ntmps94
    go_wp2_with (first
      | ((with_reducible refine zG 2 rfl ?_); refine zBox 2 #[.int .i64 1, .int .i64 mo, .int .i64 d, .int .i64 v] 74 ?_; intro g1 hg w1 hbox hb; have GEg1 := zge hg HW; replace HW := zW HW hb; have BKg1 := Aside0.mk hbox; clear hb hbox hg; have z1_g10 := zC BKg1)
      | (go_at_call 70; (with_reducible refine (in_l mo 1 12 true A1.out _).mono ?_); rintro e w2 ⟨rfl, hb⟩; replace HW := zW HW hb; replace BKg1 := zb BKg1 hb; clear hb; (try clear z1_g10); have z2_g10 := zC BKg1)
      | (go_at_call 70; (with_reducible refine (in_l d 1 31 false A2.out _).mono ?_); rintro e w3 ⟨rfl, hb⟩; replace HW := zW HW hb; replace BKg1 := zb BKg1 hb; clear hb; (try clear z2_g10); have z3_g10 := zC BKg1))
    go_ret
    exact ⟨by rw [HKO.out]; first | done | rfl, HW.out⟩
  · have A1 := Aside0.mk a1
    have HKO := Aside0.mk (show kindOk 1 mo d = false by unfold kindOk; rw [if_pos (by decide)]; simp [a1])
    clear a1
    go_enter Tryz.func94, Tryz.ntmps94
    go_wp2_with (first
      | ((with_reducible refine zG 2 rfl ?_); refine zBox 2 #[.int .i64 1, .int .i64 mo, .int .i64 d, .int .i64 v] 74 ?_; intro g1 hg w1 hbox hb; have GEg1 := zge hg HW; replace HW := zW HW hb; have BKg1 := Aside0.mk hbox; clear hb hbox hg; have z1_g10 := zC BKg1)
      | (go_at_call 70; (with_reducible refine (in_l mo 1 12 false A1.out _).mono ?_); rintro e w2 ⟨rfl, hb⟩; replace HW := zW HW hb; replace BKg1 := zb BKg1 hb; clear hb; (try clear z1_g10); have z2_g10 := zC BKg1))
    go_ret
    exact ⟨by rw [HKO.out]; first | done | rfl, HW.out⟩
  · have A1 := Aside0.mk a1
    have HKO := Aside0.mk (show kindOk 1 mo d = false by unfold kindOk; rw [if_pos (by decide)]; simp [a1])
    clear a1
    go_enter Tryz.func94, Tryz.ntmps94
    go_wp2_with (first
      | ((with_reducible refine zG 2 rfl ?_); refine zBox 2 #[.int .i64 1, .int .i64 mo, .int .i64 d, .int .i64 v] 74 ?_; intro g1 hg w1 hbox hb; have GEg1 := zge hg HW; replace HW := zW HW hb; have BKg1 := Aside0.mk hbox; clear hb hbox hg; have z1_g10 := zC BKg1)
      | (go_at_call 70; (with_reducible refine (in_l mo 1 12 false A1.out _).mono ?_); rintro e w2 ⟨rfl, hb⟩; replace HW := zW HW hb; replace BKg1 := zb BKg1 hb; clear hb; (try clear z1_g10); have z2_g10 := zC BKg1))
    go_ret
    exact ⟨by rw [HKO.out]; first | done | rfl, HW.out⟩
  · have A1 := Aside0.mk a1
    have HKO := Aside0.mk (show kindOk 1 mo d = false by unfold kindOk; rw [if_pos (by decide)]; simp [a1])
    clear a1
    go_enter Tryz.func94, Tryz.ntmps94
    go_wp2_with (first
      | ((with_reducible refine zG 2 rfl ?_); refine zBox 2 #[.int .i64 1, .int .i64 mo, .int .i64 d, .int .i64 v] 74 ?_; intro g1 hg w1 hbox hb; have GEg1 := zge hg HW; replace HW := zW HW hb; have BKg1 := Aside0.mk hbox; clear hb hbox hg; have z1_g10 := zC BKg1)
      | (go_at_call 70; (with_reducible refine (in_l mo 1 12 false A1.out _).mono ?_); rintro e w2 ⟨rfl, hb⟩; replace HW := zW HW hb; replace BKg1 := zb BKg1 hb; clear hb; (try clear z1_g10); have z2_g10 := zC BKg1))
    go_ret
    exact ⟨by rw [HKO.out]; first | done | rfl, HW.out⟩
set_option maxHeartbeats 8000000 in
set_option maxRecDepth 100000 in
theorem isFact_q2 (k mo d v : Int) (pv : Bool) (gf : Nat) (W : World) (hk : k = 2) (hv : ∀ W', Below W.heap.size W W' → Calls Tryz.prog 99 #[.int .i64 0, .int .i64 29, .pointer (some ⟨gf, 0, none⟩)] W' fun e w' => e = .returned (.bool pv) ∧ Below W'.heap.size W' w') :
    Calls Tryz.prog 94 #[.agg #[.int .i64 k, .int .i64 mo, .int .i64 d, .int .i64 v], .func (.func 99) #[] #[.pointer (some ⟨gf, 0, none⟩)]] W fun e w' => e = .returned (.bool (kindOk k mo d && pv)) ∧ Below W.heap.size W w' := by
  have hu74 := Tryz.underlying74
  have hu72 := Tryz.underlying72
  have HW := Aside0.mk (Below.refl W.heap.size W)
  subst hk
  have HV := Aside0.mk hv
  clear hv
  rcases cases5 mo d with ⟨a1, a2, a3, a4⟩ | ⟨a1, a2, a3, a4⟩ | ⟨a1, a3, a4⟩ | ⟨a1, ⟨a3, a4⟩, a5, a6⟩ | ⟨a1, ⟨a3, a4⟩, a5, a6⟩
  · have A1 := Aside0.mk a1
    have A2 := Aside0.mk a2
    have HKO := Aside0.mk (show kindOk 2 mo d = true by unfold kindOk; rw [if_pos (by decide)]; simp [a1, a2])
    clear a1 a2
    go_enter Tryz.func94, Tryz.ntmps94
    go_wp2_with (first
      | ((with_reducible refine zG 2 rfl ?_); refine zBox 2 #[.int .i64 2, .int .i64 mo, .int .i64 d, .int .i64 v] 74 ?_; intro g1 hg w1 hbox hb; have GEg1 := zge hg HW; replace HW := zW HW hb; have BKg1 := Aside0.mk hbox; clear hb hbox hg; have z1_g10 := zC BKg1)
      | (go_at_call 70; (with_reducible refine (in_l mo 1 12 true A1.out _).mono ?_); rintro e w2 ⟨rfl, hb⟩; replace HW := zW HW hb; replace BKg1 := zb BKg1 hb; clear hb; (try clear z1_g10); have z2_g10 := zC BKg1)
      | (go_at_call 70; (with_reducible refine (in_l d 1 31 true A2.out _).mono ?_); rintro e w3 ⟨rfl, hb⟩; replace HW := zW HW hb; replace BKg1 := zb BKg1 hb; clear hb; (try clear z2_g10); have z3_g10 := zC BKg1)
      | (go_at_call 99; (with_reducible refine (HV.out _ HW.out).mono ?_); rintro e w4 ⟨rfl, hb⟩; replace HW := zW HW hb; replace BKg1 := zb BKg1 hb; clear hb))
    go_ret
    exact ⟨by rw [HKO.out]; first | done | rfl, HW.out⟩
  · have A1 := Aside0.mk a1
    have A2 := Aside0.mk a2
    have HKO := Aside0.mk (show kindOk 2 mo d = false by unfold kindOk; rw [if_pos (by decide)]; simp [a1, a2])
    clear a1 a2
    go_enter Tryz.func94, Tryz.ntmps94
    go_wp2_with (first
      | ((with_reducible refine zG 2 rfl ?_); refine zBox 2 #[.int .i64 2, .int .i64 mo, .int .i64 d, .int .i64 v] 74 ?_; intro g1 hg w1 hbox hb; have GEg1 := zge hg HW; replace HW := zW HW hb; have BKg1 := Aside0.mk hbox; clear hb hbox hg; have z1_g10 := zC BKg1)
      | (go_at_call 70; (with_reducible refine (in_l mo 1 12 true A1.out _).mono ?_); rintro e w2 ⟨rfl, hb⟩; replace HW := zW HW hb; replace BKg1 := zb BKg1 hb; clear hb; (try clear z1_g10); have z2_g10 := zC BKg1)
      | (go_at_call 70; (with_reducible refine (in_l d 1 31 false A2.out _).mono ?_); rintro e w3 ⟨rfl, hb⟩; replace HW := zW HW hb; replace BKg1 := zb BKg1 hb; clear hb; (try clear z2_g10); have z3_g10 := zC BKg1))
    go_ret
    exact ⟨by rw [HKO.out]; first | done | rfl, HW.out⟩
  · have A1 := Aside0.mk a1
    have HKO := Aside0.mk (show kindOk 2 mo d = false by unfold kindOk; rw [if_pos (by decide)]; simp [a1])
    clear a1
    go_enter Tryz.func94, Tryz.ntmps94
    go_wp2_with (first
      | ((with_reducible refine zG 2 rfl ?_); refine zBox 2 #[.int .i64 2, .int .i64 mo, .int .i64 d, .int .i64 v] 74 ?_; intro g1 hg w1 hbox hb; have GEg1 := zge hg HW; replace HW := zW HW hb; have BKg1 := Aside0.mk hbox; clear hb hbox hg; have z1_g10 := zC BKg1)
      | (go_at_call 70; (with_reducible refine (in_l mo 1 12 false A1.out _).mono ?_); rintro e w2 ⟨rfl, hb⟩; replace HW := zW HW hb; replace BKg1 := zb BKg1 hb; clear hb; (try clear z1_g10); have z2_g10 := zC BKg1))
    go_ret
    exact ⟨by rw [HKO.out]; first | done | rfl, HW.out⟩
  · have A1 := Aside0.mk a1
    have HKO := Aside0.mk (show kindOk 2 mo d = false by unfold kindOk; rw [if_pos (by decide)]; simp [a1])
    clear a1
    go_enter Tryz.func94, Tryz.ntmps94
    go_wp2_with (first
      | ((with_reducible refine zG 2 rfl ?_); refine zBox 2 #[.int .i64 2, .int .i64 mo, .int .i64 d, .int .i64 v] 74 ?_; intro g1 hg w1 hbox hb; have GEg1 := zge hg HW; replace HW := zW HW hb; have BKg1 := Aside0.mk hbox; clear hb hbox hg; have z1_g10 := zC BKg1)
      | (go_at_call 70; (with_reducible refine (in_l mo 1 12 false A1.out _).mono ?_); rintro e w2 ⟨rfl, hb⟩; replace HW := zW HW hb; replace BKg1 := zb BKg1 hb; clear hb; (try clear z1_g10); have z2_g10 := zC BKg1))
    go_ret
    exact ⟨by rw [HKO.out]; first | done | rfl, HW.out⟩
  · have A1 := Aside0.mk a1
    have HKO := Aside0.mk (show kindOk 2 mo d = false by unfold kindOk; rw [if_pos (by decide)]; simp [a1])
    clear a1
    go_enter Tryz.func94, Tryz.ntmps94
    go_wp2_with (first
      | ((with_reducible refine zG 2 rfl ?_); refine zBox 2 #[.int .i64 2, .int .i64 mo, .int .i64 d, .int .i64 v] 74 ?_; intro g1 hg w1 hbox hb; have GEg1 := zge hg HW; replace HW := zW HW hb; have BKg1 := Aside0.mk hbox; clear hb hbox hg; have z1_g10 := zC BKg1)
      | (go_at_call 70; (with_reducible refine (in_l mo 1 12 false A1.out _).mono ?_); rintro e w2 ⟨rfl, hb⟩; replace HW := zW HW hb; replace BKg1 := zb BKg1 hb; clear hb; (try clear z1_g10); have z2_g10 := zC BKg1))
    go_ret
    exact ⟨by rw [HKO.out]; first | done | rfl, HW.out⟩
set_option maxHeartbeats 8000000 in
set_option maxRecDepth 100000 in
theorem isFact_q3 (k mo d v : Int) (pv : Bool) (gf : Nat) (W : World) (hk : k = 3) (hv : ∀ W', Below W.heap.size W W' → Calls Tryz.prog 99 #[.int .i64 0, .int .i64 0, .pointer (some ⟨gf, 0, none⟩)] W' fun e w' => e = .returned (.bool pv) ∧ Below W'.heap.size W' w') :
    Calls Tryz.prog 94 #[.agg #[.int .i64 k, .int .i64 mo, .int .i64 d, .int .i64 v], .func (.func 99) #[] #[.pointer (some ⟨gf, 0, none⟩)]] W fun e w' => e = .returned (.bool (kindOk k mo d && pv)) ∧ Below W.heap.size W w' := by
  have hu74 := Tryz.underlying74
  have hu72 := Tryz.underlying72
  have HW := Aside0.mk (Below.refl W.heap.size W)
  subst hk
  have HV := Aside0.mk hv
  clear hv
  rcases cases5 mo d with ⟨a1, a2, a3, a4⟩ | ⟨a1, a2, a3, a4⟩ | ⟨a1, a3, a4⟩ | ⟨a1, ⟨a3, a4⟩, a5, a6⟩ | ⟨a1, ⟨a3, a4⟩, a5, a6⟩
  · have A1 := Aside0.mk a1
    have A2 := Aside0.mk a2
    have HKO := Aside0.mk (show kindOk 3 mo d = true by unfold kindOk; rw [if_pos (by decide)]; simp [a1, a2])
    clear a1 a2
    go_enter Tryz.func94, Tryz.ntmps94
    go_wp2_with (first
      | ((with_reducible refine zG 2 rfl ?_); refine zBox 2 #[.int .i64 3, .int .i64 mo, .int .i64 d, .int .i64 v] 74 ?_; intro g1 hg w1 hbox hb; have GEg1 := zge hg HW; replace HW := zW HW hb; have BKg1 := Aside0.mk hbox; clear hb hbox hg; have z1_g10 := zC BKg1)
      | (go_at_call 70; (with_reducible refine (in_l mo 1 12 true A1.out _).mono ?_); rintro e w2 ⟨rfl, hb⟩; replace HW := zW HW hb; replace BKg1 := zb BKg1 hb; clear hb; (try clear z1_g10); have z2_g10 := zC BKg1)
      | (go_at_call 70; (with_reducible refine (in_l d 1 31 true A2.out _).mono ?_); rintro e w3 ⟨rfl, hb⟩; replace HW := zW HW hb; replace BKg1 := zb BKg1 hb; clear hb; (try clear z2_g10); have z3_g10 := zC BKg1)
      | (go_at_call 99; (with_reducible refine (HV.out _ HW.out).mono ?_); rintro e w4 ⟨rfl, hb⟩; replace HW := zW HW hb; replace BKg1 := zb BKg1 hb; clear hb))
    go_ret
    exact ⟨by rw [HKO.out]; first | done | rfl, HW.out⟩
  · have A1 := Aside0.mk a1
    have A2 := Aside0.mk a2
    have HKO := Aside0.mk (show kindOk 3 mo d = false by unfold kindOk; rw [if_pos (by decide)]; simp [a1, a2])
    clear a1 a2
    go_enter Tryz.func94, Tryz.ntmps94
    go_wp2_with (first
      | ((with_reducible refine zG 2 rfl ?_); refine zBox 2 #[.int .i64 3, .int .i64 mo, .int .i64 d, .int .i64 v] 74 ?_; intro g1 hg w1 hbox hb; have GEg1 := zge hg HW; replace HW := zW HW hb; have BKg1 := Aside0.mk hbox; clear hb hbox hg; have z1_g10 := zC BKg1)
      | (go_at_call 70; (with_reducible refine (in_l mo 1 12 true A1.out _).mono ?_); rintro e w2 ⟨rfl, hb⟩; replace HW := zW HW hb; replace BKg1 := zb BKg1 hb; clear hb; (try clear z1_g10); have z2_g10 := zC BKg1)
      | (go_at_call 70; (with_reducible refine (in_l d 1 31 false A2.out _).mono ?_); rintro e w3 ⟨rfl, hb⟩; replace HW := zW HW hb; replace BKg1 := zb BKg1 hb; clear hb; (try clear z2_g10); have z3_g10 := zC BKg1))
    go_ret
    exact ⟨by rw [HKO.out]; first | done | rfl, HW.out⟩
  · have A1 := Aside0.mk a1
    have HKO := Aside0.mk (show kindOk 3 mo d = false by unfold kindOk; rw [if_pos (by decide)]; simp [a1])
    clear a1
    go_enter Tryz.func94, Tryz.ntmps94
    go_wp2_with (first
      | ((with_reducible refine zG 2 rfl ?_); refine zBox 2 #[.int .i64 3, .int .i64 mo, .int .i64 d, .int .i64 v] 74 ?_; intro g1 hg w1 hbox hb; have GEg1 := zge hg HW; replace HW := zW HW hb; have BKg1 := Aside0.mk hbox; clear hb hbox hg; have z1_g10 := zC BKg1)
      | (go_at_call 70; (with_reducible refine (in_l mo 1 12 false A1.out _).mono ?_); rintro e w2 ⟨rfl, hb⟩; replace HW := zW HW hb; replace BKg1 := zb BKg1 hb; clear hb; (try clear z1_g10); have z2_g10 := zC BKg1))
    go_ret
    exact ⟨by rw [HKO.out]; first | done | rfl, HW.out⟩
  · have A1 := Aside0.mk a1
    have HKO := Aside0.mk (show kindOk 3 mo d = false by unfold kindOk; rw [if_pos (by decide)]; simp [a1])
    clear a1
    go_enter Tryz.func94, Tryz.ntmps94
    go_wp2_with (first
      | ((with_reducible refine zG 2 rfl ?_); refine zBox 2 #[.int .i64 3, .int .i64 mo, .int .i64 d, .int .i64 v] 74 ?_; intro g1 hg w1 hbox hb; have GEg1 := zge hg HW; replace HW := zW HW hb; have BKg1 := Aside0.mk hbox; clear hb hbox hg; have z1_g10 := zC BKg1)
      | (go_at_call 70; (with_reducible refine (in_l mo 1 12 false A1.out _).mono ?_); rintro e w2 ⟨rfl, hb⟩; replace HW := zW HW hb; replace BKg1 := zb BKg1 hb; clear hb; (try clear z1_g10); have z2_g10 := zC BKg1))
    go_ret
    exact ⟨by rw [HKO.out]; first | done | rfl, HW.out⟩
  · have A1 := Aside0.mk a1
    have HKO := Aside0.mk (show kindOk 3 mo d = false by unfold kindOk; rw [if_pos (by decide)]; simp [a1])
    clear a1
    go_enter Tryz.func94, Tryz.ntmps94
    go_wp2_with (first
      | ((with_reducible refine zG 2 rfl ?_); refine zBox 2 #[.int .i64 3, .int .i64 mo, .int .i64 d, .int .i64 v] 74 ?_; intro g1 hg w1 hbox hb; have GEg1 := zge hg HW; replace HW := zW HW hb; have BKg1 := Aside0.mk hbox; clear hb hbox hg; have z1_g10 := zC BKg1)
      | (go_at_call 70; (with_reducible refine (in_l mo 1 12 false A1.out _).mono ?_); rintro e w2 ⟨rfl, hb⟩; replace HW := zW HW hb; replace BKg1 := zb BKg1 hb; clear hb; (try clear z1_g10); have z2_g10 := zC BKg1))
    go_ret
    exact ⟨by rw [HKO.out]; first | done | rfl, HW.out⟩
set_option maxHeartbeats 8000000 in
set_option maxRecDepth 100000 in
theorem isFact_q4 (k mo d v : Int) (pv : Bool) (gf : Nat) (W : World) (hk : k = 4) (hv : ∀ W', Below W.heap.size W W' → Calls Tryz.prog 99 #[.int .i64 1, .int .i64 19, .pointer (some ⟨gf, 0, none⟩)] W' fun e w' => e = .returned (.bool pv) ∧ Below W'.heap.size W' w') :
    Calls Tryz.prog 94 #[.agg #[.int .i64 k, .int .i64 mo, .int .i64 d, .int .i64 v], .func (.func 99) #[] #[.pointer (some ⟨gf, 0, none⟩)]] W fun e w' => e = .returned (.bool (kindOk k mo d && pv)) ∧ Below W.heap.size W w' := by
  have hu74 := Tryz.underlying74
  have hu72 := Tryz.underlying72
  have HW := Aside0.mk (Below.refl W.heap.size W)
  subst hk
  have HV := Aside0.mk hv
  clear hv
  rcases cases5 mo d with ⟨a1, a2, a3, a4⟩ | ⟨a1, a2, a3, a4⟩ | ⟨a1, a3, a4⟩ | ⟨a1, ⟨a3, a4⟩, a5, a6⟩ | ⟨a1, ⟨a3, a4⟩, a5, a6⟩
  · have A1 := Aside0.mk a1
    have A2 := Aside0.mk a2
    have HKO := Aside0.mk (show kindOk 4 mo d = false by unfold kindOk; rw [if_neg (by decide), if_pos (by decide)]; simp only [a3]; rfl)
    clear a1 a2
    go_enter Tryz.func94, Tryz.ntmps94
    go_wp2_with (first
      | ((with_reducible refine zG 2 rfl ?_); refine zBox 2 #[.int .i64 4, .int .i64 mo, .int .i64 d, .int .i64 v] 74 ?_; intro g1 hg w1 hbox hb; have GEg1 := zge hg HW; replace HW := zW HW hb; have BKg1 := Aside0.mk hbox; clear hb hbox hg; have z1_g10 := zC BKg1)
      | (go_at_call 70; (with_reducible refine (in_l mo 1 12 true A1.out _).mono ?_); rintro e w2 ⟨rfl, hb⟩; replace HW := zW HW hb; replace BKg1 := zb BKg1 hb; clear hb; (try clear z1_g10); have z2_g10 := zC BKg1)
      | (go_at_call 70; (with_reducible refine (in_l d 1 31 true A2.out _).mono ?_); rintro e w3 ⟨rfl, hb⟩; replace HW := zW HW hb; replace BKg1 := zb BKg1 hb; clear hb; (try clear z2_g10); have z3_g10 := zC BKg1))
    go_ret
    exact ⟨by rw [HKO.out]; first | done | rfl, HW.out⟩
  · have A1 := Aside0.mk a1
    have A2 := Aside0.mk a2
    have HKO := Aside0.mk (show kindOk 4 mo d = false by unfold kindOk; rw [if_neg (by decide), if_pos (by decide)]; simp only [a3]; rfl)
    clear a1 a2
    go_enter Tryz.func94, Tryz.ntmps94
    go_wp2_with (first
      | ((with_reducible refine zG 2 rfl ?_); refine zBox 2 #[.int .i64 4, .int .i64 mo, .int .i64 d, .int .i64 v] 74 ?_; intro g1 hg w1 hbox hb; have GEg1 := zge hg HW; replace HW := zW HW hb; have BKg1 := Aside0.mk hbox; clear hb hbox hg; have z1_g10 := zC BKg1)
      | (go_at_call 70; (with_reducible refine (in_l mo 1 12 true A1.out _).mono ?_); rintro e w2 ⟨rfl, hb⟩; replace HW := zW HW hb; replace BKg1 := zb BKg1 hb; clear hb; (try clear z1_g10); have z2_g10 := zC BKg1)
      | (go_at_call 70; (with_reducible refine (in_l d 1 31 false A2.out _).mono ?_); rintro e w3 ⟨rfl, hb⟩; replace HW := zW HW hb; replace BKg1 := zb BKg1 hb; clear hb; (try clear z2_g10); have z3_g10 := zC BKg1))
    go_ret
    exact ⟨by rw [HKO.out]; first | done | rfl, HW.out⟩
  · have A1 := Aside0.mk a1
    have HKO := Aside0.mk (show kindOk 4 mo d = false by unfold kindOk; rw [if_neg (by decide), if_pos (by decide)]; simp only [a3]; rfl)
    clear a1
    go_enter Tryz.func94, Tryz.ntmps94
    go_wp2_with (first
      | ((with_reducible refine zG 2 rfl ?_); refine zBox 2 #[.int .i64 4, .int .i64 mo, .int .i64 d, .int .i64 v] 74 ?_; intro g1 hg w1 hbox hb; have GEg1 := zge hg HW; replace HW := zW HW hb; have BKg1 := Aside0.mk hbox; clear hb hbox hg; have z1_g10 := zC BKg1)
      | (go_at_call 70; (with_reducible refine (in_l mo 1 12 false A1.out _).mono ?_); rintro e w2 ⟨rfl, hb⟩; replace HW := zW HW hb; replace BKg1 := zb BKg1 hb; clear hb; (try clear z1_g10); have z2_g10 := zC BKg1))
    go_ret
    exact ⟨by rw [HKO.out]; first | done | rfl, HW.out⟩
  · have A1 := Aside0.mk a1
    have HKO := Aside0.mk (show kindOk 4 mo d = true by unfold kindOk; rw [if_neg (by decide), if_pos (by decide)]; simp only [a3, a5]; rfl)
    clear a1
    go_enter Tryz.func94, Tryz.ntmps94
    go_wp2_with (first
      | ((with_reducible refine zG 2 rfl ?_); refine zBox 2 #[.int .i64 4, .int .i64 mo, .int .i64 d, .int .i64 v] 74 ?_; intro g1 hg w1 hbox hb; have GEg1 := zge hg HW; replace HW := zW HW hb; have BKg1 := Aside0.mk hbox; clear hb hbox hg; have z1_g10 := zC BKg1)
      | (go_at_call 70; (with_reducible refine (in_l mo 1 12 false A1.out _).mono ?_); rintro e w2 ⟨rfl, hb⟩; replace HW := zW HW hb; replace BKg1 := zb BKg1 hb; clear hb; (try clear z1_g10); have z2_g10 := zC BKg1)
      | (go_at_call 99; (with_reducible refine (HV.out _ HW.out).mono ?_); rintro e w4 ⟨rfl, hb⟩; replace HW := zW HW hb; replace BKg1 := zb BKg1 hb; clear hb))
    go_ret
    exact ⟨by rw [HKO.out]; first | done | rfl, HW.out⟩
  · have A1 := Aside0.mk a1
    have HKO := Aside0.mk (show kindOk 4 mo d = false by unfold kindOk; rw [if_neg (by decide), if_pos (by decide)]; simp only [a3, a5]; rfl)
    clear a1
    go_enter Tryz.func94, Tryz.ntmps94
    go_wp2_with (first
      | ((with_reducible refine zG 2 rfl ?_); refine zBox 2 #[.int .i64 4, .int .i64 mo, .int .i64 d, .int .i64 v] 74 ?_; intro g1 hg w1 hbox hb; have GEg1 := zge hg HW; replace HW := zW HW hb; have BKg1 := Aside0.mk hbox; clear hb hbox hg; have z1_g10 := zC BKg1)
      | (go_at_call 70; (with_reducible refine (in_l mo 1 12 false A1.out _).mono ?_); rintro e w2 ⟨rfl, hb⟩; replace HW := zW HW hb; replace BKg1 := zb BKg1 hb; clear hb; (try clear z1_g10); have z2_g10 := zC BKg1))
    go_ret
    exact ⟨by rw [HKO.out]; first | done | rfl, HW.out⟩
set_option maxHeartbeats 8000000 in
set_option maxRecDepth 100000 in
theorem isFact_q5 (k mo d v : Int) (pv : Bool) (gf : Nat) (W : World) (hk : k = 5) (hv : ∀ W', Below W.heap.size W W' → Calls Tryz.prog 99 #[.int .i64 365, .int .i64 366, .pointer (some ⟨gf, 0, none⟩)] W' fun e w' => e = .returned (.bool pv) ∧ Below W'.heap.size W' w') :
    Calls Tryz.prog 94 #[.agg #[.int .i64 k, .int .i64 mo, .int .i64 d, .int .i64 v], .func (.func 99) #[] #[.pointer (some ⟨gf, 0, none⟩)]] W fun e w' => e = .returned (.bool (kindOk k mo d && pv)) ∧ Below W.heap.size W w' := by
  have hu74 := Tryz.underlying74
  have hu72 := Tryz.underlying72
  have HW := Aside0.mk (Below.refl W.heap.size W)
  subst hk
  have HV := Aside0.mk hv
  clear hv
  rcases cases5 mo d with ⟨a1, a2, a3, a4⟩ | ⟨a1, a2, a3, a4⟩ | ⟨a1, a3, a4⟩ | ⟨a1, ⟨a3, a4⟩, a5, a6⟩ | ⟨a1, ⟨a3, a4⟩, a5, a6⟩
  · have A1 := Aside0.mk a1
    have A2 := Aside0.mk a2
    have HKO := Aside0.mk (show kindOk 5 mo d = false by unfold kindOk; rw [if_neg (by decide), if_pos (by decide)]; simp only [a3]; rfl)
    clear a1 a2
    go_enter Tryz.func94, Tryz.ntmps94
    go_wp2_with (first
      | ((with_reducible refine zG 2 rfl ?_); refine zBox 2 #[.int .i64 5, .int .i64 mo, .int .i64 d, .int .i64 v] 74 ?_; intro g1 hg w1 hbox hb; have GEg1 := zge hg HW; replace HW := zW HW hb; have BKg1 := Aside0.mk hbox; clear hb hbox hg; have z1_g10 := zC BKg1)
      | (go_at_call 70; (with_reducible refine (in_l mo 1 12 true A1.out _).mono ?_); rintro e w2 ⟨rfl, hb⟩; replace HW := zW HW hb; replace BKg1 := zb BKg1 hb; clear hb; (try clear z1_g10); have z2_g10 := zC BKg1)
      | (go_at_call 70; (with_reducible refine (in_l d 1 31 true A2.out _).mono ?_); rintro e w3 ⟨rfl, hb⟩; replace HW := zW HW hb; replace BKg1 := zb BKg1 hb; clear hb; (try clear z2_g10); have z3_g10 := zC BKg1))
    go_ret
    exact ⟨by rw [HKO.out]; first | done | rfl, HW.out⟩
  · have A1 := Aside0.mk a1
    have A2 := Aside0.mk a2
    have HKO := Aside0.mk (show kindOk 5 mo d = false by unfold kindOk; rw [if_neg (by decide), if_pos (by decide)]; simp only [a3]; rfl)
    clear a1 a2
    go_enter Tryz.func94, Tryz.ntmps94
    go_wp2_with (first
      | ((with_reducible refine zG 2 rfl ?_); refine zBox 2 #[.int .i64 5, .int .i64 mo, .int .i64 d, .int .i64 v] 74 ?_; intro g1 hg w1 hbox hb; have GEg1 := zge hg HW; replace HW := zW HW hb; have BKg1 := Aside0.mk hbox; clear hb hbox hg; have z1_g10 := zC BKg1)
      | (go_at_call 70; (with_reducible refine (in_l mo 1 12 true A1.out _).mono ?_); rintro e w2 ⟨rfl, hb⟩; replace HW := zW HW hb; replace BKg1 := zb BKg1 hb; clear hb; (try clear z1_g10); have z2_g10 := zC BKg1)
      | (go_at_call 70; (with_reducible refine (in_l d 1 31 false A2.out _).mono ?_); rintro e w3 ⟨rfl, hb⟩; replace HW := zW HW hb; replace BKg1 := zb BKg1 hb; clear hb; (try clear z2_g10); have z3_g10 := zC BKg1))
    go_ret
    exact ⟨by rw [HKO.out]; first | done | rfl, HW.out⟩
  · have A1 := Aside0.mk a1
    have HKO := Aside0.mk (show kindOk 5 mo d = false by unfold kindOk; rw [if_neg (by decide), if_pos (by decide)]; simp only [a3]; rfl)
    clear a1
    go_enter Tryz.func94, Tryz.ntmps94
    go_wp2_with (first
      | ((with_reducible refine zG 2 rfl ?_); refine zBox 2 #[.int .i64 5, .int .i64 mo, .int .i64 d, .int .i64 v] 74 ?_; intro g1 hg w1 hbox hb; have GEg1 := zge hg HW; replace HW := zW HW hb; have BKg1 := Aside0.mk hbox; clear hb hbox hg; have z1_g10 := zC BKg1)
      | (go_at_call 70; (with_reducible refine (in_l mo 1 12 false A1.out _).mono ?_); rintro e w2 ⟨rfl, hb⟩; replace HW := zW HW hb; replace BKg1 := zb BKg1 hb; clear hb; (try clear z1_g10); have z2_g10 := zC BKg1))
    go_ret
    exact ⟨by rw [HKO.out]; first | done | rfl, HW.out⟩
  · have A1 := Aside0.mk a1
    have HKO := Aside0.mk (show kindOk 5 mo d = true by unfold kindOk; rw [if_neg (by decide), if_pos (by decide)]; simp only [a3, a5]; rfl)
    clear a1
    go_enter Tryz.func94, Tryz.ntmps94
    go_wp2_with (first
      | ((with_reducible refine zG 2 rfl ?_); refine zBox 2 #[.int .i64 5, .int .i64 mo, .int .i64 d, .int .i64 v] 74 ?_; intro g1 hg w1 hbox hb; have GEg1 := zge hg HW; replace HW := zW HW hb; have BKg1 := Aside0.mk hbox; clear hb hbox hg; have z1_g10 := zC BKg1)
      | (go_at_call 70; (with_reducible refine (in_l mo 1 12 false A1.out _).mono ?_); rintro e w2 ⟨rfl, hb⟩; replace HW := zW HW hb; replace BKg1 := zb BKg1 hb; clear hb; (try clear z1_g10); have z2_g10 := zC BKg1)
      | (go_at_call 99; (with_reducible refine (HV.out _ HW.out).mono ?_); rintro e w4 ⟨rfl, hb⟩; replace HW := zW HW hb; replace BKg1 := zb BKg1 hb; clear hb))
    go_ret
    exact ⟨by rw [HKO.out]; first | done | rfl, HW.out⟩
  · have A1 := Aside0.mk a1
    have HKO := Aside0.mk (show kindOk 5 mo d = false by unfold kindOk; rw [if_neg (by decide), if_pos (by decide)]; simp only [a3, a5]; rfl)
    clear a1
    go_enter Tryz.func94, Tryz.ntmps94
    go_wp2_with (first
      | ((with_reducible refine zG 2 rfl ?_); refine zBox 2 #[.int .i64 5, .int .i64 mo, .int .i64 d, .int .i64 v] 74 ?_; intro g1 hg w1 hbox hb; have GEg1 := zge hg HW; replace HW := zW HW hb; have BKg1 := Aside0.mk hbox; clear hb hbox hg; have z1_g10 := zC BKg1)
      | (go_at_call 70; (with_reducible refine (in_l mo 1 12 false A1.out _).mono ?_); rintro e w2 ⟨rfl, hb⟩; replace HW := zW HW hb; replace BKg1 := zb BKg1 hb; clear hb; (try clear z1_g10); have z2_g10 := zC BKg1))
    go_ret
    exact ⟨by rw [HKO.out]; first | done | rfl, HW.out⟩
theorem isFact_q (k mo d v : Int) (pv : Bool) (gf : Nat) (W : World) (hv : ∀ W', Below W.heap.size W W' → Calls Tryz.prog 99 #[.int .i64 (loOf k), .int .i64 (hiOf k), .pointer (some ⟨gf, 0, none⟩)] W' fun e w' => e = .returned (.bool pv) ∧ Below W'.heap.size W' w') :
    Calls Tryz.prog 94 #[.agg #[.int .i64 k, .int .i64 mo, .int .i64 d, .int .i64 v], .func (.func 99) #[] #[.pointer (some ⟨gf, 0, none⟩)]] W fun e w' => e = .returned (.bool (kindOk k mo d && pv)) ∧ Below W.heap.size W w' := by
  by_cases k1 : k = 1
  · exact isFact_q1 k mo d v pv gf W k1 (by rw [k1] at hv; exact hv)
  by_cases k2 : k = 2
  · exact isFact_q2 k mo d v pv gf W k2 (by rw [k2] at hv; exact hv)
  by_cases k3 : k = 3
  · exact isFact_q3 k mo d v pv gf W k3 (by rw [k3] at hv; exact hv)
  by_cases k4 : k = 4
  · exact isFact_q4 k mo d v pv gf W k4 (by rw [k4] at hv; exact hv)
  by_cases k5 : k = 5
  · exact isFact_q5 k mo d v pv gf W k5 (by rw [k5] at hv; exact hv)
  exact isFact_q0 k mo d v pv gf W ⟨by omega, by omega⟩
set_option maxHeartbeats 8000000 in
set_option maxRecDepth 100000 in
theorem outer_f (k mo d v : Int) (W : World) :
    Calls Tryz.prog 93 #[.agg #[.int .i64 k, .int .i64 mo, .int .i64 d, .int .i64 v]] W fun e w' => e = .returned (.bool (!(kindOk k mo d && inB v (loOf k) (hiOf k)))) ∧ Below W.heap.size W w' := by
  have hu74 := Tryz.underlying74
  have hu72 := Tryz.underlying72
  have hmf : ∀ (fn : Fn) (first cap : Array Value) (w : World), (Instr.makeFunc fn first cap).run Tryz.prog w = .ok (.func fn first cap) w := fun _ _ _ _ => rfl
  have HW := Aside0.mk (Below.refl W.heap.size W)
  go_enter Tryz.func93, Tryz.ntmps93
  go_wp2_with (first
    | ((with_reducible refine zG 1 rfl ?_); refine zBox 1 #[.int .i64 k, .int .i64 mo, .int .i64 d, .int .i64 v] 74 ?_; intro g1 hg w1 hbox hb; have GEg1 := zge hg HW; replace HW := zW HW hb; have BKg1 := Aside0.mk hbox; clear hb hbox hg; have z1_g10 := zC BKg1)
    | (go_at_call 94; (with_reducible refine (isFact_f k mo d v (inB v (loOf k) (hiOf k)) g1 _ (fun W' hW' => inner_fact k mo d v _ _ g1 W' (blk_below BKg1.out hW'))).mono ?_); rintro e w2 ⟨rfl, hb⟩; replace HW := zW HW hb; replace BKg1 := zb BKg1 hb; clear hb))
  go_ret
  refine ⟨?_, HW.out⟩
  first | rfl | (simp; done)
set_option maxHeartbeats 8000000 in
set_option maxRecDepth 100000 in
theorem outer_q (k mo d v : Int) (W : World) :
    Calls Tryz.prog 98 #[.agg #[.int .i64 k, .int .i64 mo, .int .i64 d, .int .i64 v]] W fun e w' => e = .returned (.bool (!(kindOk k mo d && (v == 0)))) ∧ Below W.heap.size W w' := by
  have hu74 := Tryz.underlying74
  have hu72 := Tryz.underlying72
  have hmf : ∀ (fn : Fn) (first cap : Array Value) (w : World), (Instr.makeFunc fn first cap).run Tryz.prog w = .ok (.func fn first cap) w := fun _ _ _ _ => rfl
  have HW := Aside0.mk (Below.refl W.heap.size W)
  go_enter Tryz.func98, Tryz.ntmps98
  go_wp2_with (first
    | ((with_reducible refine zG 1 rfl ?_); refine zBox 1 #[.int .i64 k, .int .i64 mo, .int .i64 d, .int .i64 v] 74 ?_; intro g1 hg w1 hbox hb; have GEg1 := zge hg HW; replace HW := zW HW hb; have BKg1 := Aside0.mk hbox; clear hb hbox hg; have z1_g10 := zC BKg1)
    | (go_at_call 94; (with_reducible refine (isFact_q k mo d v ((v == 0)) g1 _ (fun W' hW' => inner_ask k mo d v _ _ g1 W' (blk_below BKg1.out hW'))).mono ?_); rintro e w2 ⟨rfl, hb⟩; replace HW := zW HW hb; replace BKg1 := zb BKg1 hb; clear hb))
  go_ret
  refine ⟨?_, HW.out⟩
  first | rfl | (simp; done)
end Go.Proofs.YtnllidgonghckaaGreatDoor.X
namespace Go.Proofs.YtnllidgonghckaaGreatDoor.X
open Go.RowKit Go.Proofs.YtnllidgonghckaaGreatDoorW.PrintWords Go.Proofs.YtnllidgonghckaaGreatDoorW.PrintLast Go.Proofs.YtnllidgonghckaaGreatDoorW.PrintMore Go.Proofs.YtnllidgonghckaaGreatDoor.Dm
set_option linter.unusedVariables false
set_option linter.unusedSimpArgs false
attribute [local go_sem] max2_int min2_int max_two min_two max_three min_three max_four min_four
def idxR (p : S74 → Bool) (l : List S74) : Int := match l.findIdx? p with | some i => (i : Int) | none => -1
theorem idxR_some {p : S74 → Bool} {l : List S74} {i : Nat} (hi : i < l.length) (h : ∀ j (hj : j < i), p (l[j]'(by omega)) = false) (hp : p (l[i]) = true) : idxR p l = i := by
  unfold idxR
  have : l.findIdx? p = some i := by
    rw [List.findIdx?_eq_some_iff_getElem]
    exact ⟨hi, hp, fun j hj => by simp [h j hj]⟩
  rw [this]
theorem idxR_none {p : S74 → Bool} {l : List S74} (h : ∀ j (hj : j < l.length), p (l[j]) = false) : idxR p l = -1 := by
  unfold idxR
  have : l.findIdx? p = none := by
    rw [List.findIdx?_eq_none_iff]
    intro x hx
    obtain ⟨j, hj, rfl⟩ := List.getElem_of_mem hx
    exact h j hj
  rw [this]
theorem idxR_any (p : S74 → Bool) (l : List S74) : decide (0 ≤ idxR p l) = l.any p := by
  unfold idxR
  cases h : l.findIdx? p with
  | none =>
    rw [List.findIdx?_eq_none_iff] at h
    have : l.any p = false := by rw [List.any_eq_false]; intro x hx; simp [h x hx]
    rw [this]
    rfl
  | some i =>
    rw [List.findIdx?_eq_some_iff_getElem] at h
    obtain ⟨hi, hp, _⟩ := h
    have : l.any p = true := by rw [List.any_eq_true]; exact ⟨_, List.getElem_mem hi, hp⟩
    rw [this]
    simp
set_option maxHeartbeats 8000000 in
set_option maxRecDepth 100000 in
theorem indexFunc_calls (g : FuncId) (fn : Func) (hf : Tryz.prog.funcs[g]? = some fn) (hname : (fn.name == "runtime.NumGoroutine") = false) (hbd : fn.body.isSome = true) (caps : Array Value) (J : World → Prop) (row : Option Nat) (p : S74 → Bool) (A : Option Addr) (c : Nat) (l : List S74)
    (hJb : ∀ W W', J W → Below W.heap.size W W' → J W') (hC : ∀ W, J W → Kd.C k74 W A l.length l) (hc : l.length ≤ c)
    (hP : ∀ W, ∀ x ∈ l, J W → Calls Tryz.prog g (#[.agg #[.int .i64 x.f0, .int .i64 x.f1, .int .i64 x.f2, .int .i64 x.f3]] ++ caps) W fun e W' => e = .returned (.bool (p x)) ∧ J W' ∧ W.grownBy W' row)
    (W : World) (hJ : J W) :
    Calls Tryz.prog 111 #[.slice A l.length c, .func (.func g) #[] caps] W fun e W' => e = .returned (.int .i64 (idxR p l)) ∧ J W' ∧ W.grownBy W' row := by
  have hu74 := Tryz.underlying74
  have hcf : ∀ (args : Array Value) (w : World), (callFunc g args).run Tryz.prog w = .ok (.enter g args) w := fun args w => enters_ hf hname hbd args w
  have hmax := Kd.C_max (hC W hJ)
  have HJ := Aside0.mk hJ
  have HG := Aside0.mk (grown_refl W row)
  have HP := Aside0.mk hP
  have HJB := Aside0.mk hJb
  have HCC := Aside0.mk hC
  clear hJ hP hJb hC hf hname hbd
  go_enter Tryz.func111, Tryz.ntmps111
  go_wp2
  go_loopw [8] (fun v8 Wr => ∃ (i : Nat), v8 = .int .i64 i ∧ i ≤ l.length ∧ Aside0 (∀ j (hj : j < i) (hl : j < l.length), p (l[j]) = false) ∧ Aside0 (J Wr) ∧ Aside0 (W.grownBy Wr row)) (fun i _ => l.length - (intOf i).toNat)
  case atStart => exact ⟨0, rfl, by omega, ⟨fun j hj => by omega⟩, HJ, HG⟩
  case round =>
    clear HJ HG
    obtain ⟨i, rfl, hi, HF, HJ, HG⟩ := hrel
    by_cases hlt : i < l.length
    · obtain ⟨x, hx⟩ : ∃ x, l[i] = x := ⟨_, rfl⟩
      have HX := Aside0.mk hx
      have hmem : x ∈ l := hx ▸ List.getElem_mem hlt
      have HM := Aside0.mk hmem
      obtain ⟨ad, eA, q0, q1, q2, q3⟩ := at_T74 (HCC.out wr HJ.out) (i : Int) (by omega) (by omega)
      have hrd : rd_T74 l (i : Int) = x := by unfold rd_T74; rw [Int.toNat_natCast, List.getD_eq_getElem?_getD, List.getElem?_eq_getElem hlt, Option.getD_some, hx]
      rw [hrd, Int.toNat_natCast] at q0 q1 q2 q3
      subst eA
      have hi0 : (0 : Int) ≤ (i : Int) := by omega
      have hi1 : (i : Int) < (l.length : Int) := by omega
      obtain ⟨b, hb⟩ : ∃ b, p x = b := ⟨_, rfl⟩
      have HB := Aside0.mk hb
      clear hx hmem hrd hb
      cases b
      · go_wp2_with (first
          | ((with_reducible refine (HP.out _ x HM.out HJ.out).mono ?_); rintro e w2 ⟨rfl, hj, hg⟩; rw [HB.out]; clear HJ; have HJ := Aside0.mk hj; replace HG := Aside0.mk (grown_then HG.out hg); clear hj hg))
        go_roundw
        case rel =>
          refine ⟨i + 1, by go_num, by omega, ⟨fun j hj hl => ?_⟩, HJ, HG⟩
          rcases Nat.lt_or_ge j i with c | c
          · exact HF.out j c hl
          · have : j = i := by omega
            subst this
            rw [HX.out]
            exact HB.out
        case measure => simp [intOf]; omega
      · go_wp2_with (first
          | ((with_reducible refine (HP.out _ x HM.out HJ.out).mono ?_); rintro e w2 ⟨rfl, hj, hg⟩; rw [HB.out]; clear HJ; have HJ := Aside0.mk hj; replace HG := Aside0.mk (grown_then HG.out hg); clear hj hg))
        go_ret
        exact ⟨by rw [idxR_some hlt (fun j hj => HF.out j hj (by omega)) (by rw [HX.out]; exact HB.out)]; first | done | rfl, HJ.out, HG.out⟩
    · have hie : i = l.length := by omega
      subst hie
      go_wp2
      go_ret
      exact ⟨by rw [idxR_none (fun j hj => HF.out j hj hj)]; first | done | rfl, HJ.out, HG.out⟩
set_option maxHeartbeats 8000000 in
set_option maxRecDepth 100000 in
theorem containsFunc_calls (g : FuncId) (fn : Func) (hf : Tryz.prog.funcs[g]? = some fn) (hname : (fn.name == "runtime.NumGoroutine") = false) (hbd : fn.body.isSome = true) (caps : Array Value) (J : World → Prop) (row : Option Nat) (p : S74 → Bool) (A : Option Addr) (c : Nat) (l : List S74)
    (hJb : ∀ W W', J W → Below W.heap.size W W' → J W') (hC : ∀ W, J W → Kd.C k74 W A l.length l) (hc : l.length ≤ c)
    (hP : ∀ W, ∀ x ∈ l, J W → Calls Tryz.prog g (#[.agg #[.int .i64 x.f0, .int .i64 x.f1, .int .i64 x.f2, .int .i64 x.f3]] ++ caps) W fun e W' => e = .returned (.bool (p x)) ∧ J W' ∧ W.grownBy W' row)
    (W : World) (hJ : J W) :
    Calls Tryz.prog 92 #[.slice A l.length c, .func (.func g) #[] caps] W fun e W' => e = .returned (.bool (l.any p)) ∧ J W' ∧ W.grownBy W' row := by
  obtain ⟨q, hq⟩ : ∃ q, idxR p l = q := ⟨_, rfl⟩
  have HR := Aside0.mk (show decide (0 ≤ q) = l.any p by rw [← hq]; exact idxR_any p l)
  have HI := Aside0.mk (indexFunc_calls g fn hf hname hbd caps J row p A c l hJb hC hc hP)
  have HQ := Aside0.mk hq
  have HJ := Aside0.mk hJ
  clear hf hname hbd hJb hC hc hP hJ hq
  go_enter Tryz.func92, Tryz.ntmps92
  go_wp2_with (first
    | (go_at_call 111; (with_reducible refine (HI.out _ HJ.out).mono ?_); rintro e w2 ⟨rfl, hj, hg⟩; rw [HQ.out]; have HJ2 := Aside0.mk hj; have HG := Aside0.mk hg; clear hj hg))
  go_ret
  exact ⟨by rw [← HR.out]; first | done | rfl, HJ2.out, HG.out⟩
end Go.Proofs.YtnllidgonghckaaGreatDoor.X
namespace Go.Proofs.YtnllidgonghckaaGreatDoor.X
open Go.RowKit Go.Proofs.YtnllidgonghckaaGreatDoorW.PrintWords Go.Proofs.YtnllidgonghckaaGreatDoorW.PrintLast Go.Proofs.YtnllidgonghckaaGreatDoorW.PrintMore Go.Proofs.YtnllidgonghckaaGreatDoor.Dm
set_option linter.unusedVariables false
set_option linter.unusedSimpArgs false
attribute [local go_sem] max2_int min2_int max_two min_two max_three min_three max_four min_four
def areFactsB (l : List S74) : Bool := decide (l.length ≤ 6) && l.all factB
set_option maxHeartbeats 8000000 in
set_option maxRecDepth 100000 in
theorem areFacts_l (A : Option Addr) (c : Nat) (l : List S74) (r : Bool) (hr' : areFactsB l = r) (w0 w : World) (hr : Kd.C k74 w0 A l.length l) (hc : l.length ≤ c) (hB : Below w0.heap.size w0 w) :
    Calls Tryz.prog 76 #[.slice A l.length c] w fun e w' => e = .returned (.bool r) ∧ Below w.heap.size w w' := by
  subst hr'
  have hmax := Kd.C_max hr
  have HW := Aside0.mk (Below.refl w.heap.size w)
  have HCF := Aside0.mk (containsFunc_calls 93 _ Tryz.func93 (by kernel_rfl) rfl #[] (fun W => Below w.heap.size w W) none (fun x => !(factB x)) A c l (fun W W' h hb => below_thenN h hb) (fun W h => Kd.C_below hr (below_thenN hB h)) hc
    (fun W x hx hj => (outer_f x.f0 x.f1 x.f2 x.f3 W).mono fun e W' h => ⟨h.1, below_thenN hj h.2, grown_of_below h.2 none⟩))
  have HANY := Aside0.mk (show (!(l.any fun x => !(factB x))) = l.all factB by rw [List.any_eq_not_all_not]; simp)
  clear hr hB hc
  by_cases h6 : l.length ≤ 6
  · have d1 : decide ((l.length : Int) ≤ 6) = true := decide_eq_true (by omega)
    have HR := Aside0.mk (show areFactsB l = l.all factB by unfold areFactsB; rw [decide_eq_true h6]; rfl)
    go_enter Tryz.func76, Tryz.ntmps76
    go_wp2_with (first | (go_at_call 92; (with_reducible refine (HCF.out _ HW.out).mono ?_); rintro e w2 ⟨rfl, hj, _⟩; clear HW; have HW := Aside0.mk hj; clear hj))
    go_ret
    exact ⟨by rw [HR.out, ← HANY.out]; first | done | rfl, HW.out⟩
  · have d1 : decide ((l.length : Int) ≤ 6) = false := decide_eq_false (by omega)
    have HR := Aside0.mk (show areFactsB l = false by unfold areFactsB; rw [decide_eq_false h6]; rfl)
    go_enter Tryz.func76, Tryz.ntmps76
    go_wp2
    go_ret
    exact ⟨by rw [HR.out]; first | done | rfl, HW.out⟩
def areQuestionsB (l : List S74) : Bool := decide (1 ≤ l.length) && decide (l.length ≤ 6) && l.all askB
set_option maxHeartbeats 8000000 in
set_option maxRecDepth 100000 in
theorem areQuestions_l (A : Option Addr) (c : Nat) (l : List S74) (r : Bool) (hr' : areQuestionsB l = r) (w0 w : World) (hr : Kd.C k74 w0 A l.length l) (hc : l.length ≤ c) (hB : Below w0.heap.size w0 w) :
    Calls Tryz.prog 79 #[.slice A l.length c] w fun e w' => e = .returned (.bool r) ∧ Below w.heap.size w w' := by
  subst hr'
  have hmax := Kd.C_max hr
  have HW := Aside0.mk (Below.refl w.heap.size w)
  have HCF := Aside0.mk (containsFunc_calls 98 _ Tryz.func98 (by kernel_rfl) rfl #[] (fun W => Below w.heap.size w W) none (fun x => !(askB x)) A c l (fun W W' h hb => below_thenN h hb) (fun W h => Kd.C_below hr (below_thenN hB h)) hc
    (fun W x hx hj => (outer_q x.f0 x.f1 x.f2 x.f3 W).mono fun e W' h => ⟨h.1, below_thenN hj h.2, grown_of_below h.2 none⟩))
  have HANY := Aside0.mk (show (!(l.any fun x => !(askB x))) = l.all askB by rw [List.any_eq_not_all_not]; simp)
  clear hr hB hc
  by_cases h6 : 1 ≤ l.length ∧ l.length ≤ 6
  · have HIN := Aside0.mk (show inB (l.length : Int) 1 6 = true by simp [inB]; omega)
    have HR := Aside0.mk (show areQuestionsB l = l.all askB by unfold areQuestionsB; rw [decide_eq_true h6.1, decide_eq_true h6.2]; rfl)
    go_enter Tryz.func79, Tryz.ntmps79
    go_wp2_with (first | (go_at_call 70; (with_reducible refine (in_l (l.length : Int) 1 6 true HIN.out _).mono ?_); rintro e w1 ⟨rfl, hb⟩; replace HW := zW HW hb; clear hb) | (go_at_call 92; (with_reducible refine (HCF.out _ HW.out).mono ?_); rintro e w2 ⟨rfl, hj, _⟩; clear HW; have HW := Aside0.mk hj; clear hj))
    go_ret
    exact ⟨by rw [HR.out, ← HANY.out]; first | done | rfl, HW.out⟩
  · have HIN := Aside0.mk (show inB (l.length : Int) 1 6 = false by simp [inB]; omega)
    have HR := Aside0.mk (show areQuestionsB l = false by unfold areQuestionsB; rw [← Bool.decide_and, decide_eq_false h6]; rfl)
    go_enter Tryz.func79, Tryz.ntmps79
    go_wp2_with (first | (go_at_call 70; (with_reducible refine (in_l (l.length : Int) 1 6 false HIN.out _).mono ?_); rintro e w1 ⟨rfl, hb⟩; replace HW := zW HW hb; clear hb))
    go_ret
    exact ⟨by rw [HR.out]; first | done | rfl, HW.out⟩
end Go.Proofs.YtnllidgonghckaaGreatDoor.X
namespace Go.Proofs.YtnllidgonghckaaGreatDoor.X
open Go.RowKit Go.Proofs.YtnllidgonghckaaGreatDoorW.PrintWords Go.Proofs.YtnllidgonghckaaGreatDoorW.PrintLast Go.Proofs.YtnllidgonghckaaGreatDoorW.PrintMore Go.Proofs.YtnllidgonghckaaGreatDoor.Dm
set_option linter.unusedVariables false
set_option linter.unusedSimpArgs false
attribute [local go_sem] max2_int min2_int max_two min_two max_three min_three max_four min_four
def eqI (a b : Int) : Int := if a = b then 1 else 0
set_option maxHeartbeats 8000000 in
set_option maxRecDepth 100000 in
theorem on_is {ep : Int} {A : Option Addr} {c : Nat} {cs F : List Int} {a5 : Addr} {c5 mb : Nat} {w W : World} (m0 m1 m2 : Int) (h : Opd ep A c cs F a5 c5 mb w W) (y : Int) (h0 : 0 ≤ y) (h1 : y ≤ 4000) (k mo d v : Int) (hd : dateB cs y mo d = true) :
    Calls Tryz.prog 112 #[.agg #[.int .i64 ep, .slice A cs.length c, .int .i64 m0, .int .i64 m1, .int .i64 m2, .slice (some a5) F.length c5, .map (some mb), .int .i64 y], .agg #[.int .i64 k, .int .i64 mo, .int .i64 d, .int .i64 v]] W fun e w' => e = .returned (.tuple #[.int .i64 (dayOf ep cs y mo d), .bool true]) ∧ Below W.heap.size W w' := by
  have hu38 := Tryz.underlying38
  have hu45 := Tryz.underlying45
  have hu83 := Tryz.underlying83
  have hu74 := Tryz.underlying74
  have hu108 := Tryz.underlying108
  have HZ := Aside0.mk h.b.size
  have HCB := Aside0.mk (calB_iff h.cal)
  have OPd := Aside0.mk h
  have HW := Aside0.mk (Below.refl W.heap.size W)
  have Y0 := Aside0.mk h0
  have Y1 := Aside0.mk h1
  clear h
  have HDB := Aside0.mk (show 0 ≤ y ∧ y ≤ 4000 ∧ 1 ≤ mo ∧ mo ≤ 12 ∧ 1 ≤ d ∧ d ≤ 31 from have h := dateB_iff hd; ⟨h.1, h.2.1, h.2.2.1, h.2.2.2.1, h.2.2.2.2.1, Int.le_trans h.2.2.2.2.2 (mlist_rd _ _).2⟩)
  have HD := Aside0.mk hd
  clear hd
  go_enter Tryz.func112, Tryz.ntmps112
  go_wp2_with (first
    | ((with_reducible refine zG 2 rfl ?_); refine zBox 2 #[.int .i64 ep, .slice A cs.length c, .int .i64 m0, .int .i64 m1, .int .i64 m2, .slice (some a5) F.length c5, .map (some mb), .int .i64 y] 108 ?_; intro g1 hg w1 hbox hb; have GEg1 := zge hg HW; replace HW := zW HW hb; replace OPd := zo OPd hb; have BKg1 := Aside0.mk hbox; clear hb hbox hg; have z1_g10 := zC BKg1)
    | ((with_reducible refine zG 3 rfl ?_); refine zBox 3 #[.int .i64 k, .int .i64 mo, .int .i64 d, .int .i64 v] 74 ?_; intro g2 hg w2 hbox hb; have GEg2 := zge hg HW; have NEg1_g2 := zne hg BKg1; replace HW := zW HW hb; replace OPd := zo OPd hb; replace BKg1 := zb BKg1 hb; have BKg2 := Aside0.mk hbox; clear hb hbox hg; (try clear z1_g10); have z2_g10 := zC BKg1; have z2_g20 := zC BKg2)
    | ((with_reducible refine zG 6 rfl ?_); refine zBox 6 #[.int .i64 0, .int .i64 0, .int .i64 0] 38 ?_; intro g3 hg w3 hbox hb; have GEg3 := zge hg HW; have NEg1_g3 := zne hg BKg1; have NEg2_g3 := zne hg BKg2; replace HW := zW HW hb; replace OPd := zo OPd hb; replace BKg1 := zb BKg1 hb; replace BKg2 := zb BKg2 hb; have BKg3 := Aside0.mk hbox; clear hb hbox hg; (try clear z2_g10 z2_g20); have z3_g10 := zC BKg1; have z3_g20 := zC BKg2; have z3_g30 := zC BKg3)
    | ((with_reducible refine zH 38 6 rfl ?_); refine zSto 38 6 #[.int .i64 y, .int .i64 mo, .int .i64 d] BKg3 ?_; intro w4 hw; replace HW := zWS hw GEg3 HW; replace OPd := Aside0.mk (Opd.setRow' hw (by decide) (Nat.le_trans HZ.out GEg3.out) BKg3.out OPd.out); replace BKg1 := zfar hw (by first | exact NEg1_g3.out | exact NEg3_g1.out.symm) BKg1; replace BKg2 := zfar hw (by first | exact NEg2_g3.out | exact NEg3_g2.out.symm) BKg2; replace BKg3 := znew hw BKg3; clear hw; (try clear z3_g10 z3_g20 z3_g30); have z4_g10 := zC BKg1; have z4_g20 := zC BKg2; have z4_g30 := zC BKg3)
    | (go_at_call 56; (with_reducible refine (isDate_b m0 m1 m2 OPd.out y mo d true HD.out).mono ?_); rintro e w5 ⟨rfl, hb⟩; replace HW := zW HW hb; replace OPd := zo OPd hb; replace BKg1 := zb BKg1 hb; replace BKg2 := zb BKg2 hb; replace BKg3 := zb BKg3 hb; clear hb; (try clear z4_g10 z4_g20 z4_g30); have z5_g10 := zC BKg1; have z5_g20 := zC BKg2; have z5_g30 := zC BKg3)
    | (go_at_call 57; (with_reducible refine (day_b m0 m1 m2 OPd.out y mo d HDB.out).mono ?_); rintro e w6 ⟨rfl, hb⟩; replace HW := zW HW hb; replace OPd := zo OPd hb; replace BKg1 := zb BKg1 hb; replace BKg2 := zb BKg2 hb; replace BKg3 := zb BKg3 hb; clear hb; (try clear z5_g10 z5_g20 z5_g30); have z6_g10 := zC BKg1; have z6_g20 := zC BKg2; have z6_g30 := zC BKg3))
  go_ret2
  exact ⟨rfl, HW.out⟩
set_option maxHeartbeats 8000000 in
set_option maxRecDepth 100000 in
theorem on_no {ep : Int} {A : Option Addr} {c : Nat} {cs F : List Int} {a5 : Addr} {c5 mb : Nat} {w W : World} (m0 m1 m2 : Int) (h : Opd ep A c cs F a5 c5 mb w W) (y : Int) (h0 : 0 ≤ y) (h1 : y ≤ 4000) (k mo d v : Int) (hd : dateB cs y mo d = false) :
    Calls Tryz.prog 112 #[.agg #[.int .i64 ep, .slice A cs.length c, .int .i64 m0, .int .i64 m1, .int .i64 m2, .slice (some a5) F.length c5, .map (some mb), .int .i64 y], .agg #[.int .i64 k, .int .i64 mo, .int .i64 d, .int .i64 v]] W fun e w' => e = .returned (.tuple #[.int .i64 0, .bool false]) ∧ Below W.heap.size W w' := by
  have hu38 := Tryz.underlying38
  have hu45 := Tryz.underlying45
  have hu83 := Tryz.underlying83
  have hu74 := Tryz.underlying74
  have hu108 := Tryz.underlying108
  have HZ := Aside0.mk h.b.size
  have HCB := Aside0.mk (calB_iff h.cal)
  have OPd := Aside0.mk h
  have HW := Aside0.mk (Below.refl W.heap.size W)
  have Y0 := Aside0.mk h0
  have Y1 := Aside0.mk h1
  clear h
  have HD := Aside0.mk hd
  clear hd
  go_enter Tryz.func112, Tryz.ntmps112
  go_wp2_with (first
    | ((with_reducible refine zG 2 rfl ?_); refine zBox 2 #[.int .i64 ep, .slice A cs.length c, .int .i64 m0, .int .i64 m1, .int .i64 m2, .slice (some a5) F.length c5, .map (some mb), .int .i64 y] 108 ?_; intro g1 hg w1 hbox hb; have GEg1 := zge hg HW; replace HW := zW HW hb; replace OPd := zo OPd hb; have BKg1 := Aside0.mk hbox; clear hb hbox hg; have z1_g10 := zC BKg1)
    | ((with_reducible refine zG 3 rfl ?_); refine zBox 3 #[.int .i64 k, .int .i64 mo, .int .i64 d, .int .i64 v] 74 ?_; intro g2 hg w2 hbox hb; have GEg2 := zge hg HW; have NEg1_g2 := zne hg BKg1; replace HW := zW HW hb; replace OPd := zo OPd hb; replace BKg1 := zb BKg1 hb; have BKg2 := Aside0.mk hbox; clear hb hbox hg; (try clear z1_g10); have z2_g10 := zC BKg1; have z2_g20 := zC BKg2)
    | ((with_reducible refine zG 6 rfl ?_); refine zBox 6 #[.int .i64 0, .int .i64 0, .int .i64 0] 38 ?_; intro g3 hg w3 hbox hb; have GEg3 := zge hg HW; have NEg1_g3 := zne hg BKg1; have NEg2_g3 := zne hg BKg2; replace HW := zW HW hb; replace OPd := zo OPd hb; replace BKg1 := zb BKg1 hb; replace BKg2 := zb BKg2 hb; have BKg3 := Aside0.mk hbox; clear hb hbox hg; (try clear z2_g10 z2_g20); have z3_g10 := zC BKg1; have z3_g20 := zC BKg2; have z3_g30 := zC BKg3)
    | ((with_reducible refine zH 38 6 rfl ?_); refine zSto 38 6 #[.int .i64 y, .int .i64 mo, .int .i64 d] BKg3 ?_; intro w4 hw; replace HW := zWS hw GEg3 HW; replace OPd := Aside0.mk (Opd.setRow' hw (by decide) (Nat.le_trans HZ.out GEg3.out) BKg3.out OPd.out); replace BKg1 := zfar hw (by first | exact NEg1_g3.out | exact NEg3_g1.out.symm) BKg1; replace BKg2 := zfar hw (by first | exact NEg2_g3.out | exact NEg3_g2.out.symm) BKg2; replace BKg3 := znew hw BKg3; clear hw; (try clear z3_g10 z3_g20 z3_g30); have z4_g10 := zC BKg1; have z4_g20 := zC BKg2; have z4_g30 := zC BKg3)
    | (go_at_call 56; (with_reducible refine (isDate_b m0 m1 m2 OPd.out y mo d false HD.out).mono ?_); rintro e w5 ⟨rfl, hb⟩; replace HW := zW HW hb; replace OPd := zo OPd hb; replace BKg1 := zb BKg1 hb; replace BKg2 := zb BKg2 hb; replace BKg3 := zb BKg3 hb; clear hb; (try clear z4_g10 z4_g20 z4_g30); have z5_g10 := zC BKg1; have z5_g20 := zC BKg2; have z5_g30 := zC BKg3))
  go_ret2
  exact ⟨rfl, HW.out⟩
set_option maxHeartbeats 8000000 in
set_option maxRecDepth 100000 in
theorem ask_weekday_is {ep : Int} {A : Option Addr} {c : Nat} {cs F : List Int} {a5 : Addr} {c5 mb : Nat} {w W : World} (m0 m1 m2 : Int) (h : Opd ep A c cs F a5 c5 mb w W) (y : Int) (h0 : 0 ≤ y) (h1 : y ≤ 4000) (k mo d v : Int) (hd : dateB cs y mo d = true) :
    Calls Tryz.prog 100 #[.agg #[.int .i64 ep, .slice A cs.length c, .int .i64 m0, .int .i64 m1, .int .i64 m2, .slice (some a5) F.length c5, .map (some mb), .int .i64 y], .agg #[.int .i64 k, .int .i64 mo, .int .i64 d, .int .i64 v]] W fun e w' => e = .returned (.int .i64 (wday (dayOf ep cs y mo d))) ∧ Below W.heap.size W w' := by
  have hu38 := Tryz.underlying38
  have hu45 := Tryz.underlying45
  have hu83 := Tryz.underlying83
  have hu74 := Tryz.underlying74
  have hu108 := Tryz.underlying108
  have HZ := Aside0.mk h.b.size
  have HCB := Aside0.mk (calB_iff h.cal)
  have OPd := Aside0.mk h
  have HW := Aside0.mk (Below.refl W.heap.size W)
  have Y0 := Aside0.mk h0
  have Y1 := Aside0.mk h1
  clear h
  have HDB := Aside0.mk (show 0 ≤ y ∧ y ≤ 4000 ∧ 1 ≤ mo ∧ mo ≤ 12 ∧ 1 ≤ d ∧ d ≤ 31 from have h := dateB_iff hd; ⟨h.1, h.2.1, h.2.2.1, h.2.2.2.1, h.2.2.2.2.1, Int.le_trans h.2.2.2.2.2 (mlist_rd _ _).2⟩)
  have HD := Aside0.mk hd
  clear hd
  obtain ⟨D, hD⟩ : ∃ D, dayOf ep cs y mo d = D := ⟨_, rfl⟩
  have HDD := Aside0.mk (show 0 ≤ D ∧ D ≤ 1467000 by have hb := HDB.out; have a := fday_bd ep cs y.toNat ⟨HCB.out.1, HCB.out.2.1⟩ (by omega); have b := mbefore_bd cs y mo; rw [← hD]; unfold dayOf; omega)
  have HDO := Aside0.mk hD
  clear hD
  go_enter Tryz.func100, Tryz.ntmps100
  go_wp2_with (first
    | ((with_reducible refine zG 2 rfl ?_); refine zBox 2 #[.int .i64 ep, .slice A cs.length c, .int .i64 m0, .int .i64 m1, .int .i64 m2, .slice (some a5) F.length c5, .map (some mb), .int .i64 y] 108 ?_; intro g1 hg w1 hbox hb; have GEg1 := zge hg HW; replace HW := zW HW hb; replace OPd := zo OPd hb; have BKg1 := Aside0.mk hbox; clear hb hbox hg; have z1_g10 := zC BKg1)
    | ((with_reducible refine zG 3 rfl ?_); refine zBox 3 #[.int .i64 k, .int .i64 mo, .int .i64 d, .int .i64 v] 74 ?_; intro g2 hg w2 hbox hb; have GEg2 := zge hg HW; have NEg1_g2 := zne hg BKg1; replace HW := zW HW hb; replace OPd := zo OPd hb; replace BKg1 := zb BKg1 hb; have BKg2 := Aside0.mk hbox; clear hb hbox hg; (try clear z1_g10); have z2_g10 := zC BKg1; have z2_g20 := zC BKg2)
    | (go_at_call 112; (with_reducible refine (on_is m0 m1 m2 OPd.out y Y0.out Y1.out k mo d v HD.out).mono ?_); rintro e w3 ⟨rfl, hb⟩; replace HW := zW HW hb; replace OPd := zo OPd hb; replace BKg1 := zb BKg1 hb; replace BKg2 := zb BKg2 hb; clear hb; (try clear z2_g10 z2_g20); have z3_g10 := zC BKg1; have z3_g20 := zC BKg2; rw [HDO.out])
    | (go_at_call 49; (with_reducible refine (weekday_b D _ HDD.out.1 (by have := HDD.out; omega)).mono ?_); rintro e w4 ⟨rfl, hb⟩; replace HW := zW HW hb; replace OPd := zo OPd hb; replace BKg1 := zb BKg1 hb; replace BKg2 := zb BKg2 hb; clear hb; (try clear z3_g10 z3_g20); have z4_g10 := zC BKg1; have z4_g20 := zC BKg2))
  go_ret
  refine ⟨?_, HW.out⟩
  first | rfl | (rw [HDO.out]; first | done | rfl)
set_option maxHeartbeats 8000000 in
set_option maxRecDepth 100000 in
theorem ask_weekday_no {ep : Int} {A : Option Addr} {c : Nat} {cs F : List Int} {a5 : Addr} {c5 mb : Nat} {w W : World} (m0 m1 m2 : Int) (h : Opd ep A c cs F a5 c5 mb w W) (y : Int) (h0 : 0 ≤ y) (h1 : y ≤ 4000) (k mo d v : Int) (hd : dateB cs y mo d = false) :
    Calls Tryz.prog 100 #[.agg #[.int .i64 ep, .slice A cs.length c, .int .i64 m0, .int .i64 m1, .int .i64 m2, .slice (some a5) F.length c5, .map (some mb), .int .i64 y], .agg #[.int .i64 k, .int .i64 mo, .int .i64 d, .int .i64 v]] W fun e w' => e = .returned (.int .i64 (-1)) ∧ Below W.heap.size W w' := by
  have hu38 := Tryz.underlying38
  have hu45 := Tryz.underlying45
  have hu83 := Tryz.underlying83
  have hu74 := Tryz.underlying74
  have hu108 := Tryz.underlying108
  have HZ := Aside0.mk h.b.size
  have HCB := Aside0.mk (calB_iff h.cal)
  have OPd := Aside0.mk h
  have HW := Aside0.mk (Below.refl W.heap.size W)
  have Y0 := Aside0.mk h0
  have Y1 := Aside0.mk h1
  clear h
  have HD := Aside0.mk hd
  clear hd
  go_enter Tryz.func100, Tryz.ntmps100
  go_wp2_with (first
    | ((with_reducible refine zG 2 rfl ?_); refine zBox 2 #[.int .i64 ep, .slice A cs.length c, .int .i64 m0, .int .i64 m1, .int .i64 m2, .slice (some a5) F.length c5, .map (some mb), .int .i64 y] 108 ?_; intro g1 hg w1 hbox hb; have GEg1 := zge hg HW; replace HW := zW HW hb; replace OPd := zo OPd hb; have BKg1 := Aside0.mk hbox; clear hb hbox hg; have z1_g10 := zC BKg1)
    | ((with_reducible refine zG 3 rfl ?_); refine zBox 3 #[.int .i64 k, .int .i64 mo, .int .i64 d, .int .i64 v] 74 ?_; intro g2 hg w2 hbox hb; have GEg2 := zge hg HW; have NEg1_g2 := zne hg BKg1; replace HW := zW HW hb; replace OPd := zo OPd hb; replace BKg1 := zb BKg1 hb; have BKg2 := Aside0.mk hbox; clear hb hbox hg; (try clear z1_g10); have z2_g10 := zC BKg1; have z2_g20 := zC BKg2)
    | (go_at_call 112; (with_reducible refine (on_no m0 m1 m2 OPd.out y Y0.out Y1.out k mo d v HD.out).mono ?_); rintro e w3 ⟨rfl, hb⟩; replace HW := zW HW hb; replace OPd := zo OPd hb; replace BKg1 := zb BKg1 hb; replace BKg2 := zb BKg2 hb; clear hb; (try clear z2_g10 z2_g20); have z3_g10 := zC BKg1; have z3_g20 := zC BKg2))
  go_ret
  refine ⟨?_, HW.out⟩
  first | rfl | (rw [HDO.out]; first | done | rfl)
set_option maxHeartbeats 8000000 in
set_option maxRecDepth 100000 in
theorem ask_age_is {ep : Int} {A : Option Addr} {c : Nat} {cs F : List Int} {a5 : Addr} {c5 mb : Nat} {w W : World} (m0 m1 m2 : Int) (h : Opd ep A c cs F a5 c5 mb w W) (hM : moonB m0 m1 m2 = true) (y : Int) (h0 : 0 ≤ y) (h1 : y ≤ 4000) (k mo d v : Int) (hd : dateB cs y mo d = true) :
    Calls Tryz.prog 101 #[.agg #[.int .i64 ep, .slice A cs.length c, .int .i64 m0, .int .i64 m1, .int .i64 m2, .slice (some a5) F.length c5, .map (some mb), .int .i64 y], .agg #[.int .i64 k, .int .i64 mo, .int .i64 d, .int .i64 v]] W fun e w' => e = .returned (.int .i64 (ageOf m0 m1 m2 (dayOf ep cs y mo d))) ∧ Below W.heap.size W w' := by
  have HM := Aside0.mk hM
  clear hM
  have hu38 := Tryz.underlying38
  have hu45 := Tryz.underlying45
  have hu83 := Tryz.underlying83
  have hu74 := Tryz.underlying74
  have hu108 := Tryz.underlying108
  have HZ := Aside0.mk h.b.size
  have HCB := Aside0.mk (calB_iff h.cal)
  have OPd := Aside0.mk h
  have HW := Aside0.mk (Below.refl W.heap.size W)
  have Y0 := Aside0.mk h0
  have Y1 := Aside0.mk h1
  clear h
  have HDB := Aside0.mk (show 0 ≤ y ∧ y ≤ 4000 ∧ 1 ≤ mo ∧ mo ≤ 12 ∧ 1 ≤ d ∧ d ≤ 31 from have h := dateB_iff hd; ⟨h.1, h.2.1, h.2.2.1, h.2.2.2.1, h.2.2.2.2.1, Int.le_trans h.2.2.2.2.2 (mlist_rd _ _).2⟩)
  have HD := Aside0.mk hd
  clear hd
  obtain ⟨D, hD⟩ : ∃ D, dayOf ep cs y mo d = D := ⟨_, rfl⟩
  have HDD := Aside0.mk (show 0 ≤ D ∧ D ≤ 1467000 by have hb := HDB.out; have a := fday_bd ep cs y.toNat ⟨HCB.out.1, HCB.out.2.1⟩ (by omega); have b := mbefore_bd cs y mo; rw [← hD]; unfold dayOf; omega)
  have HDO := Aside0.mk hD
  clear hD
  go_enter Tryz.func101, Tryz.ntmps101
  go_wp2_with (first
    | ((with_reducible refine zG 2 rfl ?_); refine zBox 2 #[.int .i64 ep, .slice A cs.length c, .int .i64 m0, .int .i64 m1, .int .i64 m2, .slice (some a5) F.length c5, .map (some mb), .int .i64 y] 108 ?_; intro g1 hg w1 hbox hb; have GEg1 := zge hg HW; replace HW := zW HW hb; replace OPd := zo OPd hb; have BKg1 := Aside0.mk hbox; clear hb hbox hg; have z1_g10 := zC BKg1)
    | ((with_reducible refine zG 3 rfl ?_); refine zBox 3 #[.int .i64 k, .int .i64 mo, .int .i64 d, .int .i64 v] 74 ?_; intro g2 hg w2 hbox hb; have GEg2 := zge hg HW; have NEg1_g2 := zne hg BKg1; replace HW := zW HW hb; replace OPd := zo OPd hb; replace BKg1 := zb BKg1 hb; have BKg2 := Aside0.mk hbox; clear hb hbox hg; (try clear z1_g10); have z2_g10 := zC BKg1; have z2_g20 := zC BKg2)
    | (go_at_call 112; (with_reducible refine (on_is m0 m1 m2 OPd.out y Y0.out Y1.out k mo d v HD.out).mono ?_); rintro e w3 ⟨rfl, hb⟩; replace HW := zW HW hb; replace OPd := zo OPd hb; replace BKg1 := zb BKg1 hb; replace BKg2 := zb BKg2 hb; clear hb; (try clear z2_g10 z2_g20); have z3_g10 := zC BKg1; have z3_g20 := zC BKg2; rw [HDO.out])
    | (go_at_call 60; (with_reducible refine (age_b HM.out D _ HDD.out.1 (by have := HDD.out; omega)).mono ?_); rintro e w4 ⟨rfl, hb⟩; replace HW := zW HW hb; replace OPd := zo OPd hb; replace BKg1 := zb BKg1 hb; replace BKg2 := zb BKg2 hb; clear hb; (try clear z3_g10 z3_g20); have z4_g10 := zC BKg1; have z4_g20 := zC BKg2))
  go_ret
  refine ⟨?_, HW.out⟩
  first | rfl | (rw [HDO.out]; first | done | rfl)
set_option maxHeartbeats 8000000 in
set_option maxRecDepth 100000 in
theorem ask_age_no {ep : Int} {A : Option Addr} {c : Nat} {cs F : List Int} {a5 : Addr} {c5 mb : Nat} {w W : World} (m0 m1 m2 : Int) (h : Opd ep A c cs F a5 c5 mb w W) (hM : moonB m0 m1 m2 = true) (y : Int) (h0 : 0 ≤ y) (h1 : y ≤ 4000) (k mo d v : Int) (hd : dateB cs y mo d = false) :
    Calls Tryz.prog 101 #[.agg #[.int .i64 ep, .slice A cs.length c, .int .i64 m0, .int .i64 m1, .int .i64 m2, .slice (some a5) F.length c5, .map (some mb), .int .i64 y], .agg #[.int .i64 k, .int .i64 mo, .int .i64 d, .int .i64 v]] W fun e w' => e = .returned (.int .i64 (-1)) ∧ Below W.heap.size W w' := by
  have HM := Aside0.mk hM
  clear hM
  have hu38 := Tryz.underlying38
  have hu45 := Tryz.underlying45
  have hu83 := Tryz.underlying83
  have hu74 := Tryz.underlying74
  have hu108 := Tryz.underlying108
  have HZ := Aside0.mk h.b.size
  have HCB := Aside0.mk (calB_iff h.cal)
  have OPd := Aside0.mk h
  have HW := Aside0.mk (Below.refl W.heap.size W)
  have Y0 := Aside0.mk h0
  have Y1 := Aside0.mk h1
  clear h
  have HD := Aside0.mk hd
  clear hd
  go_enter Tryz.func101, Tryz.ntmps101
  go_wp2_with (first
    | ((with_reducible refine zG 2 rfl ?_); refine zBox 2 #[.int .i64 ep, .slice A cs.length c, .int .i64 m0, .int .i64 m1, .int .i64 m2, .slice (some a5) F.length c5, .map (some mb), .int .i64 y] 108 ?_; intro g1 hg w1 hbox hb; have GEg1 := zge hg HW; replace HW := zW HW hb; replace OPd := zo OPd hb; have BKg1 := Aside0.mk hbox; clear hb hbox hg; have z1_g10 := zC BKg1)
    | ((with_reducible refine zG 3 rfl ?_); refine zBox 3 #[.int .i64 k, .int .i64 mo, .int .i64 d, .int .i64 v] 74 ?_; intro g2 hg w2 hbox hb; have GEg2 := zge hg HW; have NEg1_g2 := zne hg BKg1; replace HW := zW HW hb; replace OPd := zo OPd hb; replace BKg1 := zb BKg1 hb; have BKg2 := Aside0.mk hbox; clear hb hbox hg; (try clear z1_g10); have z2_g10 := zC BKg1; have z2_g20 := zC BKg2)
    | (go_at_call 112; (with_reducible refine (on_no m0 m1 m2 OPd.out y Y0.out Y1.out k mo d v HD.out).mono ?_); rintro e w3 ⟨rfl, hb⟩; replace HW := zW HW hb; replace OPd := zo OPd hb; replace BKg1 := zb BKg1 hb; replace BKg2 := zb BKg2 hb; clear hb; (try clear z2_g10 z2_g20); have z3_g10 := zC BKg1; have z3_g20 := zC BKg2))
  go_ret
  refine ⟨?_, HW.out⟩
  first | rfl | (rw [HDO.out]; first | done | rfl)
set_option maxHeartbeats 8000000 in
set_option maxRecDepth 100000 in
theorem ask_golden {ep : Int} {A : Option Addr} {c : Nat} {cs F : List Int} {a5 : Addr} {c5 mb : Nat} {w W : World} (m0 m1 m2 : Int) (h : Opd ep A c cs F a5 c5 mb w W) (y : Int) (h0 : 0 ≤ y) (h1 : y ≤ 4000) (k mo d v : Int) :
    Calls Tryz.prog 103 #[.agg #[.int .i64 ep, .slice A cs.length c, .int .i64 m0, .int .i64 m1, .int .i64 m2, .slice (some a5) F.length c5, .map (some mb), .int .i64 y], .agg #[.int .i64 k, .int .i64 mo, .int .i64 d, .int .i64 v]] W fun e w' => e = .returned (.int .i64 (y % 19 + 1)) ∧ Below W.heap.size W w' := by
  have hu38 := Tryz.underlying38
  have hu45 := Tryz.underlying45
  have hu83 := Tryz.underlying83
  have hu74 := Tryz.underlying74
  have hu108 := Tryz.underlying108
  have HZ := Aside0.mk h.b.size
  have HCB := Aside0.mk (calB_iff h.cal)
  have OPd := Aside0.mk h
  have HW := Aside0.mk (Below.refl W.heap.size W)
  have Y0 := Aside0.mk h0
  have Y1 := Aside0.mk h1
  clear h
  have g1_ : Int.tmod y 19 = y % 19 := Int.tmod_eq_emod_of_nonneg h0
  have g2_ : IntKind.i64.wrap (y % 19) = y % 19 := (i64_w _).trans (wrap_of _ (by omega) (by omega))
  have g3_ : IntKind.i64.wrap (y % 19 + 1) = y % 19 + 1 := (i64_w _).trans (wrap_of _ (by omega) (by omega))
  go_enter Tryz.func103, Tryz.ntmps103
  go_wp2_with (first
    | ((with_reducible refine zG 2 rfl ?_); refine zBox 2 #[.int .i64 ep, .slice A cs.length c, .int .i64 m0, .int .i64 m1, .int .i64 m2, .slice (some a5) F.length c5, .map (some mb), .int .i64 y] 108 ?_; intro g1 hg w1 hbox hb; have GEg1 := zge hg HW; replace HW := zW HW hb; replace OPd := zo OPd hb; have BKg1 := Aside0.mk hbox; clear hb hbox hg; have z1_g10 := zC BKg1)
    | ((with_reducible refine zG 3 rfl ?_); refine zBox 3 #[.int .i64 k, .int .i64 mo, .int .i64 d, .int .i64 v] 74 ?_; intro g2 hg w2 hbox hb; have GEg2 := zge hg HW; have NEg1_g2 := zne hg BKg1; replace HW := zW HW hb; replace OPd := zo OPd hb; replace BKg1 := zb BKg1 hb; have BKg2 := Aside0.mk hbox; clear hb hbox hg; (try clear z1_g10); have z2_g10 := zC BKg1; have z2_g20 := zC BKg2)
    | fail)
  go_ret
  refine ⟨?_, HW.out⟩
  first | rfl | (simp; done)
set_option maxHeartbeats 8000000 in
set_option maxRecDepth 100000 in
theorem ask_length {ep : Int} {A : Option Addr} {c : Nat} {cs F : List Int} {a5 : Addr} {c5 mb : Nat} {w W : World} (m0 m1 m2 : Int) (h : Opd ep A c cs F a5 c5 mb w W) (y : Int) (h0 : 0 ≤ y) (h1 : y ≤ 4000) (k mo d v : Int) :
    Calls Tryz.prog 104 #[.agg #[.int .i64 ep, .slice A cs.length c, .int .i64 m0, .int .i64 m1, .int .i64 m2, .slice (some a5) F.length c5, .map (some mb), .int .i64 y], .agg #[.int .i64 k, .int .i64 mo, .int .i64 d, .int .i64 v]] W fun e w' => e = .returned (.int .i64 (ylen cs y)) ∧ Below W.heap.size W w' := by
  have hu38 := Tryz.underlying38
  have hu45 := Tryz.underlying45
  have hu83 := Tryz.underlying83
  have hu74 := Tryz.underlying74
  have hu108 := Tryz.underlying108
  have HZ := Aside0.mk h.b.size
  have HCB := Aside0.mk (calB_iff h.cal)
  have OPd := Aside0.mk h
  have HW := Aside0.mk (Below.refl W.heap.size W)
  have Y0 := Aside0.mk h0
  have Y1 := Aside0.mk h1
  clear h
  go_enter Tryz.func104, Tryz.ntmps104
  go_wp2_with (first
    | ((with_reducible refine zG 2 rfl ?_); refine zBox 2 #[.int .i64 ep, .slice A cs.length c, .int .i64 m0, .int .i64 m1, .int .i64 m2, .slice (some a5) F.length c5, .map (some mb), .int .i64 y] 108 ?_; intro g1 hg w1 hbox hb; have GEg1 := zge hg HW; replace HW := zW HW hb; replace OPd := zo OPd hb; have BKg1 := Aside0.mk hbox; clear hb hbox hg; have z1_g10 := zC BKg1)
    | ((with_reducible refine zG 3 rfl ?_); refine zBox 3 #[.int .i64 k, .int .i64 mo, .int .i64 d, .int .i64 v] 74 ?_; intro g2 hg w2 hbox hb; have GEg2 := zge hg HW; have NEg1_g2 := zne hg BKg1; replace HW := zW HW hb; replace OPd := zo OPd hb; replace BKg1 := zb BKg1 hb; have BKg2 := Aside0.mk hbox; clear hb hbox hg; (try clear z1_g10); have z2_g10 := zC BKg1; have z2_g20 := zC BKg2)
    | (go_at_call 84; (with_reducible refine (days_b m0 m1 m2 OPd.out y).mono ?_); rintro e w3 ⟨rfl, hb⟩; replace HW := zW HW hb; replace OPd := zo OPd hb; replace BKg1 := zb BKg1 hb; replace BKg2 := zb BKg2 hb; clear hb; (try clear z2_g10 z2_g20); have z3_g10 := zC BKg1; have z3_g20 := zC BKg2))
  go_ret
  refine ⟨?_, HW.out⟩
  first | rfl | (simp; done)
set_option maxHeartbeats 8000000 in
set_option maxRecDepth 100000 in
theorem ask_feast_is {ep : Int} {A : Option Addr} {c : Nat} {cs F : List Int} {a5 : Addr} {c5 mb : Nat} {w W : World} (m0 m1 m2 : Int) (h : Opd ep A c cs F a5 c5 mb w W) (hE : EOk (sundayOf ep cs m0 m1 m2) mb W) (hM : moonB m0 m1 m2 = true) (y : Int) (h0 : 0 ≤ y) (h1 : y ≤ 4000) (k mo d v : Int) (hd : dateB cs y mo d = true) :
    Calls Tryz.prog 102 #[.agg #[.int .i64 ep, .slice A cs.length c, .int .i64 m0, .int .i64 m1, .int .i64 m2, .slice (some a5) F.length c5, .map (some mb), .int .i64 y], .agg #[.int .i64 k, .int .i64 mo, .int .i64 d, .int .i64 v]] W fun e w' => e = .returned (.int .i64 (eqI (dayOf ep cs y mo d) (sundayOf ep cs m0 m1 m2 y))) ∧ EOk (sundayOf ep cs m0 m1 m2) mb w' ∧ W.grownBy w' (some mb) := by
  have HM := Aside0.mk hM
  clear hM
  have EOx := Aside0.mk hE
  clear hE
  have hu38 := Tryz.underlying38
  have hu45 := Tryz.underlying45
  have hu83 := Tryz.underlying83
  have hu74 := Tryz.underlying74
  have hu108 := Tryz.underlying108
  have HZ := Aside0.mk h.b.size
  have HCB := Aside0.mk (calB_iff h.cal)
  have OPd := Aside0.mk h
  have HW := Aside0.mk (Below.refl W.heap.size W)
  have Y0 := Aside0.mk h0
  have Y1 := Aside0.mk h1
  clear h
  have HDB := Aside0.mk (show 0 ≤ y ∧ y ≤ 4000 ∧ 1 ≤ mo ∧ mo ≤ 12 ∧ 1 ≤ d ∧ d ≤ 31 from have h := dateB_iff hd; ⟨h.1, h.2.1, h.2.2.1, h.2.2.2.1, h.2.2.2.2.1, Int.le_trans h.2.2.2.2.2 (mlist_rd _ _).2⟩)
  have HD := Aside0.mk hd
  clear hd
  obtain ⟨D, hD⟩ : ∃ D, dayOf ep cs y mo d = D := ⟨_, rfl⟩
  have HDD := Aside0.mk (show 0 ≤ D ∧ D ≤ 1467000 by have hb := HDB.out; have a := fday_bd ep cs y.toNat ⟨HCB.out.1, HCB.out.2.1⟩ (by omega); have b := mbefore_bd cs y mo; rw [← hD]; unfold dayOf; omega)
  have HDO := Aside0.mk hD
  clear hD
  obtain ⟨S, hS⟩ : ∃ S, sundayOf ep cs m0 m1 m2 y = S := ⟨_, rfl⟩
  have HS := Aside0.mk hS
  clear hS
  by_cases hq : D = S
  · have q1 : (D == S) = true := beq_iff_eq.mpr hq
    have q2 : decide (D = S) = true := decide_eq_true hq
    have HQ := Aside0.mk (show eqI D S = 1 by unfold eqI; simp [hq])
    clear hq
    go_enter Tryz.func102, Tryz.ntmps102
    go_wp2_with (first
      | ((with_reducible refine zG 2 rfl ?_); refine zBox 2 #[.int .i64 ep, .slice A cs.length c, .int .i64 m0, .int .i64 m1, .int .i64 m2, .slice (some a5) F.length c5, .map (some mb), .int .i64 y] 108 ?_; intro g1 hg w1 hbox hb; have GEg1 := zge hg HW; replace HW := zW HW hb; replace OPd := zo OPd hb; replace EOx := Aside0.mk (by first | exact EOx.out.below hb | exact EOx.out.belowD hb); have BKg1 := Aside0.mk hbox; clear hb hbox hg; have z1_g10 := zC BKg1)
      | ((with_reducible refine zG 3 rfl ?_); refine zBox 3 #[.int .i64 k, .int .i64 mo, .int .i64 d, .int .i64 v] 74 ?_; intro g2 hg w2 hbox hb; have GEg2 := zge hg HW; have NEg1_g2 := zne hg BKg1; replace HW := zW HW hb; replace OPd := zo OPd hb; replace EOx := Aside0.mk (by first | exact EOx.out.below hb | exact EOx.out.belowD hb); replace BKg1 := zb BKg1 hb; have BKg2 := Aside0.mk hbox; clear hb hbox hg; (try clear z1_g10); have z2_g10 := zC BKg1; have z2_g20 := zC BKg2)
      | (go_at_call 112; (with_reducible refine (on_is m0 m1 m2 OPd.out y Y0.out Y1.out k mo d v HD.out).mono ?_); rintro e w3 ⟨rfl, hb⟩; replace HW := zW HW hb; replace OPd := zo OPd hb; replace EOx := Aside0.mk (by first | exact EOx.out.below hb | exact EOx.out.belowD hb); replace BKg1 := zb BKg1 hb; replace BKg2 := zb BKg2 hb; clear hb; (try clear z2_g10 z2_g20); have z3_g10 := zC BKg1; have z3_g20 := zC BKg2; rw [HDO.out])
      | (go_at_call 71; (with_reducible refine (sunday_b m0 m1 m2 OPd.out EOx.out HM.out y Y0.out Y1.out).mono ?_); rintro e w4 ⟨rfl, he, hg⟩; rw [HS.out]; have HG := Aside0.mk (grown_thenA HW.out hg); clear EOx HW OPd; have EOx := Aside0.mk he; clear he hg))
    go_ret
    exact ⟨by rw [HDO.out, HS.out, HQ.out]; first | done | rfl, EOx.out, HG.out⟩
  · have q1 : (D == S) = false := beq_eq_false_iff_ne.mpr hq
    have q2 : decide (D = S) = false := decide_eq_false hq
    have HQ := Aside0.mk (show eqI D S = 0 by unfold eqI; simp [hq])
    clear hq
    go_enter Tryz.func102, Tryz.ntmps102
    go_wp2_with (first
      | ((with_reducible refine zG 2 rfl ?_); refine zBox 2 #[.int .i64 ep, .slice A cs.length c, .int .i64 m0, .int .i64 m1, .int .i64 m2, .slice (some a5) F.length c5, .map (some mb), .int .i64 y] 108 ?_; intro g1 hg w1 hbox hb; have GEg1 := zge hg HW; replace HW := zW HW hb; replace OPd := zo OPd hb; replace EOx := Aside0.mk (by first | exact EOx.out.below hb | exact EOx.out.belowD hb); have BKg1 := Aside0.mk hbox; clear hb hbox hg; have z1_g10 := zC BKg1)
      | ((with_reducible refine zG 3 rfl ?_); refine zBox 3 #[.int .i64 k, .int .i64 mo, .int .i64 d, .int .i64 v] 74 ?_; intro g2 hg w2 hbox hb; have GEg2 := zge hg HW; have NEg1_g2 := zne hg BKg1; replace HW := zW HW hb; replace OPd := zo OPd hb; replace EOx := Aside0.mk (by first | exact EOx.out.below hb | exact EOx.out.belowD hb); replace BKg1 := zb BKg1 hb; have BKg2 := Aside0.mk hbox; clear hb hbox hg; (try clear z1_g10); have z2_g10 := zC BKg1; have z2_g20 := zC BKg2)
      | (go_at_call 112; (with_reducible refine (on_is m0 m1 m2 OPd.out y Y0.out Y1.out k mo d v HD.out).mono ?_); rintro e w3 ⟨rfl, hb⟩; replace HW := zW HW hb; replace OPd := zo OPd hb; replace EOx := Aside0.mk (by first | exact EOx.out.below hb | exact EOx.out.belowD hb); replace BKg1 := zb BKg1 hb; replace BKg2 := zb BKg2 hb; clear hb; (try clear z2_g10 z2_g20); have z3_g10 := zC BKg1; have z3_g20 := zC BKg2; rw [HDO.out])
      | (go_at_call 71; (with_reducible refine (sunday_b m0 m1 m2 OPd.out EOx.out HM.out y Y0.out Y1.out).mono ?_); rintro e w4 ⟨rfl, he, hg⟩; rw [HS.out]; have HG := Aside0.mk (grown_thenA HW.out hg); clear EOx HW OPd; have EOx := Aside0.mk he; clear he hg))
    go_ret
    exact ⟨by rw [HDO.out, HS.out, HQ.out]; first | done | rfl, EOx.out, HG.out⟩
set_option maxHeartbeats 8000000 in
set_option maxRecDepth 100000 in
theorem ask_feast_no {ep : Int} {A : Option Addr} {c : Nat} {cs F : List Int} {a5 : Addr} {c5 mb : Nat} {w W : World} (m0 m1 m2 : Int) (h : Opd ep A c cs F a5 c5 mb w W) (hE : EOk (sundayOf ep cs m0 m1 m2) mb W) (hM : moonB m0 m1 m2 = true) (y : Int) (h0 : 0 ≤ y) (h1 : y ≤ 4000) (k mo d v : Int) (hd : dateB cs y mo d = false) :
    Calls Tryz.prog 102 #[.agg #[.int .i64 ep, .slice A cs.length c, .int .i64 m0, .int .i64 m1, .int .i64 m2, .slice (some a5) F.length c5, .map (some mb), .int .i64 y], .agg #[.int .i64 k, .int .i64 mo, .int .i64 d, .int .i64 v]] W fun e w' => e = .returned (.int .i64 (0)) ∧ EOk (sundayOf ep cs m0 m1 m2) mb w' ∧ W.grownBy w' (some mb) := by
  have HM := Aside0.mk hM
  clear hM
  have EOx := Aside0.mk hE
  clear hE
  have hu38 := Tryz.underlying38
  have hu45 := Tryz.underlying45
  have hu83 := Tryz.underlying83
  have hu74 := Tryz.underlying74
  have hu108 := Tryz.underlying108
  have HZ := Aside0.mk h.b.size
  have HCB := Aside0.mk (calB_iff h.cal)
  have OPd := Aside0.mk h
  have HW := Aside0.mk (Below.refl W.heap.size W)
  have Y0 := Aside0.mk h0
  have Y1 := Aside0.mk h1
  clear h
  have HD := Aside0.mk hd
  clear hd
  go_enter Tryz.func102, Tryz.ntmps102
  go_wp2_with (first
    | ((with_reducible refine zG 2 rfl ?_); refine zBox 2 #[.int .i64 ep, .slice A cs.length c, .int .i64 m0, .int .i64 m1, .int .i64 m2, .slice (some a5) F.length c5, .map (some mb), .int .i64 y] 108 ?_; intro g1 hg w1 hbox hb; have GEg1 := zge hg HW; replace HW := zW HW hb; replace OPd := zo OPd hb; replace EOx := Aside0.mk (by first | exact EOx.out.below hb | exact EOx.out.belowD hb); have BKg1 := Aside0.mk hbox; clear hb hbox hg; have z1_g10 := zC BKg1)
    | ((with_reducible refine zG 3 rfl ?_); refine zBox 3 #[.int .i64 k, .int .i64 mo, .int .i64 d, .int .i64 v] 74 ?_; intro g2 hg w2 hbox hb; have GEg2 := zge hg HW; have NEg1_g2 := zne hg BKg1; replace HW := zW HW hb; replace OPd := zo OPd hb; replace EOx := Aside0.mk (by first | exact EOx.out.below hb | exact EOx.out.belowD hb); replace BKg1 := zb BKg1 hb; have BKg2 := Aside0.mk hbox; clear hb hbox hg; (try clear z1_g10); have z2_g10 := zC BKg1; have z2_g20 := zC BKg2)
    | (go_at_call 112; (with_reducible refine (on_no m0 m1 m2 OPd.out y Y0.out Y1.out k mo d v HD.out).mono ?_); rintro e w3 ⟨rfl, hb⟩; replace HW := zW HW hb; replace OPd := zo OPd hb; replace EOx := Aside0.mk (by first | exact EOx.out.below hb | exact EOx.out.belowD hb); replace BKg1 := zb BKg1 hb; replace BKg2 := zb BKg2 hb; clear hb; (try clear z2_g10 z2_g20); have z3_g10 := zC BKg1; have z3_g20 := zC BKg2))
  go_ret
  exact ⟨rfl, EOx.out, grown_of_below HW.out _⟩
end Go.Proofs.YtnllidgonghckaaGreatDoor.X
namespace Go.Proofs.YtnllidgonghckaaGreatDoor.X
open Go.RowKit Go.Proofs.YtnllidgonghckaaGreatDoorW.PrintWords Go.Proofs.YtnllidgonghckaaGreatDoorW.PrintLast Go.Proofs.YtnllidgonghckaaGreatDoorW.PrintMore Go.Proofs.YtnllidgonghckaaGreatDoor.Dm
set_option linter.unusedVariables false
set_option linter.unusedSimpArgs false
attribute [local go_sem] max2_int min2_int max_two min_two max_three min_three max_four min_four
theorem goesV_ {P : Program} {ops : Array Oper} {Q : Exit → Act → World → Prop} {oi : Oper} {N : Option Tmp} {a : Act} {w : World} {K : Act → World → Prop} {f : FuncId} {fn : Func} {as_ : Array Operand} {ts : Array TypeId} (hf : P.funcs[f]? = some fn) (hname : (fn.name == "runtime.NumGoroutine") = false) (hb : fn.body.isSome = true) (x : Operand) (first caps args : Array Value)
    (hw : Region.wanted oi (yielded ops a.tmps) = true) (hN : oi.dst = N) (hop : oi.op = .call { callee := .value x, args := as_, argTypes := ts }) (hx : a.eval x = .func (.func f) first caps) (hargs : first ++ as_.map a.eval ++ caps = args)
    (h : Calls P f args w fun e w' => ∃ v, e = .returned v ∧ K (a.put N v) w') : if Region.wanted oi (yielded ops a.tmps) = true then Oper.wp P oi a w K Q else K (a.put N undef) w := by
  refine call_ f args hw hN ?_ h
  have he := enters_ hf hname hb args w
  unfold execOp
  simp [hop, resolve, hx, Deferred.ofValue, invoke, hargs, he]
def ansOf (ep : Int) (cs : List Int) (m0 m1 m2 y k mo d : Int) : Int :=
  if k = 1 then (if dateB cs y mo d = true then wday (dayOf ep cs y mo d) else -1) else if k = 2 then (if dateB cs y mo d = true then ageOf m0 m1 m2 (dayOf ep cs y mo d) else -1) else if k = 3 then (if dateB cs y mo d = true then eqI (dayOf ep cs y mo d) (sundayOf ep cs m0 m1 m2 y) else 0) else if k = 4 then y % 19 + 1 else ylen cs y
theorem method_1 {ep : Int} {A : Option Addr} {c : Nat} {cs F : List Int} {a5 : Addr} {c5 mb : Nat} {w W : World} (m0 m1 m2 : Int) (h : Opd ep A c cs F a5 c5 mb w W) (hE : EOk (sundayOf ep cs m0 m1 m2) mb W) (hM : moonB m0 m1 m2 = true) (y : Int) (h0 : 0 ≤ y) (h1 : y ≤ 4000) (mo d v : Int) :
    Calls Tryz.prog 100 #[.agg #[.int .i64 ep, .slice A cs.length c, .int .i64 m0, .int .i64 m1, .int .i64 m2, .slice (some a5) F.length c5, .map (some mb), .int .i64 y], .agg #[.int .i64 1, .int .i64 mo, .int .i64 d, .int .i64 v]] W fun e w' => e = .returned (.int .i64 (ansOf ep cs m0 m1 m2 y 1 mo d)) ∧ EOk (sundayOf ep cs m0 m1 m2) mb w' ∧ W.grownBy w' (some mb) := by
  cases hd : dateB cs y mo d with
  | true => exact (ask_weekday_is m0 m1 m2 h y h0 h1 1 mo d v hd).mono fun e w' hh => ⟨by rw [hh.1]; congr 2; unfold ansOf; simp [hd], hE.below hh.2, grown_of_below hh.2 _⟩
  | false => exact (ask_weekday_no m0 m1 m2 h y h0 h1 1 mo d v hd).mono fun e w' hh => ⟨by rw [hh.1]; congr 2; unfold ansOf; simp [hd], hE.below hh.2, grown_of_below hh.2 _⟩
theorem method_2 {ep : Int} {A : Option Addr} {c : Nat} {cs F : List Int} {a5 : Addr} {c5 mb : Nat} {w W : World} (m0 m1 m2 : Int) (h : Opd ep A c cs F a5 c5 mb w W) (hE : EOk (sundayOf ep cs m0 m1 m2) mb W) (hM : moonB m0 m1 m2 = true) (y : Int) (h0 : 0 ≤ y) (h1 : y ≤ 4000) (mo d v : Int) :
    Calls Tryz.prog 101 #[.agg #[.int .i64 ep, .slice A cs.length c, .int .i64 m0, .int .i64 m1, .int .i64 m2, .slice (some a5) F.length c5, .map (some mb), .int .i64 y], .agg #[.int .i64 2, .int .i64 mo, .int .i64 d, .int .i64 v]] W fun e w' => e = .returned (.int .i64 (ansOf ep cs m0 m1 m2 y 2 mo d)) ∧ EOk (sundayOf ep cs m0 m1 m2) mb w' ∧ W.grownBy w' (some mb) := by
  cases hd : dateB cs y mo d with
  | true => exact (ask_age_is m0 m1 m2 h hM y h0 h1 2 mo d v hd).mono fun e w' hh => ⟨by rw [hh.1]; congr 2; unfold ansOf; simp [hd], hE.below hh.2, grown_of_below hh.2 _⟩
  | false => exact (ask_age_no m0 m1 m2 h hM y h0 h1 2 mo d v hd).mono fun e w' hh => ⟨by rw [hh.1]; congr 2; unfold ansOf; simp [hd], hE.below hh.2, grown_of_below hh.2 _⟩
theorem method_3 {ep : Int} {A : Option Addr} {c : Nat} {cs F : List Int} {a5 : Addr} {c5 mb : Nat} {w W : World} (m0 m1 m2 : Int) (h : Opd ep A c cs F a5 c5 mb w W) (hE : EOk (sundayOf ep cs m0 m1 m2) mb W) (hM : moonB m0 m1 m2 = true) (y : Int) (h0 : 0 ≤ y) (h1 : y ≤ 4000) (mo d v : Int) :
    Calls Tryz.prog 102 #[.agg #[.int .i64 ep, .slice A cs.length c, .int .i64 m0, .int .i64 m1, .int .i64 m2, .slice (some a5) F.length c5, .map (some mb), .int .i64 y], .agg #[.int .i64 3, .int .i64 mo, .int .i64 d, .int .i64 v]] W fun e w' => e = .returned (.int .i64 (ansOf ep cs m0 m1 m2 y 3 mo d)) ∧ EOk (sundayOf ep cs m0 m1 m2) mb w' ∧ W.grownBy w' (some mb) := by
  cases hd : dateB cs y mo d with
  | true => exact (ask_feast_is m0 m1 m2 h hE hM y h0 h1 3 mo d v hd).mono fun e w' hh => ⟨by rw [hh.1]; congr 2; unfold ansOf; simp [hd], hh.2⟩
  | false => exact (ask_feast_no m0 m1 m2 h hE hM y h0 h1 3 mo d v hd).mono fun e w' hh => ⟨by rw [hh.1]; congr 2; unfold ansOf; simp [hd], hh.2⟩
theorem method_4 {ep : Int} {A : Option Addr} {c : Nat} {cs F : List Int} {a5 : Addr} {c5 mb : Nat} {w W : World} (m0 m1 m2 : Int) (h : Opd ep A c cs F a5 c5 mb w W) (hE : EOk (sundayOf ep cs m0 m1 m2) mb W) (hM : moonB m0 m1 m2 = true) (y : Int) (h0 : 0 ≤ y) (h1 : y ≤ 4000) (mo d v : Int) :
    Calls Tryz.prog 103 #[.agg #[.int .i64 ep, .slice A cs.length c, .int .i64 m0, .int .i64 m1, .int .i64 m2, .slice (some a5) F.length c5, .map (some mb), .int .i64 y], .agg #[.int .i64 4, .int .i64 mo, .int .i64 d, .int .i64 v]] W fun e w' => e = .returned (.int .i64 (ansOf ep cs m0 m1 m2 y 4 mo d)) ∧ EOk (sundayOf ep cs m0 m1 m2) mb w' ∧ W.grownBy w' (some mb) := by
  exact (ask_golden m0 m1 m2 h y h0 h1 4 mo d v).mono fun e w' hh => ⟨by rw [hh.1]; congr 2, hE.below hh.2, grown_of_below hh.2 _⟩
theorem method_5 {ep : Int} {A : Option Addr} {c : Nat} {cs F : List Int} {a5 : Addr} {c5 mb : Nat} {w W : World} (m0 m1 m2 : Int) (h : Opd ep A c cs F a5 c5 mb w W) (hE : EOk (sundayOf ep cs m0 m1 m2) mb W) (hM : moonB m0 m1 m2 = true) (y : Int) (h0 : 0 ≤ y) (h1 : y ≤ 4000) (mo d v : Int) :
    Calls Tryz.prog 104 #[.agg #[.int .i64 ep, .slice A cs.length c, .int .i64 m0, .int .i64 m1, .int .i64 m2, .slice (some a5) F.length c5, .map (some mb), .int .i64 y], .agg #[.int .i64 5, .int .i64 mo, .int .i64 d, .int .i64 v]] W fun e w' => e = .returned (.int .i64 (ansOf ep cs m0 m1 m2 y 5 mo d)) ∧ EOk (sundayOf ep cs m0 m1 m2) mb w' ∧ W.grownBy w' (some mb) := by
  exact (ask_length m0 m1 m2 h y h0 h1 5 mo d v).mono fun e w' hh => ⟨by rw [hh.1]; congr 2, hE.below hh.2, grown_of_below hh.2 _⟩
def Answer1.T : Bool × List (List Nat × List Nat) := (true, [([], []), ([0], [0]), ([], []), ([2], [2]), ([], []), ([4], [4]), ([], []), ([6], [6]), ([], []), ([8], [8]), ([1, 3, 5, 7, 9], [1, 3, 5, 7, 9]), ([], []), ([11], [11]), ([12], [12]), ([10, 13], [10, 13]), ([], []), ([14, 15], [14, 15]), ([16, 16, 0, 1, 2, 3, 4, 5, 6, 7, 8, 9, 10, 11, 12, 13, 14, 15, 16], [16])])
def Answer1.B : List Nat := [0, 1, 0, 4, 0, 16, 0, 64, 0, 256, 1023, 0, 2048, 6144, 16383, 0, 65535, 131071]
theorem Answer1.tab : rtab .any (opsOf Tryz.f80 1) = Answer1.T := by kernel_rfl
theorem Answer1.bits : waitsOk Answer1.T.2 Answer1.B = true := by kernel_rfl
set_option maxHeartbeats 8000000 in
set_option maxRecDepth 100000 in
theorem answer_1 {ep : Int} {A : Option Addr} {c : Nat} {cs F : List Int} {a5 : Addr} {c5 mb : Nat} {w W : World} (m0 m1 m2 : Int) (h : Opd ep A c cs F a5 c5 mb w W) (hE : EOk (sundayOf ep cs m0 m1 m2) mb W) (hM : moonB m0 m1 m2 = true) (y : Int) (h0 : 0 ≤ y) (h1 : y ≤ 4000) (mo d v : Int) :
    Calls Tryz.prog 80 #[.agg #[.int .i64 ep, .slice A cs.length c, .int .i64 m0, .int .i64 m1, .int .i64 m2, .slice (some a5) F.length c5, .map (some mb), .int .i64 y], .agg #[.int .i64 1, .int .i64 mo, .int .i64 d, .int .i64 v]] W fun e w' => e = .returned (.int .i64 (ansOf ep cs m0 m1 m2 y 1 mo d)) ∧ EOk (sundayOf ep cs m0 m1 m2) mb w' ∧ W.grownBy w' (some mb) := by
  have hu83 := Tryz.underlying83
  have hu74 := Tryz.underlying74
  have hu108 := Tryz.underlying108
  have hmf : ∀ (fn : Fn) (first cap : Array Value) (w : World), (Instr.makeFunc fn first cap).run Tryz.prog w = .ok (.func fn first cap) w := fun _ _ _ _ => rfl
  have HZ := Aside0.mk h.b.size
  have OPd := Aside0.mk h
  have EOx := Aside0.mk hE
  have HM := Aside0.mk hM
  have HW := Aside0.mk (Below.refl W.heap.size W)
  have Y0 := Aside0.mk h0
  have Y1 := Aside0.mk h1
  clear h hE hM
  have hix : ∀ w, (Instr.index 135 (.agg #[.func (.func 100) #[.agg #[.int .i64 ep, .slice A cs.length c, .int .i64 m0, .int .i64 m1, .int .i64 m2, .slice (some a5) F.length c5, .map (some mb), .int .i64 y]] #[], .func (.func 101) #[.agg #[.int .i64 ep, .slice A cs.length c, .int .i64 m0, .int .i64 m1, .int .i64 m2, .slice (some a5) F.length c5, .map (some mb), .int .i64 y]] #[], .func (.func 102) #[.agg #[.int .i64 ep, .slice A cs.length c, .int .i64 m0, .int .i64 m1, .int .i64 m2, .slice (some a5) F.length c5, .map (some mb), .int .i64 y]] #[], .func (.func 103) #[.agg #[.int .i64 ep, .slice A cs.length c, .int .i64 m0, .int .i64 m1, .int .i64 m2, .slice (some a5) F.length c5, .map (some mb), .int .i64 y]] #[], .func (.func 104) #[.agg #[.int .i64 ep, .slice A cs.length c, .int .i64 m0, .int .i64 m1, .int .i64 m2, .slice (some a5) F.length c5, .map (some mb), .int .i64 y]] #[]]) (.int .i64 (wrap64 0))).run Tryz.prog w = .ok (.func (.func 100) #[.agg #[.int .i64 ep, .slice A cs.length c, .int .i64 m0, .int .i64 m1, .int .i64 m2, .slice (some a5) F.length c5, .map (some mb), .int .i64 y]] #[]) w := fun w => by kernel_rfl
  go_enter Tryz.func80, Tryz.ntmps80
  go_wp2_with (first
    | ((with_reducible refine zG 2 rfl ?_); refine zBox 2 #[.int .i64 ep, .slice A cs.length c, .int .i64 m0, .int .i64 m1, .int .i64 m2, .slice (some a5) F.length c5, .map (some mb), .int .i64 y] 108 ?_; intro g1 hg w1 hbox hb; have GEg1 := zge hg HW; replace HW := zW HW hb; replace OPd := zo OPd hb; replace EOx := Aside0.mk (by first | exact EOx.out.below hb | exact EOx.out.belowD hb); have BKg1 := Aside0.mk hbox; clear hb hbox hg; have z1_g10 := zC BKg1)
    | ((with_reducible refine zG 3 rfl ?_); refine zBox 3 #[.int .i64 1, .int .i64 mo, .int .i64 d, .int .i64 v] 74 ?_; intro g2 hg w2 hbox hb; have GEg2 := zge hg HW; have NEg1_g2 := zne hg BKg1; replace HW := zW HW hb; replace OPd := zo OPd hb; replace EOx := Aside0.mk (by first | exact EOx.out.below hb | exact EOx.out.belowD hb); replace BKg1 := zb BKg1 hb; have BKg2 := Aside0.mk hbox; clear hb hbox hg; (try clear z1_g10); have z2_g10 := zC BKg1; have z2_g20 := zC BKg2))
  try go_wp2
  replace HW := zWD HW
  replace OPd := zoD OPd
  replace EOx := Aside0.mk (EOx.out.belowD (Below.refl _ _))
  replace BKg1 := zbD BKg1
  replace BKg2 := zbD BKg2
  refine zStart 18 (fun w' => zCells w' g1 0 [.int .i64 ep, .slice A cs.length c, .int .i64 m0, .int .i64 m1, .int .i64 m2, .slice (some a5) F.length c5, .map (some mb), .int .i64 y] ∧ zCells w' g2 0 [.int .i64 1, .int .i64 mo, .int .i64 d, .int .i64 v]) #[false, false, false, false, false, false, false, false, false, false, false, false, false, false, false, false, false, false] Answer1.tab Answer1.bits ⟨zS BKg1, zS BKg2⟩ (fun hHeld HT_ HW_ => ?_)
  generalize w2.drew = wd at HW OPd EOx BKg1 BKg2 hHeld ⊢
  refine zP 11 (some 16) HT_ ?_
  refine zT 0 (some 5) HT_ HW_ hHeld ?_
  refine zP 1 (some 6) HT_ ?_
  refine zT 2 (some 7) HT_ HW_ hHeld ?_
  refine zP 3 (some 8) HT_ ?_
  refine zT 4 (some 9) HT_ HW_ hHeld ?_
  refine zP 5 (some 10) HT_ ?_
  refine zT 6 (some 11) HT_ HW_ hHeld ?_
  refine zP 7 (some 12) HT_ ?_
  refine zT 8 (some 13) HT_ HW_ hHeld ?_
  refine zP 9 (some 14) HT_ ?_
  refine zP 10 (some 15) HT_ ?_
  refine zT 12 (some 17) HT_ HW_ hHeld ?_
  refine zP 13 (some 18) HT_ ?_
  refine zP 14 (some 19) HT_ ?_
  refine zT 15 (some 20) HT_ HW_ hHeld ?_
  refine one_ (i := 16) (N := some 21) #[true, true, true, true, true, true, true, true, true, true, true, true, true, true, true, true, true, false] rfl rfl (one_of HT_.out (by kernel_rfl)) (by decide) (fun K hK => ?_)
  refine goesV_ Tryz.func100 (by kernel_rfl) rfl (.tmp 19) #[.agg #[.int .i64 ep, .slice A cs.length c, .int .i64 m0, .int .i64 m1, .int .i64 m2, .slice (some a5) F.length c5, .map (some mb), .int .i64 y]] #[] #[.agg #[.int .i64 ep, .slice A cs.length c, .int .i64 m0, .int .i64 m1, .int .i64 m2, .slice (some a5) F.length c5, .map (some mb), .int .i64 y], .agg #[.int .i64 1, .int .i64 mo, .int .i64 d, .int .i64 v]] (by rfl) rfl rfl (by rfl) (by simp [Act.eval]) ?_
  with_reducible refine (method_1 m0 m1 m2 OPd.out EOx.out HM.out y Y0.out Y1.out mo d v).mono ?_
  rintro e ws ⟨rfl, he, hg⟩
  refine ⟨_, rfl, ?_⟩
  have n0_ := Aside0.mk (OPd.out.gr hg he.blk)
  have n1_ := Aside0.mk (blk_gr_cells BKg1.out EOx.out.blk hg)
  have n2_ := Aside0.mk (blk_gr_cells BKg2.out EOx.out.blk hg)
  have HG := Aside0.mk (grown_thenA HW.out hg)
  clear OPd BKg1 BKg2 HW EOx hHeld
  have OPd := n0_
  have BKg1 := n1_
  have BKg2 := n2_
  have EOx := Aside0.mk he
  clear n0_ n1_ n2_ he hg
  refine hK.out _ _ ⟨zS BKg1, zS BKg2⟩ (fun hHeld => ?_)
  clear hK K
  refine zN ?_
  refine zP 17 (some 4) HT_ ?_
  refine done_ (done_of HT_.out (by kernel_rfl)) ?_
  try go_wp2
  go_ret
  exact ⟨rfl, EOx.out, HG.out⟩
set_option maxHeartbeats 8000000 in
set_option maxRecDepth 100000 in
theorem answer_2 {ep : Int} {A : Option Addr} {c : Nat} {cs F : List Int} {a5 : Addr} {c5 mb : Nat} {w W : World} (m0 m1 m2 : Int) (h : Opd ep A c cs F a5 c5 mb w W) (hE : EOk (sundayOf ep cs m0 m1 m2) mb W) (hM : moonB m0 m1 m2 = true) (y : Int) (h0 : 0 ≤ y) (h1 : y ≤ 4000) (mo d v : Int) :
    Calls Tryz.prog 80 #[.agg #[.int .i64 ep, .slice A cs.length c, .int .i64 m0, .int .i64 m1, .int .i64 m2, .slice (some a5) F.length c5, .map (some mb), .int .i64 y], .agg #[.int .i64 2, .int .i64 mo, .int .i64 d, .int .i64 v]] W fun e w' => e = .returned (.int .i64 (ansOf ep cs m0 m1 m2 y 2 mo d)) ∧ EOk (sundayOf ep cs m0 m1 m2) mb w' ∧ W.grownBy w' (some mb) := by
  have hu83 := Tryz.underlying83
  have hu74 := Tryz.underlying74
  have hu108 := Tryz.underlying108
  have hmf : ∀ (fn : Fn) (first cap : Array Value) (w : World), (Instr.makeFunc fn first cap).run Tryz.prog w = .ok (.func fn first cap) w := fun _ _ _ _ => rfl
  have HZ := Aside0.mk h.b.size
  have OPd := Aside0.mk h
  have EOx := Aside0.mk hE
  have HM := Aside0.mk hM
  have HW := Aside0.mk (Below.refl W.heap.size W)
  have Y0 := Aside0.mk h0
  have Y1 := Aside0.mk h1
  clear h hE hM
  have hix : ∀ w, (Instr.index 135 (.agg #[.func (.func 100) #[.agg #[.int .i64 ep, .slice A cs.length c, .int .i64 m0, .int .i64 m1, .int .i64 m2, .slice (some a5) F.length c5, .map (some mb), .int .i64 y]] #[], .func (.func 101) #[.agg #[.int .i64 ep, .slice A cs.length c, .int .i64 m0, .int .i64 m1, .int .i64 m2, .slice (some a5) F.length c5, .map (some mb), .int .i64 y]] #[], .func (.func 102) #[.agg #[.int .i64 ep, .slice A cs.length c, .int .i64 m0, .int .i64 m1, .int .i64 m2, .slice (some a5) F.length c5, .map (some mb), .int .i64 y]] #[], .func (.func 103) #[.agg #[.int .i64 ep, .slice A cs.length c, .int .i64 m0, .int .i64 m1, .int .i64 m2, .slice (some a5) F.length c5, .map (some mb), .int .i64 y]] #[], .func (.func 104) #[.agg #[.int .i64 ep, .slice A cs.length c, .int .i64 m0, .int .i64 m1, .int .i64 m2, .slice (some a5) F.length c5, .map (some mb), .int .i64 y]] #[]]) (.int .i64 (wrap64 1))).run Tryz.prog w = .ok (.func (.func 101) #[.agg #[.int .i64 ep, .slice A cs.length c, .int .i64 m0, .int .i64 m1, .int .i64 m2, .slice (some a5) F.length c5, .map (some mb), .int .i64 y]] #[]) w := fun w => by kernel_rfl
  go_enter Tryz.func80, Tryz.ntmps80
  go_wp2_with (first
    | ((with_reducible refine zG 2 rfl ?_); refine zBox 2 #[.int .i64 ep, .slice A cs.length c, .int .i64 m0, .int .i64 m1, .int .i64 m2, .slice (some a5) F.length c5, .map (some mb), .int .i64 y] 108 ?_; intro g1 hg w1 hbox hb; have GEg1 := zge hg HW; replace HW := zW HW hb; replace OPd := zo OPd hb; replace EOx := Aside0.mk (by first | exact EOx.out.below hb | exact EOx.out.belowD hb); have BKg1 := Aside0.mk hbox; clear hb hbox hg; have z1_g10 := zC BKg1)
    | ((with_reducible refine zG 3 rfl ?_); refine zBox 3 #[.int .i64 2, .int .i64 mo, .int .i64 d, .int .i64 v] 74 ?_; intro g2 hg w2 hbox hb; have GEg2 := zge hg HW; have NEg1_g2 := zne hg BKg1; replace HW := zW HW hb; replace OPd := zo OPd hb; replace EOx := Aside0.mk (by first | exact EOx.out.below hb | exact EOx.out.belowD hb); replace BKg1 := zb BKg1 hb; have BKg2 := Aside0.mk hbox; clear hb hbox hg; (try clear z1_g10); have z2_g10 := zC BKg1; have z2_g20 := zC BKg2))
  try go_wp2
  replace HW := zWD HW
  replace OPd := zoD OPd
  replace EOx := Aside0.mk (EOx.out.belowD (Below.refl _ _))
  replace BKg1 := zbD BKg1
  replace BKg2 := zbD BKg2
  refine zStart 18 (fun w' => zCells w' g1 0 [.int .i64 ep, .slice A cs.length c, .int .i64 m0, .int .i64 m1, .int .i64 m2, .slice (some a5) F.length c5, .map (some mb), .int .i64 y] ∧ zCells w' g2 0 [.int .i64 2, .int .i64 mo, .int .i64 d, .int .i64 v]) #[false, false, false, false, false, false, false, false, false, false, false, false, false, false, false, false, false, false] Answer1.tab Answer1.bits ⟨zS BKg1, zS BKg2⟩ (fun hHeld HT_ HW_ => ?_)
  generalize w2.drew = wd at HW OPd EOx BKg1 BKg2 hHeld ⊢
  refine zP 11 (some 16) HT_ ?_
  refine zT 0 (some 5) HT_ HW_ hHeld ?_
  refine zP 1 (some 6) HT_ ?_
  refine zT 2 (some 7) HT_ HW_ hHeld ?_
  refine zP 3 (some 8) HT_ ?_
  refine zT 4 (some 9) HT_ HW_ hHeld ?_
  refine zP 5 (some 10) HT_ ?_
  refine zT 6 (some 11) HT_ HW_ hHeld ?_
  refine zP 7 (some 12) HT_ ?_
  refine zT 8 (some 13) HT_ HW_ hHeld ?_
  refine zP 9 (some 14) HT_ ?_
  refine zP 10 (some 15) HT_ ?_
  refine zT 12 (some 17) HT_ HW_ hHeld ?_
  refine zP 13 (some 18) HT_ ?_
  refine zP 14 (some 19) HT_ ?_
  refine zT 15 (some 20) HT_ HW_ hHeld ?_
  refine one_ (i := 16) (N := some 21) #[true, true, true, true, true, true, true, true, true, true, true, true, true, true, true, true, true, false] rfl rfl (one_of HT_.out (by kernel_rfl)) (by decide) (fun K hK => ?_)
  refine goesV_ Tryz.func101 (by kernel_rfl) rfl (.tmp 19) #[.agg #[.int .i64 ep, .slice A cs.length c, .int .i64 m0, .int .i64 m1, .int .i64 m2, .slice (some a5) F.length c5, .map (some mb), .int .i64 y]] #[] #[.agg #[.int .i64 ep, .slice A cs.length c, .int .i64 m0, .int .i64 m1, .int .i64 m2, .slice (some a5) F.length c5, .map (some mb), .int .i64 y], .agg #[.int .i64 2, .int .i64 mo, .int .i64 d, .int .i64 v]] (by rfl) rfl rfl (by rfl) (by simp [Act.eval]) ?_
  with_reducible refine (method_2 m0 m1 m2 OPd.out EOx.out HM.out y Y0.out Y1.out mo d v).mono ?_
  rintro e ws ⟨rfl, he, hg⟩
  refine ⟨_, rfl, ?_⟩
  have n0_ := Aside0.mk (OPd.out.gr hg he.blk)
  have n1_ := Aside0.mk (blk_gr_cells BKg1.out EOx.out.blk hg)
  have n2_ := Aside0.mk (blk_gr_cells BKg2.out EOx.out.blk hg)
  have HG := Aside0.mk (grown_thenA HW.out hg)
  clear OPd BKg1 BKg2 HW EOx hHeld
  have OPd := n0_
  have BKg1 := n1_
  have BKg2 := n2_
  have EOx := Aside0.mk he
  clear n0_ n1_ n2_ he hg
  refine hK.out _ _ ⟨zS BKg1, zS BKg2⟩ (fun hHeld => ?_)
  clear hK K
  refine zN ?_
  refine zP 17 (some 4) HT_ ?_
  refine done_ (done_of HT_.out (by kernel_rfl)) ?_
  try go_wp2
  go_ret
  exact ⟨rfl, EOx.out, HG.out⟩
set_option maxHeartbeats 8000000 in
set_option maxRecDepth 100000 in
theorem answer_3 {ep : Int} {A : Option Addr} {c : Nat} {cs F : List Int} {a5 : Addr} {c5 mb : Nat} {w W : World} (m0 m1 m2 : Int) (h : Opd ep A c cs F a5 c5 mb w W) (hE : EOk (sundayOf ep cs m0 m1 m2) mb W) (hM : moonB m0 m1 m2 = true) (y : Int) (h0 : 0 ≤ y) (h1 : y ≤ 4000) (mo d v : Int) :
    Calls Tryz.prog 80 #[.agg #[.int .i64 ep, .slice A cs.length c, .int .i64 m0, .int .i64 m1, .int .i64 m2, .slice (some a5) F.length c5, .map (some mb), .int .i64 y], .agg #[.int .i64 3, .int .i64 mo, .int .i64 d, .int .i64 v]] W fun e w' => e = .returned (.int .i64 (ansOf ep cs m0 m1 m2 y 3 mo d)) ∧ EOk (sundayOf ep cs m0 m1 m2) mb w' ∧ W.grownBy w' (some mb) := by
  have hu83 := Tryz.underlying83
  have hu74 := Tryz.underlying74
  have hu108 := Tryz.underlying108
  have hmf : ∀ (fn : Fn) (first cap : Array Value) (w : World), (Instr.makeFunc fn first cap).run Tryz.prog w = .ok (.func fn first cap) w := fun _ _ _ _ => rfl
  have HZ := Aside0.mk h.b.size
  have OPd := Aside0.mk h
  have EOx := Aside0.mk hE
  have HM := Aside0.mk hM
  have HW := Aside0.mk (Below.refl W.heap.size W)
  have Y0 := Aside0.mk h0
  have Y1 := Aside0.mk h1
  clear h hE hM
  have hix : ∀ w, (Instr.index 135 (.agg #[.func (.func 100) #[.agg #[.int .i64 ep, .slice A cs.length c, .int .i64 m0, .int .i64 m1, .int .i64 m2, .slice (some a5) F.length c5, .map (some mb), .int .i64 y]] #[], .func (.func 101) #[.agg #[.int .i64 ep, .slice A cs.length c, .int .i64 m0, .int .i64 m1, .int .i64 m2, .slice (some a5) F.length c5, .map (some mb), .int .i64 y]] #[], .func (.func 102) #[.agg #[.int .i64 ep, .slice A cs.length c, .int .i64 m0, .int .i64 m1, .int .i64 m2, .slice (some a5) F.length c5, .map (some mb), .int .i64 y]] #[], .func (.func 103) #[.agg #[.int .i64 ep, .slice A cs.length c, .int .i64 m0, .int .i64 m1, .int .i64 m2, .slice (some a5) F.length c5, .map (some mb), .int .i64 y]] #[], .func (.func 104) #[.agg #[.int .i64 ep, .slice A cs.length c, .int .i64 m0, .int .i64 m1, .int .i64 m2, .slice (some a5) F.length c5, .map (some mb), .int .i64 y]] #[]]) (.int .i64 (wrap64 2))).run Tryz.prog w = .ok (.func (.func 102) #[.agg #[.int .i64 ep, .slice A cs.length c, .int .i64 m0, .int .i64 m1, .int .i64 m2, .slice (some a5) F.length c5, .map (some mb), .int .i64 y]] #[]) w := fun w => by kernel_rfl
  go_enter Tryz.func80, Tryz.ntmps80
  go_wp2_with (first
    | ((with_reducible refine zG 2 rfl ?_); refine zBox 2 #[.int .i64 ep, .slice A cs.length c, .int .i64 m0, .int .i64 m1, .int .i64 m2, .slice (some a5) F.length c5, .map (some mb), .int .i64 y] 108 ?_; intro g1 hg w1 hbox hb; have GEg1 := zge hg HW; replace HW := zW HW hb; replace OPd := zo OPd hb; replace EOx := Aside0.mk (by first | exact EOx.out.below hb | exact EOx.out.belowD hb); have BKg1 := Aside0.mk hbox; clear hb hbox hg; have z1_g10 := zC BKg1)
    | ((with_reducible refine zG 3 rfl ?_); refine zBox 3 #[.int .i64 3, .int .i64 mo, .int .i64 d, .int .i64 v] 74 ?_; intro g2 hg w2 hbox hb; have GEg2 := zge hg HW; have NEg1_g2 := zne hg BKg1; replace HW := zW HW hb; replace OPd := zo OPd hb; replace EOx := Aside0.mk (by first | exact EOx.out.below hb | exact EOx.out.belowD hb); replace BKg1 := zb BKg1 hb; have BKg2 := Aside0.mk hbox; clear hb hbox hg; (try clear z1_g10); have z2_g10 := zC BKg1; have z2_g20 := zC BKg2))
  try go_wp2
  replace HW := zWD HW
  replace OPd := zoD OPd
  replace EOx := Aside0.mk (EOx.out.belowD (Below.refl _ _))
  replace BKg1 := zbD BKg1
  replace BKg2 := zbD BKg2
  refine zStart 18 (fun w' => zCells w' g1 0 [.int .i64 ep, .slice A cs.length c, .int .i64 m0, .int .i64 m1, .int .i64 m2, .slice (some a5) F.length c5, .map (some mb), .int .i64 y] ∧ zCells w' g2 0 [.int .i64 3, .int .i64 mo, .int .i64 d, .int .i64 v]) #[false, false, false, false, false, false, false, false, false, false, false, false, false, false, false, false, false, false] Answer1.tab Answer1.bits ⟨zS BKg1, zS BKg2⟩ (fun hHeld HT_ HW_ => ?_)
  generalize w2.drew = wd at HW OPd EOx BKg1 BKg2 hHeld ⊢
  refine zP 11 (some 16) HT_ ?_
  refine zT 0 (some 5) HT_ HW_ hHeld ?_
  refine zP 1 (some 6) HT_ ?_
  refine zT 2 (some 7) HT_ HW_ hHeld ?_
  refine zP 3 (some 8) HT_ ?_
  refine zT 4 (some 9) HT_ HW_ hHeld ?_
  refine zP 5 (some 10) HT_ ?_
  refine zT 6 (some 11) HT_ HW_ hHeld ?_
  refine zP 7 (some 12) HT_ ?_
  refine zT 8 (some 13) HT_ HW_ hHeld ?_
  refine zP 9 (some 14) HT_ ?_
  refine zP 10 (some 15) HT_ ?_
  refine zT 12 (some 17) HT_ HW_ hHeld ?_
  refine zP 13 (some 18) HT_ ?_
  refine zP 14 (some 19) HT_ ?_
  refine zT 15 (some 20) HT_ HW_ hHeld ?_
  refine one_ (i := 16) (N := some 21) #[true, true, true, true, true, true, true, true, true, true, true, true, true, true, true, true, true, false] rfl rfl (one_of HT_.out (by kernel_rfl)) (by decide) (fun K hK => ?_)
  refine goesV_ Tryz.func102 (by kernel_rfl) rfl (.tmp 19) #[.agg #[.int .i64 ep, .slice A cs.length c, .int .i64 m0, .int .i64 m1, .int .i64 m2, .slice (some a5) F.length c5, .map (some mb), .int .i64 y]] #[] #[.agg #[.int .i64 ep, .slice A cs.length c, .int .i64 m0, .int .i64 m1, .int .i64 m2, .slice (some a5) F.length c5, .map (some mb), .int .i64 y], .agg #[.int .i64 3, .int .i64 mo, .int .i64 d, .int .i64 v]] (by rfl) rfl rfl (by rfl) (by simp [Act.eval]) ?_
  with_reducible refine (method_3 m0 m1 m2 OPd.out EOx.out HM.out y Y0.out Y1.out mo d v).mono ?_
  rintro e ws ⟨rfl, he, hg⟩
  refine ⟨_, rfl, ?_⟩
  have n0_ := Aside0.mk (OPd.out.gr hg he.blk)
  have n1_ := Aside0.mk (blk_gr_cells BKg1.out EOx.out.blk hg)
  have n2_ := Aside0.mk (blk_gr_cells BKg2.out EOx.out.blk hg)
  have HG := Aside0.mk (grown_thenA HW.out hg)
  clear OPd BKg1 BKg2 HW EOx hHeld
  have OPd := n0_
  have BKg1 := n1_
  have BKg2 := n2_
  have EOx := Aside0.mk he
  clear n0_ n1_ n2_ he hg
  refine hK.out _ _ ⟨zS BKg1, zS BKg2⟩ (fun hHeld => ?_)
  clear hK K
  refine zN ?_
  refine zP 17 (some 4) HT_ ?_
  refine done_ (done_of HT_.out (by kernel_rfl)) ?_
  try go_wp2
  go_ret
  exact ⟨rfl, EOx.out, HG.out⟩
set_option maxHeartbeats 8000000 in
set_option maxRecDepth 100000 in
theorem answer_4 {ep : Int} {A : Option Addr} {c : Nat} {cs F : List Int} {a5 : Addr} {c5 mb : Nat} {w W : World} (m0 m1 m2 : Int) (h : Opd ep A c cs F a5 c5 mb w W) (hE : EOk (sundayOf ep cs m0 m1 m2) mb W) (hM : moonB m0 m1 m2 = true) (y : Int) (h0 : 0 ≤ y) (h1 : y ≤ 4000) (mo d v : Int) :
    Calls Tryz.prog 80 #[.agg #[.int .i64 ep, .slice A cs.length c, .int .i64 m0, .int .i64 m1, .int .i64 m2, .slice (some a5) F.length c5, .map (some mb), .int .i64 y], .agg #[.int .i64 4, .int .i64 mo, .int .i64 d, .int .i64 v]] W fun e w' => e = .returned (.int .i64 (ansOf ep cs m0 m1 m2 y 4 mo d)) ∧ EOk (sundayOf ep cs m0 m1 m2) mb w' ∧ W.grownBy w' (some mb) := by
  have hu83 := Tryz.underlying83
  have hu74 := Tryz.underlying74
  have hu108 := Tryz.underlying108
  have hmf : ∀ (fn : Fn) (first cap : Array Value) (w : World), (Instr.makeFunc fn first cap).run Tryz.prog w = .ok (.func fn first cap) w := fun _ _ _ _ => rfl
  have HZ := Aside0.mk h.b.size
  have OPd := Aside0.mk h
  have EOx := Aside0.mk hE
  have HM := Aside0.mk hM
  have HW := Aside0.mk (Below.refl W.heap.size W)
  have Y0 := Aside0.mk h0
  have Y1 := Aside0.mk h1
  clear h hE hM
  have hix : ∀ w, (Instr.index 135 (.agg #[.func (.func 100) #[.agg #[.int .i64 ep, .slice A cs.length c, .int .i64 m0, .int .i64 m1, .int .i64 m2, .slice (some a5) F.length c5, .map (some mb), .int .i64 y]] #[], .func (.func 101) #[.agg #[.int .i64 ep, .slice A cs.length c, .int .i64 m0, .int .i64 m1, .int .i64 m2, .slice (some a5) F.length c5, .map (some mb), .int .i64 y]] #[], .func (.func 102) #[.agg #[.int .i64 ep, .slice A cs.length c, .int .i64 m0, .int .i64 m1, .int .i64 m2, .slice (some a5) F.length c5, .map (some mb), .int .i64 y]] #[], .func (.func 103) #[.agg #[.int .i64 ep, .slice A cs.length c, .int .i64 m0, .int .i64 m1, .int .i64 m2, .slice (some a5) F.length c5, .map (some mb), .int .i64 y]] #[], .func (.func 104) #[.agg #[.int .i64 ep, .slice A cs.length c, .int .i64 m0, .int .i64 m1, .int .i64 m2, .slice (some a5) F.length c5, .map (some mb), .int .i64 y]] #[]]) (.int .i64 (wrap64 3))).run Tryz.prog w = .ok (.func (.func 103) #[.agg #[.int .i64 ep, .slice A cs.length c, .int .i64 m0, .int .i64 m1, .int .i64 m2, .slice (some a5) F.length c5, .map (some mb), .int .i64 y]] #[]) w := fun w => by kernel_rfl
  go_enter Tryz.func80, Tryz.ntmps80
  go_wp2_with (first
    | ((with_reducible refine zG 2 rfl ?_); refine zBox 2 #[.int .i64 ep, .slice A cs.length c, .int .i64 m0, .int .i64 m1, .int .i64 m2, .slice (some a5) F.length c5, .map (some mb), .int .i64 y] 108 ?_; intro g1 hg w1 hbox hb; have GEg1 := zge hg HW; replace HW := zW HW hb; replace OPd := zo OPd hb; replace EOx := Aside0.mk (by first | exact EOx.out.below hb | exact EOx.out.belowD hb); have BKg1 := Aside0.mk hbox; clear hb hbox hg; have z1_g10 := zC BKg1)
    | ((with_reducible refine zG 3 rfl ?_); refine zBox 3 #[.int .i64 4, .int .i64 mo, .int .i64 d, .int .i64 v] 74 ?_; intro g2 hg w2 hbox hb; have GEg2 := zge hg HW; have NEg1_g2 := zne hg BKg1; replace HW := zW HW hb; replace OPd := zo OPd hb; replace EOx := Aside0.mk (by first | exact EOx.out.below hb | exact EOx.out.belowD hb); replace BKg1 := zb BKg1 hb; have BKg2 := Aside0.mk hbox; clear hb hbox hg; (try clear z1_g10); have z2_g10 := zC BKg1; have z2_g20 := zC BKg2))
  try go_wp2
  replace HW := zWD HW
  replace OPd := zoD OPd
  replace EOx := Aside0.mk (EOx.out.belowD (Below.refl _ _))
  replace BKg1 := zbD BKg1
  replace BKg2 := zbD BKg2
  refine zStart 18 (fun w' => zCells w' g1 0 [.int .i64 ep, .slice A cs.length c, .int .i64 m0, .int .i64 m1, .int .i64 m2, .slice (some a5) F.length c5, .map (some mb), .int .i64 y] ∧ zCells w' g2 0 [.int .i64 4, .int .i64 mo, .int .i64 d, .int .i64 v]) #[false, false, false, false, false, false, false, false, false, false, false, false, false, false, false, false, false, false] Answer1.tab Answer1.bits ⟨zS BKg1, zS BKg2⟩ (fun hHeld HT_ HW_ => ?_)
  generalize w2.drew = wd at HW OPd EOx BKg1 BKg2 hHeld ⊢
  refine zP 11 (some 16) HT_ ?_
  refine zT 0 (some 5) HT_ HW_ hHeld ?_
  refine zP 1 (some 6) HT_ ?_
  refine zT 2 (some 7) HT_ HW_ hHeld ?_
  refine zP 3 (some 8) HT_ ?_
  refine zT 4 (some 9) HT_ HW_ hHeld ?_
  refine zP 5 (some 10) HT_ ?_
  refine zT 6 (some 11) HT_ HW_ hHeld ?_
  refine zP 7 (some 12) HT_ ?_
  refine zT 8 (some 13) HT_ HW_ hHeld ?_
  refine zP 9 (some 14) HT_ ?_
  refine zP 10 (some 15) HT_ ?_
  refine zT 12 (some 17) HT_ HW_ hHeld ?_
  refine zP 13 (some 18) HT_ ?_
  refine zP 14 (some 19) HT_ ?_
  refine zT 15 (some 20) HT_ HW_ hHeld ?_
  refine one_ (i := 16) (N := some 21) #[true, true, true, true, true, true, true, true, true, true, true, true, true, true, true, true, true, false] rfl rfl (one_of HT_.out (by kernel_rfl)) (by decide) (fun K hK => ?_)
  refine goesV_ Tryz.func103 (by kernel_rfl) rfl (.tmp 19) #[.agg #[.int .i64 ep, .slice A cs.length c, .int .i64 m0, .int .i64 m1, .int .i64 m2, .slice (some a5) F.length c5, .map (some mb), .int .i64 y]] #[] #[.agg #[.int .i64 ep, .slice A cs.length c, .int .i64 m0, .int .i64 m1, .int .i64 m2, .slice (some a5) F.length c5, .map (some mb), .int .i64 y], .agg #[.int .i64 4, .int .i64 mo, .int .i64 d, .int .i64 v]] (by rfl) rfl rfl (by rfl) (by simp [Act.eval]) ?_
  with_reducible refine (method_4 m0 m1 m2 OPd.out EOx.out HM.out y Y0.out Y1.out mo d v).mono ?_
  rintro e ws ⟨rfl, he, hg⟩
  refine ⟨_, rfl, ?_⟩
  have n0_ := Aside0.mk (OPd.out.gr hg he.blk)
  have n1_ := Aside0.mk (blk_gr_cells BKg1.out EOx.out.blk hg)
  have n2_ := Aside0.mk (blk_gr_cells BKg2.out EOx.out.blk hg)
  have HG := Aside0.mk (grown_thenA HW.out hg)
  clear OPd BKg1 BKg2 HW EOx hHeld
  have OPd := n0_
  have BKg1 := n1_
  have BKg2 := n2_
  have EOx := Aside0.mk he
  clear n0_ n1_ n2_ he hg
  refine hK.out _ _ ⟨zS BKg1, zS BKg2⟩ (fun hHeld => ?_)
  clear hK K
  refine zN ?_
  refine zP 17 (some 4) HT_ ?_
  refine done_ (done_of HT_.out (by kernel_rfl)) ?_
  try go_wp2
  go_ret
  exact ⟨rfl, EOx.out, HG.out⟩
set_option maxHeartbeats 8000000 in
set_option maxRecDepth 100000 in
theorem answer_5 {ep : Int} {A : Option Addr} {c : Nat} {cs F : List Int} {a5 : Addr} {c5 mb : Nat} {w W : World} (m0 m1 m2 : Int) (h : Opd ep A c cs F a5 c5 mb w W) (hE : EOk (sundayOf ep cs m0 m1 m2) mb W) (hM : moonB m0 m1 m2 = true) (y : Int) (h0 : 0 ≤ y) (h1 : y ≤ 4000) (mo d v : Int) :
    Calls Tryz.prog 80 #[.agg #[.int .i64 ep, .slice A cs.length c, .int .i64 m0, .int .i64 m1, .int .i64 m2, .slice (some a5) F.length c5, .map (some mb), .int .i64 y], .agg #[.int .i64 5, .int .i64 mo, .int .i64 d, .int .i64 v]] W fun e w' => e = .returned (.int .i64 (ansOf ep cs m0 m1 m2 y 5 mo d)) ∧ EOk (sundayOf ep cs m0 m1 m2) mb w' ∧ W.grownBy w' (some mb) := by
  have hu83 := Tryz.underlying83
  have hu74 := Tryz.underlying74
  have hu108 := Tryz.underlying108
  have hmf : ∀ (fn : Fn) (first cap : Array Value) (w : World), (Instr.makeFunc fn first cap).run Tryz.prog w = .ok (.func fn first cap) w := fun _ _ _ _ => rfl
  have HZ := Aside0.mk h.b.size
  have OPd := Aside0.mk h
  have EOx := Aside0.mk hE
  have HM := Aside0.mk hM
  have HW := Aside0.mk (Below.refl W.heap.size W)
  have Y0 := Aside0.mk h0
  have Y1 := Aside0.mk h1
  clear h hE hM
  have hix : ∀ w, (Instr.index 135 (.agg #[.func (.func 100) #[.agg #[.int .i64 ep, .slice A cs.length c, .int .i64 m0, .int .i64 m1, .int .i64 m2, .slice (some a5) F.length c5, .map (some mb), .int .i64 y]] #[], .func (.func 101) #[.agg #[.int .i64 ep, .slice A cs.length c, .int .i64 m0, .int .i64 m1, .int .i64 m2, .slice (some a5) F.length c5, .map (some mb), .int .i64 y]] #[], .func (.func 102) #[.agg #[.int .i64 ep, .slice A cs.length c, .int .i64 m0, .int .i64 m1, .int .i64 m2, .slice (some a5) F.length c5, .map (some mb), .int .i64 y]] #[], .func (.func 103) #[.agg #[.int .i64 ep, .slice A cs.length c, .int .i64 m0, .int .i64 m1, .int .i64 m2, .slice (some a5) F.length c5, .map (some mb), .int .i64 y]] #[], .func (.func 104) #[.agg #[.int .i64 ep, .slice A cs.length c, .int .i64 m0, .int .i64 m1, .int .i64 m2, .slice (some a5) F.length c5, .map (some mb), .int .i64 y]] #[]]) (.int .i64 (wrap64 4))).run Tryz.prog w = .ok (.func (.func 104) #[.agg #[.int .i64 ep, .slice A cs.length c, .int .i64 m0, .int .i64 m1, .int .i64 m2, .slice (some a5) F.length c5, .map (some mb), .int .i64 y]] #[]) w := fun w => by kernel_rfl
  go_enter Tryz.func80, Tryz.ntmps80
  go_wp2_with (first
    | ((with_reducible refine zG 2 rfl ?_); refine zBox 2 #[.int .i64 ep, .slice A cs.length c, .int .i64 m0, .int .i64 m1, .int .i64 m2, .slice (some a5) F.length c5, .map (some mb), .int .i64 y] 108 ?_; intro g1 hg w1 hbox hb; have GEg1 := zge hg HW; replace HW := zW HW hb; replace OPd := zo OPd hb; replace EOx := Aside0.mk (by first | exact EOx.out.below hb | exact EOx.out.belowD hb); have BKg1 := Aside0.mk hbox; clear hb hbox hg; have z1_g10 := zC BKg1)
    | ((with_reducible refine zG 3 rfl ?_); refine zBox 3 #[.int .i64 5, .int .i64 mo, .int .i64 d, .int .i64 v] 74 ?_; intro g2 hg w2 hbox hb; have GEg2 := zge hg HW; have NEg1_g2 := zne hg BKg1; replace HW := zW HW hb; replace OPd := zo OPd hb; replace EOx := Aside0.mk (by first | exact EOx.out.below hb | exact EOx.out.belowD hb); replace BKg1 := zb BKg1 hb; have BKg2 := Aside0.mk hbox; clear hb hbox hg; (try clear z1_g10); have z2_g10 := zC BKg1; have z2_g20 := zC BKg2))
  try go_wp2
  replace HW := zWD HW
  replace OPd := zoD OPd
  replace EOx := Aside0.mk (EOx.out.belowD (Below.refl _ _))
  replace BKg1 := zbD BKg1
  replace BKg2 := zbD BKg2
  refine zStart 18 (fun w' => zCells w' g1 0 [.int .i64 ep, .slice A cs.length c, .int .i64 m0, .int .i64 m1, .int .i64 m2, .slice (some a5) F.length c5, .map (some mb), .int .i64 y] ∧ zCells w' g2 0 [.int .i64 5, .int .i64 mo, .int .i64 d, .int .i64 v]) #[false, false, false, false, false, false, false, false, false, false, false, false, false, false, false, false, false, false] Answer1.tab Answer1.bits ⟨zS BKg1, zS BKg2⟩ (fun hHeld HT_ HW_ => ?_)
  generalize w2.drew = wd at HW OPd EOx BKg1 BKg2 hHeld ⊢
  refine zP 11 (some 16) HT_ ?_
  refine zT 0 (some 5) HT_ HW_ hHeld ?_
  refine zP 1 (some 6) HT_ ?_
  refine zT 2 (some 7) HT_ HW_ hHeld ?_
  refine zP 3 (some 8) HT_ ?_
  refine zT 4 (some 9) HT_ HW_ hHeld ?_
  refine zP 5 (some 10) HT_ ?_
  refine zT 6 (some 11) HT_ HW_ hHeld ?_
  refine zP 7 (some 12) HT_ ?_
  refine zT 8 (some 13) HT_ HW_ hHeld ?_
  refine zP 9 (some 14) HT_ ?_
  refine zP 10 (some 15) HT_ ?_
  refine zT 12 (some 17) HT_ HW_ hHeld ?_
  refine zP 13 (some 18) HT_ ?_
  refine zP 14 (some 19) HT_ ?_
  refine zT 15 (some 20) HT_ HW_ hHeld ?_
  refine one_ (i := 16) (N := some 21) #[true, true, true, true, true, true, true, true, true, true, true, true, true, true, true, true, true, false] rfl rfl (one_of HT_.out (by kernel_rfl)) (by decide) (fun K hK => ?_)
  refine goesV_ Tryz.func104 (by kernel_rfl) rfl (.tmp 19) #[.agg #[.int .i64 ep, .slice A cs.length c, .int .i64 m0, .int .i64 m1, .int .i64 m2, .slice (some a5) F.length c5, .map (some mb), .int .i64 y]] #[] #[.agg #[.int .i64 ep, .slice A cs.length c, .int .i64 m0, .int .i64 m1, .int .i64 m2, .slice (some a5) F.length c5, .map (some mb), .int .i64 y], .agg #[.int .i64 5, .int .i64 mo, .int .i64 d, .int .i64 v]] (by rfl) rfl rfl (by rfl) (by simp [Act.eval]) ?_
  with_reducible refine (method_5 m0 m1 m2 OPd.out EOx.out HM.out y Y0.out Y1.out mo d v).mono ?_
  rintro e ws ⟨rfl, he, hg⟩
  refine ⟨_, rfl, ?_⟩
  have n0_ := Aside0.mk (OPd.out.gr hg he.blk)
  have n1_ := Aside0.mk (blk_gr_cells BKg1.out EOx.out.blk hg)
  have n2_ := Aside0.mk (blk_gr_cells BKg2.out EOx.out.blk hg)
  have HG := Aside0.mk (grown_thenA HW.out hg)
  clear OPd BKg1 BKg2 HW EOx hHeld
  have OPd := n0_
  have BKg1 := n1_
  have BKg2 := n2_
  have EOx := Aside0.mk he
  clear n0_ n1_ n2_ he hg
  refine hK.out _ _ ⟨zS BKg1, zS BKg2⟩ (fun hHeld => ?_)
  clear hK K
  refine zN ?_
  refine zP 17 (some 4) HT_ ?_
  refine done_ (done_of HT_.out (by kernel_rfl)) ?_
  try go_wp2
  go_ret
  exact ⟨rfl, EOx.out, HG.out⟩
theorem answer_b {ep : Int} {A : Option Addr} {c : Nat} {cs F : List Int} {a5 : Addr} {c5 mb : Nat} {w W : World} (m0 m1 m2 : Int) (h : Opd ep A c cs F a5 c5 mb w W) (hE : EOk (sundayOf ep cs m0 m1 m2) mb W) (hM : moonB m0 m1 m2 = true) (y : Int) (h0 : 0 ≤ y) (h1 : y ≤ 4000) (k mo d v : Int) (hk : 1 ≤ k ∧ k ≤ 5) :
    Calls Tryz.prog 80 #[.agg #[.int .i64 ep, .slice A cs.length c, .int .i64 m0, .int .i64 m1, .int .i64 m2, .slice (some a5) F.length c5, .map (some mb), .int .i64 y], .agg #[.int .i64 k, .int .i64 mo, .int .i64 d, .int .i64 v]] W fun e w' => e = .returned (.int .i64 (ansOf ep cs m0 m1 m2 y k mo d)) ∧ EOk (sundayOf ep cs m0 m1 m2) mb w' ∧ W.grownBy w' (some mb) := by
  have : k = 1 ∨ k = 2 ∨ k = 3 ∨ k = 4 ∨ k = 5 := by omega
  rcases this with rfl | rfl | rfl | rfl | rfl
  · exact answer_1 m0 m1 m2 h hE hM y h0 h1 mo d v
  · exact answer_2 m0 m1 m2 h hE hM y h0 h1 mo d v
  · exact answer_3 m0 m1 m2 h hE hM y h0 h1 mo d v
  · exact answer_4 m0 m1 m2 h hE hM y h0 h1 mo d v
  · exact answer_5 m0 m1 m2 h hE hM y h0 h1 mo d v
def soB (ep : Int) (cs : List Int) (m0 m1 m2 y k mo d v : Int) : Bool := ansOf ep cs m0 m1 m2 y k mo d == (if k = 3 then 1 else v)
set_option maxHeartbeats 8000000 in
set_option maxRecDepth 100000 in
theorem so_e {ep : Int} {A : Option Addr} {c : Nat} {cs F : List Int} {a5 : Addr} {c5 mb : Nat} {w W : World} (m0 m1 m2 : Int) (h : Opd ep A c cs F a5 c5 mb w W) (hE : EOk (sundayOf ep cs m0 m1 m2) mb W) (hM : moonB m0 m1 m2 = true) (y : Int) (h0 : 0 ≤ y) (h1 : y ≤ 4000) (mo d v : Int) :
    Calls Tryz.prog 97 #[.agg #[.int .i64 ep, .slice A cs.length c, .int .i64 m0, .int .i64 m1, .int .i64 m2, .slice (some a5) F.length c5, .map (some mb), .int .i64 y], .agg #[.int .i64 3, .int .i64 mo, .int .i64 d, .int .i64 v]] W fun e w' => e = .returned (.bool (soB ep cs m0 m1 m2 y 3 mo d v)) ∧ EOk (sundayOf ep cs m0 m1 m2) mb w' ∧ W.grownBy w' (some mb) := by
  have hu83 := Tryz.underlying83
  have hu74 := Tryz.underlying74
  have hu108 := Tryz.underlying108
  have hmf : ∀ (fn : Fn) (first cap : Array Value) (w : World), (Instr.makeFunc fn first cap).run Tryz.prog w = .ok (.func fn first cap) w := fun _ _ _ _ => rfl
  have HZ := Aside0.mk h.b.size
  have OPd := Aside0.mk h
  have EOx := Aside0.mk hE
  have HM := Aside0.mk hM
  have HW := Aside0.mk (Below.refl W.heap.size W)
  have Y0 := Aside0.mk h0
  have Y1 := Aside0.mk h1
  clear h hE hM
  obtain ⟨q, hq⟩ : ∃ q, ansOf ep cs m0 m1 m2 y 3 mo d = q := ⟨_, rfl⟩
  have HAN := Aside0.mk hq
  have HSO := Aside0.mk (show soB ep cs m0 m1 m2 y 3 mo d v = (q == 1) by unfold soB; rw [hq]; rfl)
  clear hq
  go_enter Tryz.func97, Tryz.ntmps97
  go_wp2_with (first
    | ((with_reducible refine zG 2 rfl ?_); refine zBox 2 #[.int .i64 ep, .slice A cs.length c, .int .i64 m0, .int .i64 m1, .int .i64 m2, .slice (some a5) F.length c5, .map (some mb), .int .i64 y] 108 ?_; intro g1 hg w1 hbox hb; have GEg1 := zge hg HW; replace HW := zW HW hb; replace OPd := zo OPd hb; replace EOx := Aside0.mk (by first | exact EOx.out.below hb | exact EOx.out.belowD hb); have BKg1 := Aside0.mk hbox; clear hb hbox hg; have z1_g10 := zC BKg1)
    | ((with_reducible refine zG 3 rfl ?_); refine zBox 3 #[.int .i64 3, .int .i64 mo, .int .i64 d, .int .i64 v] 74 ?_; intro g2 hg w2 hbox hb; have GEg2 := zge hg HW; have NEg1_g2 := zne hg BKg1; replace HW := zW HW hb; replace OPd := zo OPd hb; replace EOx := Aside0.mk (by first | exact EOx.out.below hb | exact EOx.out.belowD hb); replace BKg1 := zb BKg1 hb; have BKg2 := Aside0.mk hbox; clear hb hbox hg; (try clear z1_g10); have z2_g10 := zC BKg1; have z2_g20 := zC BKg2)
    | (go_at_call 80; (with_reducible refine (answer_b m0 m1 m2 OPd.out EOx.out HM.out y Y0.out Y1.out 3 mo d v ⟨by omega, by omega⟩).mono ?_); rintro e w3 ⟨rfl, he, hg⟩; rw [HAN.out]; have HG := Aside0.mk (grown_thenA HW.out hg); clear EOx HW OPd; have EOx := Aside0.mk he; clear he hg))
  go_ret
  exact ⟨by rw [HSO.out]; first | done | rfl, EOx.out, HG.out⟩
set_option maxHeartbeats 8000000 in
set_option maxRecDepth 100000 in
theorem so_o {ep : Int} {A : Option Addr} {c : Nat} {cs F : List Int} {a5 : Addr} {c5 mb : Nat} {w W : World} (m0 m1 m2 : Int) (h : Opd ep A c cs F a5 c5 mb w W) (hE : EOk (sundayOf ep cs m0 m1 m2) mb W) (hM : moonB m0 m1 m2 = true) (y : Int) (h0 : 0 ≤ y) (h1 : y ≤ 4000) (k mo d v : Int) (hk : 1 ≤ k ∧ k ≤ 5) (hk3 : k ≠ 3) :
    Calls Tryz.prog 97 #[.agg #[.int .i64 ep, .slice A cs.length c, .int .i64 m0, .int .i64 m1, .int .i64 m2, .slice (some a5) F.length c5, .map (some mb), .int .i64 y], .agg #[.int .i64 k, .int .i64 mo, .int .i64 d, .int .i64 v]] W fun e w' => e = .returned (.bool (soB ep cs m0 m1 m2 y k mo d v)) ∧ EOk (sundayOf ep cs m0 m1 m2) mb w' ∧ W.grownBy w' (some mb) := by
  have hu83 := Tryz.underlying83
  have hu74 := Tryz.underlying74
  have hu108 := Tryz.underlying108
  have hmf : ∀ (fn : Fn) (first cap : Array Value) (w : World), (Instr.makeFunc fn first cap).run Tryz.prog w = .ok (.func fn first cap) w := fun _ _ _ _ => rfl
  have HZ := Aside0.mk h.b.size
  have OPd := Aside0.mk h
  have EOx := Aside0.mk hE
  have HM := Aside0.mk hM
  have HW := Aside0.mk (Below.refl W.heap.size W)
  have Y0 := Aside0.mk h0
  have Y1 := Aside0.mk h1
  clear h hE hM
  have HK := Aside0.mk hk
  have k1 : (k == 3) = false := beq_eq_false_iff_ne.mpr hk3
  have k2 : decide (k = 3) = false := decide_eq_false hk3
  obtain ⟨q, hq⟩ : ∃ q, ansOf ep cs m0 m1 m2 y k mo d = q := ⟨_, rfl⟩
  have HAN := Aside0.mk hq
  have HSO := Aside0.mk (show soB ep cs m0 m1 m2 y k mo d v = (q == v) by unfold soB; rw [hq]; rw [if_neg hk3])
  clear hq hk hk3
  go_enter Tryz.func97, Tryz.ntmps97
  go_wp2_with (first
    | ((with_reducible refine zG 2 rfl ?_); refine zBox 2 #[.int .i64 ep, .slice A cs.length c, .int .i64 m0, .int .i64 m1, .int .i64 m2, .slice (some a5) F.length c5, .map (some mb), .int .i64 y] 108 ?_; intro g1 hg w1 hbox hb; have GEg1 := zge hg HW; replace HW := zW HW hb; replace OPd := zo OPd hb; replace EOx := Aside0.mk (by first | exact EOx.out.below hb | exact EOx.out.belowD hb); have BKg1 := Aside0.mk hbox; clear hb hbox hg; have z1_g10 := zC BKg1)
    | ((with_reducible refine zG 3 rfl ?_); refine zBox 3 #[.int .i64 k, .int .i64 mo, .int .i64 d, .int .i64 v] 74 ?_; intro g2 hg w2 hbox hb; have GEg2 := zge hg HW; have NEg1_g2 := zne hg BKg1; replace HW := zW HW hb; replace OPd := zo OPd hb; replace EOx := Aside0.mk (by first | exact EOx.out.below hb | exact EOx.out.belowD hb); replace BKg1 := zb BKg1 hb; have BKg2 := Aside0.mk hbox; clear hb hbox hg; (try clear z1_g10); have z2_g10 := zC BKg1; have z2_g20 := zC BKg2)
    | (go_at_call 80; (with_reducible refine (answer_b m0 m1 m2 OPd.out EOx.out HM.out y Y0.out Y1.out k mo d v HK.out).mono ?_); rintro e w3 ⟨rfl, he, hg⟩; rw [HAN.out]; have HG := Aside0.mk (grown_thenA HW.out hg); clear EOx HW OPd; have EOx := Aside0.mk he; clear he hg))
  go_ret
  exact ⟨by rw [HSO.out]; first | done | rfl, EOx.out, HG.out⟩
theorem so_b {ep : Int} {A : Option Addr} {c : Nat} {cs F : List Int} {a5 : Addr} {c5 mb : Nat} {w W : World} (m0 m1 m2 : Int) (h : Opd ep A c cs F a5 c5 mb w W) (hE : EOk (sundayOf ep cs m0 m1 m2) mb W) (hM : moonB m0 m1 m2 = true) (y : Int) (h0 : 0 ≤ y) (h1 : y ≤ 4000) (k mo d v : Int) (hk : 1 ≤ k ∧ k ≤ 5) :
    Calls Tryz.prog 97 #[.agg #[.int .i64 ep, .slice A cs.length c, .int .i64 m0, .int .i64 m1, .int .i64 m2, .slice (some a5) F.length c5, .map (some mb), .int .i64 y], .agg #[.int .i64 k, .int .i64 mo, .int .i64 d, .int .i64 v]] W fun e w' => e = .returned (.bool (soB ep cs m0 m1 m2 y k mo d v)) ∧ EOk (sundayOf ep cs m0 m1 m2) mb w' ∧ W.grownBy w' (some mb) := by
  by_cases h3 : k = 3
  · subst h3
    exact so_e m0 m1 m2 h hE hM y h0 h1 mo d v
  · exact so_o m0 m1 m2 h hE hM y h0 h1 k mo d v hk h3
end Go.Proofs.YtnllidgonghckaaGreatDoor.X
namespace Go.Proofs.YtnllidgonghckaaGreatDoor.X
open Go.RowKit Go.Proofs.YtnllidgonghckaaGreatDoorW.PrintWords Go.Proofs.YtnllidgonghckaaGreatDoorW.PrintLast Go.Proofs.YtnllidgonghckaaGreatDoorW.PrintMore Go.Proofs.YtnllidgonghckaaGreatDoor.Dm
set_option linter.unusedVariables false
set_option linter.unusedSimpArgs false
attribute [local go_sem] max2_int min2_int max_two min_two max_three min_three max_four min_four
set_option maxHeartbeats 8000000 in
set_option maxRecDepth 100000 in
theorem years1_b {ep : Int} {A : Option Addr} {c : Nat} {cs F : List Int} {a5 : Addr} {c5 mb : Nat} {w W : World} (m0 m1 m2 : Int) (h : Opd ep A c cs F a5 c5 mb w W) (hE : EOk (sundayOf ep cs m0 m1 m2) mb W) (hM : moonB m0 m1 m2 = true) (y : Int) (h0 : 0 ≤ y) (h1 : y ≤ 4000) (k mo d v : Int) (hk : 1 ≤ k ∧ k ≤ 5) (ga : Nat) (hb : W.heap[ga]? = some (.cells #[.int .i64 ep, .slice A cs.length c, .int .i64 m0, .int .i64 m1, .int .i64 m2, .slice (some a5) F.length c5, .map (some mb), .int .i64 y] 108 (0, 0))) :
    Calls Tryz.prog 96 #[.agg #[.int .i64 k, .int .i64 mo, .int .i64 d, .int .i64 v], .pointer (some ⟨ga, 0, none⟩)] W fun e w' => e = .returned (.bool (!(soB ep cs m0 m1 m2 y k mo d v))) ∧ EOk (sundayOf ep cs m0 m1 m2) mb w' ∧ W.grownBy w' (some mb) := by
  have hu83 := Tryz.underlying83
  have hu74 := Tryz.underlying74
  have hu108 := Tryz.underlying108
  have hmf : ∀ (fn : Fn) (first cap : Array Value) (w : World), (Instr.makeFunc fn first cap).run Tryz.prog w = .ok (.func fn first cap) w := fun _ _ _ _ => rfl
  have HZ := Aside0.mk h.b.size
  have OPd := Aside0.mk h
  have EOx := Aside0.mk hE
  have HM := Aside0.mk hM
  have HW := Aside0.mk (Below.refl W.heap.size W)
  have Y0 := Aside0.mk h0
  have Y1 := Aside0.mk h1
  have HK := Aside0.mk hk
  have BKga := Aside0.mk hb
  clear h hE hM h0 h1 hk hb
  go_enter Tryz.func96, Tryz.ntmps96
  go_wp2_with (first
    | ((with_reducible refine zG 2 rfl ?_); refine zBox 2 #[.int .i64 k, .int .i64 mo, .int .i64 d, .int .i64 v] 74 ?_; intro g2 hg w1 hbox hb; have GEg2 := zge hg HW; have NEga_g2 := zne hg BKga; replace HW := zW HW hb; replace OPd := zo OPd hb; replace EOx := Aside0.mk (by first | exact EOx.out.below hb | exact EOx.out.belowD hb); replace BKga := zb BKga hb; have BKg2 := Aside0.mk hbox; clear hb hbox hg; have z1_ga0 := zC BKga; have z1_g20 := zC BKg2)
    | (go_at_call 97; (with_reducible refine (so_b m0 m1 m2 OPd.out EOx.out HM.out y Y0.out Y1.out k mo d v HK.out).mono ?_); rintro e w3 ⟨rfl, he, hg⟩; have HG := Aside0.mk (grown_thenA HW.out hg); clear EOx HW OPd; have EOx := Aside0.mk he; clear he hg))
  go_ret
  refine ⟨?_, EOx.out, HG.out⟩
  first | rfl | (simp; done)
section
variable {α : Type} {d : Kd α} {e base g : Nat} {ok : Nat → Prop} {v : Value} {xs : List α} {W w1 : World} {new : Array Value}
theorem R_apart_new (h : d.R e W base ok v xs) (hg : g = W.heap.size) (hb : Below W.heap.size W w1) : d.R e w1 base (fun k => ok k ∧ k ≠ g) v xs :=
  Kd.R_below (Kd.R_mono (Kd.R_bound h) (fun k hk => ⟨hk.1, by have := hk.2.2.1; omega⟩)) hb
theorem R_setRow_ne (hw : w1 = W.setRow g new) (h : d.R e W base (fun k => ok k ∧ k ≠ g) v xs) : d.R e w1 base ok v xs := by
  rw [hw]
  exact Kd.R_mono (Kd.R_step h (fun k hk _ => setRow_other W g k new hk.2)) (fun k hk => hk.1)
theorem R_setRow' {t : Nat} {cells : Array Value} (hw : w1 = W.setRow g new) (ht : ∀ q, q ∈ e :: d.E → q ≠ t) (o : W.heap[g]? = some (.cells cells t (0, 0))) (h : d.R e W base ok v xs) : d.R e w1 base ok v xs := by
  rw [hw]
  exact Kd.R_mono (Kd.R_step (Kd.R_types h o ht) (fun k hk _ => setRow_other W g k new hk.2)) (fun k hk => hk.1)
end
def askCells (ep : Int) (A : Option Addr) (c n : Nat) (m0 m1 m2 : Int) (a5 : Addr) (n5 c5 mb : Nat) (y : Int) : List Value := [.int .i64 ep, .slice A n c, .int .i64 m0, .int .i64 m1, .int .i64 m2, .slice (some a5) n5 c5, .map (some mb), .int .i64 y]
def askKd (ep : Int) (A : Option Addr) (c n : Nat) (m0 m1 m2 : Int) (a5 : Addr) (n5 c5 mb : Nat) : Kd Int where
  sz := 8
  E := []
  K := fun _ y cs => cs = askCells ep A c n m0 m1 m2 a5 n5 c5 mb y
  M := fun _ _ _ y cs => cs = askCells ep A c n m0 m1 m2 a5 n5 c5 mb y
  K_len := fun h => by rw [h]; rfl
  K_one := fun h u hu => by
    rw [h] at hu
    simp [askCells] at hu
    rcases hu with rfl | rfl | rfl | rfl | rfl | rfl | rfl | rfl <;> rfl
  K_below := fun _ h => h
  K_of_M := fun h => h
  M_mono := fun _ h => h
  M_bound := fun h => h
  M_move := fun _ h => h
  M_lower := fun _ h => h
theorem infoAsked : (Tryz.prog.info? 108).map (fun i => (i.zero, i.size, i.bytes)) = some (some (.agg #[.int .i64 0, .slice none 0 0, .int .i64 0, .int .i64 0, .int .i64 0, .slice none 0 0, .map none, .int .i64 0]), 8, 96) := by kernel_rfl
def factsSo (ep : Int) (cs : List Int) (m0 m1 m2 : Int) (l : List S74) (y : Int) : Bool := l.all fun x => soB ep cs m0 m1 m2 y x.f0 x.f1 x.f2 x.f3
def yearsFrom (ep : Int) (cs : List Int) (m0 m1 m2 : Int) (l : List S74) (a : Int) (n : Nat) : List Int := ((List.range n).map fun (i : Nat) => a + (i : Int)).filter fun y => factsSo ep cs m0 m1 m2 l y
theorem yearsFrom_succ (ep : Int) (cs : List Int) (m0 m1 m2 : Int) (l : List S74) (a : Int) (n : Nat) : yearsFrom ep cs m0 m1 m2 l a (n + 1) = yearsFrom ep cs m0 m1 m2 l a n ++ (if factsSo ep cs m0 m1 m2 l (a + n) then [a + (n : Int)] else []) := by
  unfold yearsFrom
  rw [List.range_succ, List.map_append, List.filter_append]
  congr 1
  simp only [List.map_cons, List.map_nil, List.filter_cons, List.filter_nil]
theorem yearsFrom_len (ep : Int) (cs : List Int) (m0 m1 m2 : Int) (l : List S74) (a : Int) (n : Nat) : (yearsFrom ep cs m0 m1 m2 l a n).length ≤ n := by
  unfold yearsFrom
  refine Nat.le_trans (List.length_filter_le _ _) ?_
  simp
theorem anyNot (ep : Int) (cs : List Int) (m0 m1 m2 : Int) (l : List S74) (y : Int) : (l.any fun x => !(soB ep cs m0 m1 m2 y x.f0 x.f1 x.f2 x.f3)) = !(factsSo ep cs m0 m1 m2 l y) := by
  unfold factsSo
  rw [List.any_eq_not_all_not]
  simp
section
variable {ep : Int} {A : Option Addr} {c : Nat} {cs F : List Int} {a5 : Addr} {c5 mb : Nat} {w W w1 : World} {α : Type} {d : Kd α} {v : Value} {ys : List α} {t base : Nat}
theorem Opd.other (h : Opd ep A c cs F a5 c5 mb w W) (hg : W.grownBy w1 v.ownBlock) (hr : d.R t W base (fun k => k ≠ mb) v ys) (hb : Below w.heap.size w w1) (ht : 3 ≠ t := by decide) : Opd ep A c cs F a5 c5 mb w w1 := by
  obtain ⟨es, cl, hm⟩ := h.m
  refine ⟨h.hF, h.cal, h.rc, h.c, Kd.R_over h.f hr (by simpa [Kd.int, Kd.scalar] using ht) hg, ⟨es, cl, (hg.block mb (blk_lt hm) (fun e => hr.1 mb e.symm rfl)).trans hm⟩, hb, h.zmb⟩
theorem EOk.other {sf : Int → Int} (h : EOk sf mb W) (hg : W.grownBy w1 v.ownBlock) (hr : d.R t W base (fun k => k ≠ mb) v ys) : EOk sf mb w1 := by
  obtain ⟨es, cl, hm, he⟩ := h
  exact ⟨es, cl, (hg.block mb (blk_lt hm) (fun e => hr.1 mb e.symm rfl)).trans hm, he⟩
end
set_option maxHeartbeats 8000000 in
set_option maxRecDepth 100000 in
theorem years_b {ep : Int} {A : Option Addr} {c : Nat} {cs F : List Int} {a5 : Addr} {c5 mb : Nat} {w W : World} (m0 m1 m2 : Int) (h : Opd ep A c cs F a5 c5 mb w W) (hE : EOk (sundayOf ep cs m0 m1 m2) mb W) (hM : moonB m0 m1 m2 = true) (Af : Option Addr) (cf : Nat) (l : List S74) (hrf : Kd.C k74 w Af l.length l) (hcf : l.length ≤ cf) (hk : ∀ x ∈ l, 1 ≤ x.f0 ∧ x.f0 ≤ 5) (a b : Int) (h0 : 0 ≤ a) (hab : a ≤ b) (h1 : b ≤ 4000) :
    Calls Tryz.prog 78 #[.agg #[.int .i64 ep, .slice A cs.length c, .int .i64 m0, .int .i64 m1, .int .i64 m2, .slice (some a5) F.length c5, .map (some mb)], .slice Af l.length cf, .int .i64 a, .int .i64 b] W fun e w' => ∃ v, e = .returned v ∧ (askKd ep A c cs.length m0 m1 m2 a5 F.length c5 mb).R 108 w' w.heap.size (fun k => k ≠ mb) v (yearsFrom ep cs m0 m1 m2 l a (b - a + 1).toNat) ∧ Opd ep A c cs F a5 c5 mb w w' ∧ EOk (sundayOf ep cs m0 m1 m2) mb w' := by
  have hu83 := Tryz.underlying83
  have hu74 := Tryz.underlying74
  have hu108 := Tryz.underlying108
  have hmf : ∀ (fn : Fn) (first cap : Array Value) (w : World), (Instr.makeFunc fn first cap).run Tryz.prog w = .ok (.func fn first cap) w := fun _ _ _ _ => rfl
  have HZ := Aside0.mk h.b.size
  have OPd := Aside0.mk h
  have EOx := Aside0.mk hE
  have HM := Aside0.mk hM
  have HRF := Aside0.mk hrf
  have HCF := Aside0.mk hcf
  have HKS := Aside0.mk hk
  have A0 := Aside0.mk h0
  have AB := Aside0.mk hab
  have B1 := Aside0.mk h1
  clear h hE hM hrf hcf hk
  go_enter Tryz.func78, Tryz.ntmps78
  go_wp2_with (first
    | ((with_reducible refine zG 4 rfl ?_); refine zBox 4 #[.int .i64 ep, .slice A cs.length c, .int .i64 m0, .int .i64 m1, .int .i64 m2, .slice (some a5) F.length c5, .map (some mb)] 83 ?_; intro g1 hg w1 hbox hb; replace OPd := zo OPd hb; replace EOx := Aside0.mk (by first | exact EOx.out.below hb | exact EOx.out.belowD hb); have BKg1 := Aside0.mk hbox; clear hb hbox hg))
  go_loopw [9, 10] (fun v9 v10 Wr => ∃ (n : Nat), v10 = .int .i64 (a + (n : Int)) ∧ a + (n : Int) ≤ b + 1 ∧ Aside0 (Opd ep A c cs F a5 c5 mb w Wr) ∧ Aside0 (EOk (sundayOf ep cs m0 m1 m2) mb Wr) ∧ Aside0 (Wr.heap[g1]? = some (.cells #[.int .i64 ep, .slice A cs.length c, .int .i64 m0, .int .i64 m1, .int .i64 m2, .slice (some a5) F.length c5, .map (some mb)] 83 (0, 0))) ∧ Aside0 ((askKd ep A c cs.length m0 m1 m2 a5 F.length c5 mb).R 108 Wr w.heap.size (fun k => k ≠ mb) v9 (yearsFrom ep cs m0 m1 m2 l a n))) (fun _ i _ => (b + 1 - intOf i).toNat)
  case atStart => exact ⟨0, by simp, by have := AB.out; omega, OPd, EOx, BKg1, ⟨Kd.R_nil _ _ _ _ _⟩⟩
  case round =>
    clear OPd EOx BKg1
    obtain ⟨n, rfl, hn, OPd, EOx, BKg1, HOv⟩ := hrel
    by_cases hlt : a + (n : Int) ≤ b
    · obtain ⟨y, hy⟩ : ∃ y, a + (n : Int) = y := ⟨_, rfl⟩
      rw [hy] at hlt hn ⊢
      obtain ⟨ys, hys⟩ : ∃ ys, yearsFrom ep cs m0 m1 m2 l a n = ys := ⟨_, rfl⟩
      rw [hys] at HOv
      have HYL := Aside0.mk (show ys.length ≤ 4001 by have := yearsFrom_len ep cs m0 m1 m2 l a n; rw [hys] at this; have := A0.out; have := B1.out; omega)
      have HYS := Aside0.mk hys
      have HY := Aside0.mk hy
      have Y0 := Aside0.mk (show 0 ≤ y by have := A0.out; omega)
      have Y1 := Aside0.mk (show y ≤ 4000 by have := B1.out; omega)
      have wy1 : IntKind.i64.wrap (y + 1) = y + 1 := (i64_w _).trans (wrap_of (y + 1) (by have := Y0.out; omega) (by have := Y1.out; omega))
      have hyb : decide (y ≤ b) = true := decide_eq_true hlt
      obtain ⟨t, ht⟩ : ∃ t, factsSo ep cs m0 m1 m2 l y = t := ⟨_, rfl⟩
      have HAN := Aside0.mk (show (l.any fun x => !(soB ep cs m0 m1 m2 y x.f0 x.f1 x.f2 x.f3)) = !t by rw [anyNot, ht])
      have HNX := Aside0.mk (show yearsFrom ep cs m0 m1 m2 l a (n + 1) = ys ++ (if t then [y] else []) by rw [yearsFrom_succ, hys, hy, ht])
      clear hy hys ht
      have u1_g10 := zC BKg1
      cases t
      · go_wp2_with (first
          | ((with_reducible refine zG 11 rfl ?_); refine zBox 11 #[.int .i64 0, .slice none 0 0, .int .i64 0, .int .i64 0, .int .i64 0, .slice none 0 0, .map none, .int .i64 0] 108 ?_; intro ga hg w1 hbox hb; have GEga := zgo hg OPd; have NEg1_ga := zne hg BKg1; replace OPd := zo OPd hb; replace EOx := Aside0.mk (by first | exact EOx.out.below hb | exact EOx.out.belowD hb); replace HOv := Aside0.mk (by exact R_apart_new HOv.out hg hb); replace BKg1 := zb BKg1 hb; have BKga := Aside0.mk hbox; clear hb hbox hg; (try clear u1_g10); have u2_g10 := zC BKg1; have u2_ga0 := zC BKga)
          | ((with_reducible refine zH 108 11 rfl ?_); refine zSto 108 11 #[.int .i64 ep, .slice A cs.length c, .int .i64 m0, .int .i64 m1, .int .i64 m2, .slice (some a5) F.length c5, .map (some mb), .int .i64 y] BKga ?_; intro w2 hw; replace OPd := zoS hw GEga BKga OPd; replace EOx := Aside0.mk (EOk.setRow' hw BKga.out EOx.out); replace HOv := Aside0.mk (R_setRow_ne hw HOv.out); replace BKg1 := zfar hw (by first | exact NEg1_ga.out | exact NEga_g1.out.symm) BKg1; replace BKga := znew hw BKga; clear hw; (try clear u2_g10 u2_ga0); have u3_g10 := zC BKg1; have u3_ga0 := zC BKga)
          | (go_at_call 92; (with_reducible refine (containsFunc_calls 96 _ Tryz.func96 (by kernel_rfl) rfl #[.pointer (some ⟨ga, 0, none⟩)] (fun W' => Opd ep A c cs F a5 c5 mb w W' ∧ EOk (sundayOf ep cs m0 m1 m2) mb W' ∧ W'.heap[g1]? = some (.cells #[.int .i64 ep, .slice A cs.length c, .int .i64 m0, .int .i64 m1, .int .i64 m2, .slice (some a5) F.length c5, .map (some mb)] 83 (0, 0)) ∧ W'.heap[ga]? = some (.cells #[.int .i64 ep, .slice A cs.length c, .int .i64 m0, .int .i64 m1, .int .i64 m2, .slice (some a5) F.length c5, .map (some mb), .int .i64 y] 108 (0, 0)) ∧ (askKd ep A c cs.length m0 m1 m2 a5 F.length c5 mb).R 108 W' w.heap.size (fun k => k ≠ mb) u9 ys) (some mb) (fun x => !(soB ep cs m0 m1 m2 y x.f0 x.f1 x.f2 x.f3)) Af cf l ?j1 ?j2 HCF.out ?j3 _ ?j4).mono ?_); (case j1 => exact fun W W' q hb => ⟨q.1.below hb, q.2.1.below hb, blk_below q.2.2.1 hb, blk_below q.2.2.2.1 hb, Kd.R_below q.2.2.2.2 hb⟩); (case j2 => exact fun W q => Kd.C_below HRF.out q.1.b); (case j3 => exact fun W x hx q => (years1_b m0 m1 m2 q.1 q.2.1 HM.out y Y0.out Y1.out x.f0 x.f1 x.f2 x.f3 (HKS.out x hx) ga q.2.2.2.1).mono fun e W' hh => ⟨hh.1, ⟨q.1.gr hh.2.2 hh.2.1.blk, hh.2.1, blk_gr_cells q.2.2.1 q.2.1.blk hh.2.2, blk_gr_cells q.2.2.2.1 q.2.1.blk hh.2.2, Kd.R_grown q.2.2.2.2 hh.2.2 (fun k hk e => hk (Option.some.inj e))⟩, hh.2.2⟩); (case j4 => exact ⟨OPd.out, EOx.out, BKg1.out, BKga.out, HOv.out⟩); rintro e w3 ⟨rfl, q, _⟩; rw [HAN.out]; clear OPd EOx BKg1 BKga HOv; have OPd := Aside0.mk q.1; have EOx := Aside0.mk q.2.1; have BKg1 := Aside0.mk q.2.2.1; have BKga := Aside0.mk q.2.2.2.1; have HOv := Aside0.mk q.2.2.2.2; clear q; (try clear u3_g10 u3_ga0); have u4_g10 := zC BKg1; have u4_ga0 := zC BKga))
        go_roundw
        case rel => exact ⟨n + 1, by first | (rw [← HY.out]; go_num) | (rw [wy1, ← HY.out]; go_num), by have := HY.out; omega, OPd, EOx, BKg1, by rw [HNX.out]; simpa using HOv⟩
        case measure => have := HY.out; simp [intOf, wy1]; omega
      · go_wp2_with (first
          | ((with_reducible refine zG 11 rfl ?_); refine zBox 11 #[.int .i64 0, .slice none 0 0, .int .i64 0, .int .i64 0, .int .i64 0, .slice none 0 0, .map none, .int .i64 0] 108 ?_; intro ga hg w1 hbox hb; have GEga := zgo hg OPd; have NEg1_ga := zne hg BKg1; replace OPd := zo OPd hb; replace EOx := Aside0.mk (by first | exact EOx.out.below hb | exact EOx.out.belowD hb); replace HOv := Aside0.mk (by exact R_apart_new HOv.out hg hb); replace BKg1 := zb BKg1 hb; have BKga := Aside0.mk hbox; clear hb hbox hg; (try clear u1_g10); have u2_g10 := zC BKg1; have u2_ga0 := zC BKga)
          | ((with_reducible refine zH 108 11 rfl ?_); refine zSto 108 11 #[.int .i64 ep, .slice A cs.length c, .int .i64 m0, .int .i64 m1, .int .i64 m2, .slice (some a5) F.length c5, .map (some mb), .int .i64 y] BKga ?_; intro w2 hw; replace OPd := zoS hw GEga BKga OPd; replace EOx := Aside0.mk (EOk.setRow' hw BKga.out EOx.out); replace HOv := Aside0.mk (R_setRow_ne hw HOv.out); replace BKg1 := zfar hw (by first | exact NEg1_ga.out | exact NEga_g1.out.symm) BKg1; replace BKga := znew hw BKga; clear hw; (try clear u2_g10 u2_ga0); have u3_g10 := zC BKg1; have u3_ga0 := zC BKga)
          | (go_at_call 92; (with_reducible refine (containsFunc_calls 96 _ Tryz.func96 (by kernel_rfl) rfl #[.pointer (some ⟨ga, 0, none⟩)] (fun W' => Opd ep A c cs F a5 c5 mb w W' ∧ EOk (sundayOf ep cs m0 m1 m2) mb W' ∧ W'.heap[g1]? = some (.cells #[.int .i64 ep, .slice A cs.length c, .int .i64 m0, .int .i64 m1, .int .i64 m2, .slice (some a5) F.length c5, .map (some mb)] 83 (0, 0)) ∧ W'.heap[ga]? = some (.cells #[.int .i64 ep, .slice A cs.length c, .int .i64 m0, .int .i64 m1, .int .i64 m2, .slice (some a5) F.length c5, .map (some mb), .int .i64 y] 108 (0, 0)) ∧ (askKd ep A c cs.length m0 m1 m2 a5 F.length c5 mb).R 108 W' w.heap.size (fun k => k ≠ mb) u9 ys) (some mb) (fun x => !(soB ep cs m0 m1 m2 y x.f0 x.f1 x.f2 x.f3)) Af cf l ?j1 ?j2 HCF.out ?j3 _ ?j4).mono ?_); (case j1 => exact fun W W' q hb => ⟨q.1.below hb, q.2.1.below hb, blk_below q.2.2.1 hb, blk_below q.2.2.2.1 hb, Kd.R_below q.2.2.2.2 hb⟩); (case j2 => exact fun W q => Kd.C_below HRF.out q.1.b); (case j3 => exact fun W x hx q => (years1_b m0 m1 m2 q.1 q.2.1 HM.out y Y0.out Y1.out x.f0 x.f1 x.f2 x.f3 (HKS.out x hx) ga q.2.2.2.1).mono fun e W' hh => ⟨hh.1, ⟨q.1.gr hh.2.2 hh.2.1.blk, hh.2.1, blk_gr_cells q.2.2.1 q.2.1.blk hh.2.2, blk_gr_cells q.2.2.2.1 q.2.1.blk hh.2.2, Kd.R_grown q.2.2.2.2 hh.2.2 (fun k hk e => hk (Option.some.inj e))⟩, hh.2.2⟩); (case j4 => exact ⟨OPd.out, EOx.out, BKg1.out, BKga.out, HOv.out⟩); rintro e w3 ⟨rfl, q, _⟩; rw [HAN.out]; clear OPd EOx BKg1 BKga HOv; have OPd := Aside0.mk q.1; have EOx := Aside0.mk q.2.1; have BKg1 := Aside0.mk q.2.2.1; have BKga := Aside0.mk q.2.2.2.1; have HOv := Aside0.mk q.2.2.2.2; clear q; (try clear u3_g10 u3_ga0); have u4_g10 := zC BKg1; have u4_ga0 := zC BKga)
          | ((with_reducible refine gate_builtin (b := .append) (xs := #[.tmp 25, .tmp 27]) rfl ?_); at_builtin; refine Kd.R_append (askKd ep A c cs.length m0 m1 m2 a5 F.length c5 mb) (w0 := w) w.heap.size rfl (.tmp 25) (.tmp 27) 105 108 (.agg #[.int .i64 0, .slice none 0 0, .int .i64 0, .int .i64 0, .int .i64 0, .slice none 0 0, .map none, .int .i64 0]) 96 rfl Tryz.underlying105 infoAsked rfl (Nat.zero_lt_succ 7) (by omega) u9 ys y (askCells ep A c cs.length m0 m1 m2 a5 F.length c5 mb y) (fun k => k ≠ mb) (fun _ => False) rfl rfl ?aP (fun _ hk => hk.elim) ?aF ?aO ?aB ?aS ?aL ?_; (case aP => exact rfl); (case aF => exact fun k hk => by have := EOx.out.lt; omega); (case aO => exact HOv.out); (case aB => exact OPd.out.b); (case aS => exact OPd.out.b.size); (case aL => have := HYL.out; omega); intro v1 w4 ho hb hg _hat; have n0_ := Aside0.mk (blk_grown BKg1.out hg (Kd.R_ne HOv.out BKg1.out (by decide))); have n1_ := Aside0.mk (OPd.out.other hg HOv.out hb); have n2_ := Aside0.mk (EOx.out.other hg HOv.out); clear BKg1 BKga OPd EOx HOv; have BKg1 := n0_; have OPd := n1_; have EOx := n2_; have HOv := Aside0.mk ho; clear n0_ n1_ n2_ ho hb hg _hat))
        go_roundw
        case rel => exact ⟨n + 1, by first | (rw [← HY.out]; go_num) | (rw [wy1, ← HY.out]; go_num), by have := HY.out; omega, OPd, EOx, BKg1, by rw [HNX.out]; simpa using HOv⟩
        case measure => have := HY.out; simp [intOf, wy1]; omega
    · have hyb : decide (a + (n : Int) ≤ b) = false := decide_eq_false hlt
      have HN := Aside0.mk (show (b - a + 1).toNat = n by omega)
      clear hlt
      go_wp2
      go_ret
      exact ⟨u9, rfl, by rw [HN.out]; exact HOv.out, OPd.out, EOx.out⟩
end Go.Proofs.YtnllidgonghckaaGreatDoor.X
namespace Go.Proofs.YtnllidgonghckaaGreatDoor.X
open Go.RowKit Go.Proofs.YtnllidgonghckaaGreatDoorW.PrintWords Go.Proofs.YtnllidgonghckaaGreatDoorW.PrintLast Go.Proofs.YtnllidgonghckaaGreatDoorW.PrintMore Go.Proofs.YtnllidgonghckaaGreatDoor.Dm
set_option linter.unusedVariables false
set_option linter.unusedSimpArgs false
attribute [local go_sem] max2_int min2_int max_two min_two max_three min_three max_four min_four
def rangeB (a b : Int) : Bool := yearB a && yearB b && inB (b - a) 0 400
theorem rangeB_iff {a b : Int} (h : rangeB a b = true) : 0 ≤ a ∧ a ≤ b ∧ b ≤ 4000 ∧ b - a ≤ 400 := by
  simp only [rangeB, yearB, inB, Bool.and_eq_true, decide_eq_true_eq] at h
  omega
theorem isRange_f (a b : Int) : dial_isRange.f a b = some (rangeB a b) := by
  unfold dial_isRange.f rangeB
  rw [isYear_f, Option.bind_some]
  cases h1 : yearB a with
  | false => simp
  | true =>
    rw [if_pos rfl, isYear_f, Option.bind_some]
    cases h2 : yearB b with
    | false => simp
    | true =>
      have := yearB_iff h1
      have := yearB_iff h2
      rw [if_pos rfl, wrap_of (b - a) (by omega) (by omega), in_f]
      rfl
theorem isRange_l (a b : Int) (r : Bool) (hr : rangeB a b = r) (w : World) : Calls Tryz.prog 77 #[.int .i64 a, .int .i64 b] w fun e w' => e = .returned (.bool r) ∧ Below w.heap.size w w' :=
  (dial_isRange.calls a b _ w ((isRange_f a b).trans (congrArg some hr))).mono fun _ _ h => ⟨h.1, h.2.below⟩
theorem factB_kind {x : S74} (h : factB x = true) : 1 ≤ x.f0 ∧ x.f0 ≤ 5 := by
  simp only [factB, kindOk, Bool.and_eq_true] at h
  obtain ⟨h1, _⟩ := h
  by_cases c1 : x.f0 = 1 ∨ x.f0 = 2 ∨ x.f0 = 3
  · omega
  · rw [if_neg c1] at h1
    by_cases c2 : x.f0 = 4 ∨ x.f0 = 5
    · omega
    · rw [if_neg c2] at h1; cases h1
theorem areFactsB_kind {l : List S74} (h : areFactsB l = true) : ∀ x ∈ l, 1 ≤ x.f0 ∧ x.f0 ≤ 5 := by
  simp only [areFactsB, Bool.and_eq_true, List.all_eq_true] at h
  exact fun x hx => factB_kind (h.2 x hx)
theorem at_ask {ep : Int} {A : Option Addr} {c n : Nat} {m0 m1 m2 : Int} {a5 : Addr} {n5 c5 mb : Nat} {w : World} {B : Option Addr} {k : Nat} {ys : List Int} (h : Kd.C (askKd ep A c n m0 m1 m2 a5 n5 c5 mb) w B k ys) (i : Nat) (h1 : i < ys.length) (y : Int) (hy : ys[i] = y) :
    ∃ ad, B = some ad ∧ w.cell? (ad.add (i * 8)) = some (.int .i64 ep) ∧ w.cell? ⟨(ad.add (i * 8)).block, (ad.add (i * 8)).off + 1, none⟩ = some (.slice A n c) ∧ w.cell? ⟨(ad.add (i * 8)).block, (ad.add (i * 8)).off + 2, none⟩ = some (.int .i64 m0) ∧ w.cell? ⟨(ad.add (i * 8)).block, (ad.add (i * 8)).off + 3, none⟩ = some (.int .i64 m1) ∧ w.cell? ⟨(ad.add (i * 8)).block, (ad.add (i * 8)).off + 4, none⟩ = some (.int .i64 m2) ∧ w.cell? ⟨(ad.add (i * 8)).block, (ad.add (i * 8)).off + 5, none⟩ = some (.slice (some a5) n5 c5) ∧ w.cell? ⟨(ad.add (i * 8)).block, (ad.add (i * 8)).off + 6, none⟩ = some (.map (some mb)) ∧ w.cell? ⟨(ad.add (i * 8)).block, (ad.add (i * 8)).off + 7, none⟩ = some (.int .i64 y) := by
  have hl := Kd.C_len h
  obtain ⟨ad, cc, e, _, hK, hc0⟩ := Kd.C_get h 0 (i : Int) (by omega) (by omega)
  have hg : ys.getD (i : Int).toNat 0 = y := by rw [Int.toNat_natCast, List.getD_eq_getElem?_getD, List.getElem?_eq_getElem h1, Option.getD_some, hy]
  rw [hg] at hK
  rw [Int.toNat_natCast] at hc0
  have hc : ∀ j u, cc[j]? = some u → w.cell? (ad.add (i * 8 + j)) = some u := hc0
  obtain rfl : cc = askCells ep A c n m0 m1 m2 a5 n5 c5 mb y := hK
  exact ⟨ad, e, hc 0 _ rfl, by rw [← add_field _ _ 1 (by omega)]; exact hc 1 _ rfl, by rw [← add_field _ _ 2 (by omega)]; exact hc 2 _ rfl, by rw [← add_field _ _ 3 (by omega)]; exact hc 3 _ rfl, by rw [← add_field _ _ 4 (by omega)]; exact hc 4 _ rfl, by rw [← add_field _ _ 5 (by omega)]; exact hc 5 _ rfl, by rw [← add_field _ _ 6 (by omega)]; exact hc 6 _ rfl, by rw [← add_field _ _ 7 (by omega)]; exact hc 7 _ rfl⟩
set_option maxHeartbeats 8000000 in
set_option maxRecDepth 100000 in
theorem Years_good (ep : Int) (A : Option Addr) (c : Nat) (cs : List Int) (m0 m1 m2 : Int) (Af : Option Addr) (cf : Nat) (l : List S74) (a b : Int) (w : World) (hr : Kd.C (Kd.int .i64) w A cs.length cs) (hc : cs.length ≤ c) (hrf : Kd.C k74 w Af l.length l) (hcf : l.length ≤ cf) (hcal : calB ep cs = true) (hmn : moonB m0 m1 m2 = true) (hfs : areFactsB l = true) (hrg : rangeB a b = true) :
    Calls Tryz.prog 42 #[.agg #[.int .i64 ep, .slice A cs.length c], .agg #[.int .i64 m0, .int .i64 m1, .int .i64 m2], .slice Af l.length cf, .int .i64 a, .int .i64 b] w fun e w' => ∃ v, e = .returned (.tuple #[v, .int .i64 0]) ∧ Kd.R (Kd.int .i64) 3 w' w.heap.size (fun _ => True) v (yearsFrom ep cs m0 m1 m2 l a (b - a + 1).toNat) ∧ Below w.heap.size w w' := by
  obtain ⟨F, hF⟩ : ∃ F, firsts ep cs = F := ⟨_, rfl⟩
  have HFF := Aside0.mk hF
  clear hF
  have HK := Aside0.mk (areFactsB_kind hfs)
  have hrr := rangeB_iff hrg
  have HAB := Aside0.mk (show 0 ≤ a ∧ a ≤ b ∧ b ≤ 4000 from ⟨hrr.1, hrr.2.1, hrr.2.2.1⟩)
  have hyl := yearsFrom_len ep cs m0 m1 m2 l a (b - a + 1).toNat
  obtain ⟨ys, hys⟩ : ∃ ys, yearsFrom ep cs m0 m1 m2 l a (b - a + 1).toNat = ys := ⟨_, rfl⟩
  rw [hys] at hyl
  have HYL := Aside0.mk (show ys.length ≤ 401 by omega)
  have HYS := Aside0.mk hys
  clear hrr hyl hys
  have hu24 := Tryz.underlying24
  have hu45 := Tryz.underlying45
  have hu83 := Tryz.underlying83
  have hu108 := Tryz.underlying108
  have HB := Aside0.mk (Below.refl w.heap.size w)
  have HR := Aside0.mk hr
  have HC := Aside0.mk hc
  have HRF := Aside0.mk hrf
  have HCF := Aside0.mk hcf
  clear hr hc hrf hcf
  have HCAL := Aside0.mk hcal
  clear hcal
  have HMN := Aside0.mk hmn
  clear hmn
  have HFS := Aside0.mk hfs
  clear hfs
  have HRG := Aside0.mk hrg
  clear hrg
  go_enter Tryz.func42, Tryz.ntmps42
  go_wp2_with (first
    | ((with_reducible refine zG 5 rfl ?_); refine zBox 5 #[.int .i64 ep, .slice A cs.length c] 24 ?_; intro g1 hg w1 hbox hb; have GEg1 := zge hg HB; replace HB := zW HB hb; have BKg1 := Aside0.mk hbox; clear hb hbox hg; have z1_g10 := zC BKg1)
    | ((with_reducible refine zG 6 rfl ?_); refine zBox 6 #[.int .i64 m0, .int .i64 m1, .int .i64 m2] 45 ?_; intro g2 hg w2 hbox hb; have GEg2 := zge hg HB; have NEg1_g2 := zne hg BKg1; replace HB := zW HB hb; replace BKg1 := zb BKg1 hb; have BKg2 := Aside0.mk hbox; clear hb hbox hg; (try clear z1_g10); have z2_g10 := zC BKg1; have z2_g20 := zC BKg2)
    | (go_at_call 46; (with_reducible refine (isCal_l ep A c cs true HCAL.out w _ HR.out HC.out HB.out).mono ?_); rintro e w3 ⟨rfl, hb⟩; replace HB := zW HB hb; replace BKg1 := zb BKg1 hb; replace BKg2 := zb BKg2 hb; clear hb; (try clear z2_g10 z2_g20); have z3_g10 := zC BKg1; have z3_g20 := zC BKg2)
    | (go_at_call 58; (with_reducible refine (isMoon_l m0 m1 m2 true HMN.out _).mono ?_); rintro e w4 ⟨rfl, hb⟩; replace HB := zW HB hb; replace BKg1 := zb BKg1 hb; replace BKg2 := zb BKg2 hb; clear hb; (try clear z3_g10 z3_g20); have z4_g10 := zC BKg1; have z4_g20 := zC BKg2)
    | (go_at_call 76; (with_reducible refine (areFacts_l Af cf l true HFS.out w _ HRF.out HCF.out HB.out).mono ?_); rintro e w5 ⟨rfl, hb⟩; replace HB := zW HB hb; replace BKg1 := zb BKg1 hb; replace BKg2 := zb BKg2 hb; clear hb; (try clear z4_g10 z4_g20); have z5_g10 := zC BKg1; have z5_g20 := zC BKg2)
    | (go_at_call 77; (with_reducible refine (isRange_l a b true HRG.out _).mono ?_); rintro e w6 ⟨rfl, hb⟩; replace HB := zW HB hb; replace BKg1 := zb BKg1 hb; replace BKg2 := zb BKg2 hb; clear hb; (try clear z5_g10 z5_g20); have z6_g10 := zC BKg1; have z6_g20 := zC BKg2)
    | (go_at_call 48; (with_reducible refine (open_eok ep A c cs m0 m1 m2 (sundayOf ep cs m0 m1 m2) w _ HR.out HC.out HCAL.out HB.out F HFF.out).mono ?_); rintro e w7 ⟨a5, c5, mb, rfl, ho, he, hb⟩; have OPd := Aside0.mk ho; have EOx := Aside0.mk he; clear ho he hb HB BKg1 BKg2)
    | (go_at_call 78; (with_reducible refine (years_b m0 m1 m2 OPd.out EOx.out HMN.out Af cf l HRF.out HCF.out HK.out a b HAB.out.1 HAB.out.2.1 HAB.out.2.2).mono ?_); rintro e w8 ⟨v, rfl, hv, ho, _⟩; rw [HYS.out] at hv; clear OPd EOx; have HB := Aside0.mk ho.b; obtain ⟨Av, cv, rfl⟩ := Kd.R_slice hv; have HOv := Aside0.mk hv; clear hv ho))
  go_loopw [12, 42] (fun v12 v42 Wr => ∃ (i : Nat), v42 = .int .i64 i ∧ i ≤ ys.length ∧ Aside0 (Below w.heap.size w Wr) ∧ Aside0 ((askKd ep A c cs.length m0 m1 m2 a5 F.length c5 mb).R 108 Wr w.heap.size (fun k => k ≠ mb) (.slice Av ys.length cv) ys) ∧ Aside0 (Kd.R (Kd.int .i64) 3 Wr w.heap.size (fun _ => True) v12 (ys.take i))) (fun _ i _ => ys.length - (intOf i).toNat)
  case atStart => exact ⟨0, rfl, by omega, HB, HOv, ⟨Kd.R_nil _ _ _ _ _⟩⟩
  case round =>
    clear HB HOv
    obtain ⟨i, rfl, hi, HB, HOv, HOo⟩ := hrel
    by_cases hlt : i < ys.length
    · obtain ⟨y, hy⟩ : ∃ y, ys[i] = y := ⟨_, rfl⟩
      obtain ⟨ad, eA, q0, q1, q2, q3, q4, q5, q6, q7⟩ := at_ask (Kd.R_reads' HOv.out).2.2 i hlt y hy
      subst eA
      have HTL := Aside0.mk (show (ys.take i).length ≤ 401 by rw [List.length_take]; have := HYL.out; omega)
      have HTS := Aside0.mk (show ys.take (i + 1) = ys.take i ++ [y] by rw [List.take_succ_eq_append_getElem hlt, hy])
      have hi0 : (0 : Int) ≤ (i : Int) := by omega
      have hi2 : (i : Int) ≤ 1000 := by have := HYL.out; omega
      have hi1 : (i : Int) < (ys.length : Int) := by omega
      have hib : decide ((i : Int) < (ys.length : Int)) = true := decide_eq_true hi1
      clear hy
      go_wp2_with (first
        | ((with_reducible refine zG 14 rfl ?_); refine zBox 14 #[.int .i64 0, .slice none 0 0, .int .i64 0, .int .i64 0, .int .i64 0, .slice none 0 0, .map none, .int .i64 0] 108 ?_; intro ga hg w9 hbox hb; have GEga := zge hg HB; replace HB := zW HB hb; replace HOv := Aside0.mk (by exact R_apart_new HOv.out hg hb); replace HOo := zr HOo hb; have BKga := Aside0.mk hbox; clear hb hbox hg; have u1_ga0 := zC BKga)
        | ((with_reducible refine zH 108 14 rfl ?_); refine zSto 108 14 #[.int .i64 ep, .slice A cs.length c, .int .i64 m0, .int .i64 m1, .int .i64 m2, .slice (some a5) F.length c5, .map (some mb), .int .i64 y] BKga ?_; intro wa hw; replace HB := zWS hw GEga HB; replace HOv := Aside0.mk (R_setRow_ne hw HOv.out); replace HOo := Aside0.mk (R_setRow' hw (by first | decide | (intro q hq; simp [askKd, kQ] at hq; omega)) BKga.out HOo.out); replace BKga := znew hw BKga; clear hw; (try clear u1_ga0); have u2_ga0 := zC BKga)
        | ((with_reducible refine gate_builtin (b := .append) (xs := #[.tmp 46, .tmp 49]) rfl ?_); at_builtin; refine Kd.R_append (Kd.int .i64) (w0 := w) w.heap.size rfl (.tmp 46) (.tmp 49) 22 3 (.int .i64 0) 8 rfl Tryz.underlying22 info3 rfl (by decide) (by omega) u12 (ys.take i) y [.int .i64 y] (fun _ => True) (fun _ => False) rfl rfl ?aP (fun _ hk => hk.elim) ?aF ?aO ?aB ?aS ?aL ?_; (case aP => exact rfl); (case aF => exact fun _ _ => trivial); (case aO => exact HOo.out); (case aB => exact HB.out); (case aS => exact HB.out.size); (case aL => have := HTL.out; omega); intro v1 wb ho hb hg _hat; have n0_ := Aside0.mk (Kd.R_over HOv.out HOo.out (fun q hq => by simp [askKd] at hq; omega) hg); clear HB BKga HOv HOo; have HOv := n0_; have HB := Aside0.mk hb; have HOo := Aside0.mk ho; clear n0_ ho hb hg _hat))
      go_roundw
      case rel => exact ⟨i + 1, by go_num, by omega, HB, HOv, by rw [HTS.out]; exact HOo⟩
      case measure => simp [intOf]; omega
    · have hie : i = ys.length := by omega
      subst hie
      have HT := Aside0.mk (show ys.take ys.length = ys from List.take_length)
      go_wp2
      go_ret2
      exact ⟨_, rfl, by rw [HYS.out, ← HT.out]; exact HOo.out, HB.out⟩
end Go.Proofs.YtnllidgonghckaaGreatDoor.X
namespace Go.Proofs.YtnllidgonghckaaGreatDoor.X
open Go.RowKit Go.Proofs.YtnllidgonghckaaGreatDoorW.PrintWords Go.Proofs.YtnllidgonghckaaGreatDoorW.PrintLast Go.Proofs.YtnllidgonghckaaGreatDoorW.PrintMore Go.Proofs.YtnllidgonghckaaGreatDoor.Dm
set_option linter.unusedVariables false
set_option linter.unusedSimpArgs false
attribute [local go_sem] max2_int min2_int max_two min_two max_three min_three max_four min_four
set_option maxHeartbeats 8000000 in
set_option maxRecDepth 100000 in
theorem better_b (a1 a2 b1 b2 : Int) (W : World) :
    Calls Tryz.prog 82 #[.agg #[.int .i64 a1, .int .i64 a2], .agg #[.int .i64 b1, .int .i64 b2]] W fun e w' => e = .returned (.bool (decide (a2 < b2))) ∧ Below W.heap.size W w' := by
  have hu112 := Tryz.underlying112
  have HW := Aside0.mk (Below.refl W.heap.size W)
  go_enter Tryz.func82, Tryz.ntmps82
  go_wp2_with (first
    | ((with_reducible refine zG 2 rfl ?_); refine zBox 2 #[.int .i64 a1, .int .i64 a2] 112 ?_; intro g1 hg w1 hbox hb; have GEg1 := zge hg HW; replace HW := zW HW hb; have BKg1 := Aside0.mk hbox; clear hb hbox hg; have z1_g10 := zC BKg1)
    | ((with_reducible refine zG 3 rfl ?_); refine zBox 3 #[.int .i64 b1, .int .i64 b2] 112 ?_; intro g2 hg w2 hbox hb; have GEg2 := zge hg HW; have NEg1_g2 := zne hg BKg1; replace HW := zW HW hb; replace BKg1 := zb BKg1 hb; have BKg2 := Aside0.mk hbox; clear hb hbox hg; (try clear z1_g10); have z2_g10 := zC BKg1; have z2_g20 := zC BKg2))
  go_ret
  refine ⟨?_, HW.out⟩
  first | rfl | (simp; done)
def kQ : Kd (Int × Int) := Kd.pair (Kd.int .i64) (Kd.int .i64)
theorem at_q {w : World} {ad : Addr} {n : Nat} {xs : List (Int × Int)} (h : Kd.C kQ w (some ad) n xs) (i : Nat) (h1 : i < xs.length) (x : Int × Int) (hx : xs[i] = x) : w.cell? (ad.add (i * 2)) = some (.int .i64 x.1) ∧ w.cell? ⟨(ad.add (i * 2)).block, (ad.add (i * 2)).off + 1, none⟩ = some (.int .i64 x.2) := by
  have hl := Kd.C_len h
  obtain ⟨ad', cc, e, _, hK, hc0⟩ := Kd.C_get h (0, 0) (i : Int) (by omega) (by omega)
  cases e
  have hg : xs.getD (i : Int).toNat (0, 0) = x := by rw [Int.toNat_natCast, List.getD_eq_getElem?_getD, List.getElem?_eq_getElem h1, Option.getD_some, hx]
  rw [hg] at hK
  rw [Int.toNat_natCast] at hc0
  have hc : ∀ j u, cc[j]? = some u → w.cell? (ad.add (i * 2 + j)) = some u := hc0
  obtain ⟨_, _, rfl, rfl, rfl⟩ := hK
  exact ⟨hc 0 _ rfl, by rw [← add_field _ _ 1 (by omega)]; exact hc 1 _ rfl⟩
theorem add0 (ad : Addr) : ad.add (0 * 2) = ad := by simp [Addr.add]
def bestStep (o x : Int × Int) : Int × Int := if x.2 < o.2 then x else o
def bestOf (x0 : Int × Int) (l : List (Int × Int)) : Int × Int := l.foldl bestStep x0
set_option maxHeartbeats 8000000 in
set_option maxRecDepth 100000 in
theorem best_b (ad : Addr) (c : Nat) (l : List (Int × Int)) (x0 : Int × Int) (w : World) (hC : Kd.C kQ w (some ad) l.length l) (hc : l.length ≤ c) (hn : 0 < l.length) (hx0 : l[0] = x0) (hl : l.length ≤ 1000) :
    Calls Tryz.prog 81 #[.slice (some ad) l.length c, .func (.func 82) #[] #[]] w fun e w' => e = .returned (.agg #[.int .i64 (bestOf x0 l).1, .int .i64 (bestOf x0 l).2]) ∧ Below w.heap.size w w' := by
  have hu112 := Tryz.underlying112
  have HB := Aside0.mk (Below.refl w.heap.size w)
  have HCL := Aside0.mk hC
  have HLN := Aside0.mk hn
  have HX0 := Aside0.mk hx0
  have HL := Aside0.mk hl
  have hn1 : (0 : Int) < (l.length : Int) := by omega
  clear hC hx0
  go_enter Tryz.func81, Tryz.ntmps81
  go_wp2_with (first
    | ((with_reducible refine zG 4 rfl ?_); refine zBox 4 #[.int .i64 0, .int .i64 0] 112 ?_; intro gr hg w1 hbox hb; have GEgr := zge hg HB; replace HB := zW HB hb; have BKgr := Aside0.mk hbox; clear hb hbox hg; have z1_gr0 := zC BKgr; obtain ⟨z0, z1⟩ := at_q (Kd.C_below HCL.out HB.out) 0 HLN.out x0 HX0.out; (rw [add0] at z0 z1))
    | ((with_reducible refine zG 5 rfl ?_); refine zBox 5 #[.int .i64 0, .int .i64 0] 112 ?_; intro go hg w2 hbox hb; have GEgo := zge hg HB; have NEgr_go := zne hg BKgr; replace HB := zW HB hb; replace BKgr := zb BKgr hb; have BKgo := Aside0.mk hbox; clear hb hbox hg; (try clear z1_gr0); have z2_gr0 := zC BKgr; have z2_go0 := zC BKgo; obtain ⟨z0, z1⟩ := at_q (Kd.C_below HCL.out HB.out) 0 HLN.out x0 HX0.out; (rw [add0] at z0 z1))
    | ((with_reducible refine zH 112 5 rfl ?_); refine zSto 112 5 #[.int .i64 x0.1, .int .i64 x0.2] BKgo ?_; intro w3 hw; replace HB := zWS hw GEgo HB; replace BKgr := zfar hw (by first | exact NEgr_go.out | exact NEgo_gr.out.symm) BKgr; replace BKgo := znew hw BKgo; clear hw; (try clear z2_gr0 z2_go0); have z3_gr0 := zC BKgr; have z3_go0 := zC BKgo))
  go_loopw [13] (fun v13 Wr => ∃ (i : Nat), v13 = .int .i64 i ∧ i ≤ l.length ∧ Aside0 (Below w.heap.size w Wr) ∧ Aside0 (Wr.heap[gr]? = some (.cells #[.int .i64 0, .int .i64 0] 112 (0, 0))) ∧ Aside0 (Wr.heap[go]? = some (.cells #[.int .i64 (bestOf x0 (l.take i)).1, .int .i64 (bestOf x0 (l.take i)).2] 112 (0, 0)))) (fun i _ => l.length - (intOf i).toNat)
  case atStart => exact ⟨0, rfl, by omega, HB, BKgr, BKgo⟩
  case round =>
    clear HB BKgr BKgo
    obtain ⟨i, rfl, hi, HB, BKgr, BKgo⟩ := hrel
    obtain ⟨o, ho⟩ : ∃ o, bestOf x0 (l.take i) = o := ⟨_, rfl⟩
    rw [ho] at BKgo
    have HO := Aside0.mk ho
    clear ho
    have q1_gr0 := zC BKgr
    have q1_go0 := zC BKgo
    by_cases hlt : i < l.length
    · obtain ⟨x, hx⟩ : ∃ x, l[i] = x := ⟨_, rfl⟩
      have HX := Aside0.mk hx
      have HTS := Aside0.mk (show bestOf x0 (l.take (i + 1)) = bestStep o x by rw [List.take_succ_eq_append_getElem hlt, hx, ← HO.out]; unfold bestOf; rw [List.foldl_append]; rfl)
      have hi0 : (0 : Int) ≤ (i : Int) := by omega
      have hi2 : (i : Int) ≤ 1000 := by have := HL.out; omega
      have hi1 : (i : Int) < (l.length : Int) := by omega
      have hib : decide ((i : Int) < (l.length : Int)) = true := decide_eq_true hi1
      obtain ⟨y0, y1⟩ := at_q (Kd.C_below HCL.out HB.out) i hlt x hx
      clear hx
      by_cases hcc : x.2 < o.2
      · have HCC := Aside0.mk (decide_eq_true hcc)
        have HST := Aside0.mk (show bestStep o x = x by unfold bestStep; rw [if_pos hcc])
        clear hcc
        go_wp2_with (first
          | ((with_reducible refine zG 7 rfl ?_); refine zBox 7 #[.int .i64 0, .int .i64 0] 112 ?_; intro gx hg w4 hbox hb; have GEgx := zge hg HB; have NEgr_gx := zne hg BKgr; have NEgo_gx := zne hg BKgo; replace HB := zW HB hb; replace BKgr := zb BKgr hb; replace BKgo := zb BKgo hb; have BKgx := Aside0.mk hbox; clear hb hbox hg; have u1_gr0 := zC BKgr; have u1_go0 := zC BKgo; have u1_gx0 := zC BKgx)
          | ((with_reducible refine zH 112 7 rfl ?_); refine zSto 112 7 #[.int .i64 x.1, .int .i64 x.2] BKgx ?_; intro w5 hw; replace HB := zWS hw GEgx HB; replace BKgr := zfar hw (by first | exact NEgr_gx.out | exact NEgx_gr.out.symm) BKgr; replace BKgo := zfar hw (by first | exact NEgo_gx.out | exact NEgx_go.out.symm) BKgo; replace BKgx := znew hw BKgx; clear hw; (try clear u1_gr0 u1_go0 u1_gx0); have u2_gr0 := zC BKgr; have u2_go0 := zC BKgo; have u2_gx0 := zC BKgx)
          | (go_at_call 82; (with_reducible refine (better_b x.1 x.2 o.1 o.2 _).mono ?_); rintro e w6 ⟨rfl, hb⟩; rw [HCC.out]; replace HB := zW HB hb; replace BKgr := zb BKgr hb; replace BKgo := zb BKgo hb; replace BKgx := zb BKgx hb; clear hb; (try clear u2_gr0 u2_go0 u2_gx0); have u3_gr0 := zC BKgr; have u3_go0 := zC BKgo; have u3_gx0 := zC BKgx)
          | ((with_reducible refine zH 112 5 rfl ?_); refine zSto 112 5 #[.int .i64 x.1, .int .i64 x.2] BKgo ?_; intro w7 hw; replace HB := zWS hw GEgo HB; replace BKgr := zfar hw (by exact NEgr_go.out) BKgr; replace BKgx := zfar hw (by exact NEgo_gx.out.symm) BKgx; replace BKgo := znew hw BKgo; clear hw; (try clear u3_gr0 u3_go0 u3_gx0); have u4_gr0 := zC BKgr; have u4_go0 := zC BKgo; have u4_gx0 := zC BKgx))
        go_roundw
        case rel => exact ⟨i + 1, by go_num, by omega, HB, BKgr, by rw [HTS.out, HST.out]; exact BKgo⟩
        case measure => simp [intOf]; omega
      · have HCC := Aside0.mk (decide_eq_false hcc)
        have HST := Aside0.mk (show bestStep o x = o by unfold bestStep; rw [if_neg hcc])
        clear hcc
        go_wp2_with (first
          | ((with_reducible refine zG 7 rfl ?_); refine zBox 7 #[.int .i64 0, .int .i64 0] 112 ?_; intro gx hg w4 hbox hb; have GEgx := zge hg HB; have NEgr_gx := zne hg BKgr; have NEgo_gx := zne hg BKgo; replace HB := zW HB hb; replace BKgr := zb BKgr hb; replace BKgo := zb BKgo hb; have BKgx := Aside0.mk hbox; clear hb hbox hg; have u1_gr0 := zC BKgr; have u1_go0 := zC BKgo; have u1_gx0 := zC BKgx)
          | ((with_reducible refine zH 112 7 rfl ?_); refine zSto 112 7 #[.int .i64 x.1, .int .i64 x.2] BKgx ?_; intro w5 hw; replace HB := zWS hw GEgx HB; replace BKgr := zfar hw (by first | exact NEgr_gx.out | exact NEgx_gr.out.symm) BKgr; replace BKgo := zfar hw (by first | exact NEgo_gx.out | exact NEgx_go.out.symm) BKgo; replace BKgx := znew hw BKgx; clear hw; (try clear u1_gr0 u1_go0 u1_gx0); have u2_gr0 := zC BKgr; have u2_go0 := zC BKgo; have u2_gx0 := zC BKgx)
          | (go_at_call 82; (with_reducible refine (better_b x.1 x.2 o.1 o.2 _).mono ?_); rintro e w6 ⟨rfl, hb⟩; rw [HCC.out]; replace HB := zW HB hb; replace BKgr := zb BKgr hb; replace BKgo := zb BKgo hb; replace BKgx := zb BKgx hb; clear hb; (try clear u2_gr0 u2_go0 u2_gx0); have u3_gr0 := zC BKgr; have u3_go0 := zC BKgo; have u3_gx0 := zC BKgx))
        go_roundw
        case rel => exact ⟨i + 1, by go_num, by omega, HB, BKgr, by rw [HTS.out, HST.out]; exact BKgo⟩
        case measure => simp [intOf]; omega
    · have hie : i = l.length := by omega
      subst hie
      have HT := Aside0.mk (show l.take l.length = l from List.take_length)
      go_wp2_with (first
        | ((with_reducible refine zH 112 4 rfl ?_); refine zSto 112 4 #[.int .i64 o.1, .int .i64 o.2] BKgr ?_; intro w8 hw; replace HB := zWS hw GEgr HB; replace BKgo := zfar hw (by first | exact NEgo_gr.out | exact NEgr_go.out.symm) BKgo; replace BKgr := znew hw BKgr; clear hw; (try clear q1_gr0 q1_go0); have q2_gr0 := zC BKgr; have q2_go0 := zC BKgo))
      refine bodyPost_ret (results_cell_row rfl _ _ gr 112 #[.int .i64 o.1, .int .i64 o.2] (0, 0) _ rfl BKgr.out Tryz.underlying112 rfl (by kernel_rfl)) rfl ?_
      exact ⟨by rw [← HO.out, HT.out], HB.out⟩
end Go.Proofs.YtnllidgonghckaaGreatDoor.X
