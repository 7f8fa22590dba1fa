/- The law DialDates returns true for every input: its walk, its pure law and its tied card. Conditions: the library's tables that the row lists read as their source says (part 1 of 2). -/
import Derived.ArgAppend
import Derived.Below
import Derived.BigQuiet
import Derived.Deep.AppendLies
import Derived.Deep.CutBlock
import Derived.Deep.DeepCutAuto
import Derived.Deep.Draws
import Derived.Deep.LoopGhost
import Derived.Deep.OwnRows
import Derived.Deep.QuietTactic
import Derived.Deep.RegionHeld3
import Derived.DeepKeys5
import Derived.Defers
import Derived.KernelRfl
import Derived.Laws.BitsLemmas
import Derived.Laws.BytesArg
import Derived.Laws.CopyOwn
import Derived.Laws.IdiomCopy
import Derived.Laws.MakeOwn
import Derived.Laws.OwnMore
import Derived.Laws.Rows
import Derived.Laws.Slices
import Derived.Laws.StructEq
import Derived.Laws.Tables
import Derived.Lib.AppendStr
import Derived.Lib.ConvBytes
import Derived.Lib.ItoaLen
import Derived.Maps.AppendAt
import Derived.Maps.OwnOps
import Derived.OrdersHeld
import Derived.OwnWalk
import Derived.OwnWalkIn
import Derived.RangeFuncCalls
import Derived.RangeFuncKeeps
import Derived.RangeFuncLeaves
import Derived.Recover
import Derived.RowKit
import Derived.RowKit3
import Derived.Shelf.LaysM
import Derived.Shelf.Small.Wraps
import Derived.Shelf.Strconv.Itoa0
import Derived.Shelf.Strconv.Itoa1
import Derived.Shelf.Strconv.Itoa2
import Derived.Shelf.Strconv.Itoa3
import Derived.Shelf.Strings.Builder1
import Derived.Shelf.Strings.Builder2
import Derived.Shelf.Strings.Builder2Cap
import Derived.Shelf.Strings.BuilderCap
import Derived.Shelf.Strings.BuilderF
import Derived.Shelf.Strings.BuilderK
import Derived.Shelf.Strings.OnBuilder
import Derived.Tactics
import Derived.Tactics2
import Derived.TacticsInMore
import Derived.Test.YtnllidgonghckaaGreatDoorProg
import Derived.WalkKit
import Derived.WalkLawsBesides
import Derived.WideKeyEntry
import Derived.WideLaws
import Derived.Test.YtnllidgonghckaaGreatDoorC11
namespace Go.Proofs.YtnllidgonghckaaGreatDoor.X
open Go.RowKit Go.Proofs.YtnllidgonghckaaGreatDoorW.PrintWords Go.Proofs.YtnllidgonghckaaGreatDoorW.PrintLast
theorem zq {B : Nat} {w W : World} (h : Below B w W := by repeat (first | (with_reducible first | exact HB.out | apply below_alloc | apply pw_below_drewN | apply below_drew1) | exact HB.out)) : Below B w W := h
theorem zqs {B : Nat} {w W : World} (h : Below B w W := by repeat (first | (with_reducible first | exact HB.out | apply below_alloc | apply pw_below_drewN | apply below_drew1 | refine below_set ?_ (Aside0.out (by assumption))) | exact HB.out)) : Below B w W := h
theorem zz {p : Prop} (h : p := by first | rfl | (simp; done) | (simp [*]; done)) : p := h
theorem zh {V U : World} {g : Nat} {o : Obj} (h : Aside0 (V.heap[g]? = some o)) (e : V.heap[g]? = some o → U.heap[g]? = some o := by (intro hx; (with_reducible repeat (first | refine blk_drewN ?_ _ | refine blk_drew ?_ | refine blk_alloc ?_ _)); exact hx)) : U.heap[g]? = some o := e h.out
theorem zE {p : Prop} (h : p := by first | rfl | (simp [errW_none, errW_some] <;> rfl) | (simp [*, errW_none, errW_some] <;> rfl)) : p := h
theorem znU {V U : World} {g k : Nat} {o : Obj} (hg : g = U.heap.size) (h : Aside0 (V.heap[k]? = some o)) (e : V.heap[k]? = some o → U.heap[k]? = some o := by (intro hx; (with_reducible repeat (first | refine blk_drewN ?_ _ | refine blk_drew ?_ | refine blk_alloc ?_ _)); exact hx)) : Aside0 (k ≠ g) := ⟨by rw [hg]; exact Nat.ne_of_lt (blk_lt (e h.out))⟩
theorem znV {V U : World} {g k : Nat} {o : Obj} (hg : g = U.heap.size) (h : Aside0 (V.heap[k]? = some o)) (e : V.heap[k]? = some o → U.heap[k]? = some o := by (intro hx; (with_reducible repeat (first | refine blk_drewN ?_ _ | refine blk_drew ?_ | refine blk_alloc ?_ _)); exact hx)) : Aside0 (g ≠ k) := ⟨by rw [hg]; exact Nat.ne_of_gt (blk_lt (e h.out))⟩
theorem zbN {V U W1 : World} {g : Nat} {o : Obj} (h : Aside0 (V.heap[g]? = some o)) (hb : Below U.heap.size U W1) (e : V.heap[g]? = some o → U.heap[g]? = some o := by (intro hx; (with_reducible repeat (first | refine blk_drewN ?_ _ | refine blk_drew ?_ | refine blk_alloc ?_ _)); exact hx)) : Aside0 (W1.heap[g]? = some o) := ⟨blk_below (e h.out) hb⟩
section
variable {P : Program} {opsX : Array Oper} {Q : Exit → Act → World → Prop} {rest : List Oper} {a : Act}
theorem zGl {oi : Oper} (N : Option Tmp) {f : FuncId} {fn : Func} (hf : P.funcs[f]? = some fn) (args : Array Value) {w : World} {as_ : Array Operand} {ts : Array TypeId} (h : Calls P f args w fun e w' => ∃ v, e = .returned v ∧ wpList P opsX Q rest (a.put N v) w')
    (hd : oi.dst = N := by rfl) (hg : oi.guard = none := by rfl) (hname : (fn.name == "runtime.NumGoroutine") = false := by kernel_rfl) (hb : fn.body.isSome = true := by rfl) (hop : oi.op = .call { callee := .value (.func f), args := as_, argTypes := ts } := by rfl)
    (hargs : as_.map a.eval = args := by (try simp only [List.map_toArray, List.map_cons, List.map_nil]); first | done | rfl | (simp only [List.length_drop, List.length_take]; rfl)) : wpList P opsX Q (oi :: rest) a w := goesL_ N hd hg hf hname hb args hop hargs h
end
end Go.Proofs.YtnllidgonghckaaGreatDoor.X
set_option linter.unusedVariables false
set_option linter.unusedSimpArgs false
namespace Go.Proofs.YtnllidgonghckaaGreatDoorW.PrintWords
open Go.RowKit
namespace Kd
theorem C_of_reads {α : Type} {enc : α → Value} {d : α} {h1 : ∀ x, (enc x).oneCell' = true} {w : World} {A : Option Addr} {n : Nat} {xs : List α} (h : ReadsOf enc d w A n xs) : (scalar enc h1).C w A n xs := by
  refine ⟨h.1, h.2.1, fun hn => ?_⟩
  obtain ⟨ad, e, hc⟩ := h.2.2 hn
  refine ⟨ad, e, fun j p hj => ⟨[enc p], rfl, rfl, fun i u hu => ?_⟩⟩
  obtain ⟨hl, hp⟩ := List.getElem?_eq_some_iff.1 hj
  have h2 := hc j (by have := h.1; omega)
  rw [List.getD_eq_getElem?_getD, hj] at h2
  cases i with
  | zero =>
    have : enc p = u := by simpa using hu
    subst this
    simpa [scalar] using h2
  | succ i => simp at hu
end Kd
theorem ReadsInt.nil (W : World) (k : IntKind) : ReadsInt W k none ([] : List Int).length [] := ⟨rfl, by simp, fun h => absurd h (Nat.lt_irrefl 0)⟩
theorem ReadsInt.ofRow {k : IntKind} {w : World} {a : Option Addr} {len cap : Nat} {zs : List Int} (h : (a = none ∧ len = 0 ∧ cap = 0 ∧ zs = []) ∨ ∃ x, a = some x ∧ len ≤ cap ∧ cap ≤ maxLen ∧ zs.length = cap ∧ (∀ i, i < zs.length → w.cell? (x.add i) = some (.int k (zs.getD i 0))) ∧ ∀ n ∈ zs, (Lit.int k n).wf = true) :
    ∃ l : List Int, len = l.length ∧ ReadsInt w k a l.length l ∧ l.length ≤ maxLen ∧ ∀ x ∈ l, (Lit.int k x).wf = true := by
  rcases h with ⟨rfl, rfl, rfl, rfl⟩ | ⟨x, rfl, hl, hm, hz, hc, hw⟩
  · exact ⟨[], rfl, ReadsInt.nil _ _, Nat.zero_le _, fun x hx => by simp at hx⟩
  · have e : (zs.take len).length = len := by simp; omega
    have hm' : len ≤ maxLen := Nat.le_trans hl hm
    refine ⟨zs.take len, e.symm, ⟨rfl, by rw [e]; simpa [maxLen] using hm', fun _ => ⟨x, rfl, fun j hj => ?_⟩⟩, by rw [e]; exact hm', fun y hy => hw y (List.mem_of_mem_take hy)⟩
    rw [e] at hj
    rw [hc j (by omega)]
    simp [List.getD, List.getElem?_take, hj]
theorem ReadsInt.ofRowC {k : IntKind} {w : World} {a : Option Addr} {len cap : Nat} {zs : List Int} (h : (a = none ∧ len = 0 ∧ cap = 0 ∧ zs = []) ∨ ∃ x, a = some x ∧ len ≤ cap ∧ cap ≤ maxLen ∧ zs.length = cap ∧ (∀ i, i < zs.length → w.cell? (x.add i) = some (.int k (zs.getD i 0))) ∧ ∀ n ∈ zs, (Lit.int k n).wf = true) :
    ∃ l : List Int, len = l.length ∧ ReadsInt w k a l.length l ∧ l.length ≤ maxLen ∧ (∀ x ∈ l, (Lit.int k x).wf = true) ∧ l.length ≤ cap := by
  have hl : len ≤ cap := by
    rcases h with ⟨_, rfl, rfl, _⟩ | ⟨_, _, h, _⟩
    · exact Nat.le_refl _
    · exact h
  obtain ⟨l, e, h1, h2, h3⟩ := ReadsInt.ofRow h
  exact ⟨l, e, h1, h2, h3, e ▸ hl⟩
end Go.Proofs.YtnllidgonghckaaGreatDoorW.PrintWords
namespace Go.Proofs.YtnllidgonghckaaGreatDoorW.PrintWords
open Go.RowKit
section
variable {P : Program} {d : Nat} {xs ys : Array Value} {f : Field} {fs : List Field} {a b : Value} {r s : Bool} {w : World}
theorem eqf_last (hn : (f.name == "_") = false) (ha : (part f.type xs f.offset).run P w = .ok a w) (hb : (part f.type ys f.offset).run P w = .ok b w) (he : (Op.equalIn d f.type a b).run P w = .ok r w) : (Op.eqFields d xs ys [f]).run P w = .ok r w := by
  have hn' : f.name ≠ "_" := by simpa using hn
  simp only [Op.eqFields, if_pos hn', Sem.run_bind, ha, hb, he, Result.andThen_ok]
  cases r <;> simp
theorem eqf_cons (hn : (f.name == "_") = false) (ha : (part f.type xs f.offset).run P w = .ok a w) (hb : (part f.type ys f.offset).run P w = .ok b w) (he : (Op.equalIn d f.type a b).run P w = .ok r w) (hr : (Op.eqFields d xs ys fs).run P w = .ok s w) : (Op.eqFields d xs ys (f :: fs)).run P w = .ok (r && s) w := by
  have hn' : f.name ≠ "_" := by simpa using hn
  rw [Op.eqFields]
  simp only [if_pos hn', Sem.run_bind, ha, hb, he, Result.andThen_ok]
  cases r
  · simp
  · simpa using hr
theorem eqA_of {t : TypeId} {fs : Array Field} (hu : P.underlying t = some (.struct fs)) (hp : P.stoodInHeld t = false) (h : (Op.eqFields d xs ys fs.toList).run P w = .ok r w) : (Op.equalIn (d + 1) t (.agg xs) (.agg ys)).run P w = .ok r w := by
  have hf : P.fieldsOf t = fs := by simp [Program.fieldsOf, hu]
  rw [run_equalIn_struct (P := P) w d t xs ys (by rw [hf]; exact hu) hp, hf]
  exact h
end
theorem drewN_self (w : World) (n : Nat) : w.drewN n = w.drewN n := rfl
end Go.Proofs.YtnllidgonghckaaGreatDoorW.PrintWords
namespace Go.Proofs.YtnllidgonghckaaGreatDoor.X
open Go.RowKit Go.Proofs.YtnllidgonghckaaGreatDoorW.PrintWords Go.Proofs.YtnllidgonghckaaGreatDoorW.PrintLast Go.Proofs.YtnllidgonghckaaGreatDoorW.PrintMore
attribute [local go_sem] max2_int min2_int max_two min_two max_three min_three max_four min_four
set_option linter.unusedVariables false
set_option linter.unusedSimpArgs false
theorem eqA38 (d : Nat) (w : World) (x0 y0 : Int) (x1 y1 : Int) (x2 y2 : Int) :
    (Op.equalIn (d + 2) 38 (.agg #[.int .i64 x0, .int .i64 x1, .int .i64 x2]) (.agg #[.int .i64 y0, .int .i64 y1, .int .i64 y2])).run Tryz.prog w = .ok (x0 == y0 && (x1 == y1 && (x2 == y2))) w := by
  refine eqA_of Tryz.underlying38 (by kernel_rfl) ?_
  refine eqf_cons (by rfl) (by go_simp; rfl) (by go_simp; rfl) (by go_simp) ?_
  refine eqf_cons (by rfl) (by go_simp; rfl) (by go_simp; rfl) (by go_simp) ?_
  exact eqf_last (by rfl) (by go_simp; rfl) (by go_simp; rfl) (by go_simp)
def qshort.f (a0_0 : Int) (l0_1 : List Int) : Option (Bool) := some (decide ((l0_1.length : Int) ≤ 5))
set_option maxHeartbeats 8000000 in
set_option maxRecDepth 100000 in
theorem qshort.calls (a0_0 : Int) (A0_1 : Option Addr) (c0_1 : Nat) (l0_1 : List Int) (r : Bool) (w : World) (hr0_1 : Kd.C (Kd.int .i64) w A0_1 l0_1.length l0_1) (hc0_1 : l0_1.length ≤ c0_1) (h : qshort.f a0_0 l0_1 = some r) :
    Calls Tryz.prog 10 #[.agg #[.int .i64 a0_0, .slice A0_1 l0_1.length c0_1]] w fun e w' => e = .returned (.bool r) ∧ Below w.heap.size w w' := by
  have hu24 := Tryz.underlying24
  have HR0_1 := Aside0.mk hr0_1
  have HC0_1 := Aside0.mk hc0_1
  clear hr0_1 hc0_1
  have HB := Aside0.mk (Below.refl w.heap.size w)
  have H : (some (decide ((l0_1.length : Int) ≤ 5))) = some r := h
  clear h
  obtain rfl := Option.some.inj H
  go_enter Tryz.func10, Tryz.ntmps10
  go_wp2_with (first | ((with_reducible refine zG 1 rfl ?_); refine zBox 1 #[.int .i64 a0_0, .slice A0_1 l0_1.length c0_1] 24 ?_; intro gb101 hg w2 hbox hb; have BK101 := Aside0.mk (hbox); have GW101 := Aside0.mk ((by rw [hg]; exact (below_size zq) : w.heap.size ≤ gb101)); have GE101 := Aside0.mk ((by rw [hg]; exact (below_size zq) : w.heap.size ≤ gb101)); replace HB := Aside0.mk (below_step zq hb); clear hb hbox hg; have hcz3_0 := zC BK101; have hfz3_0 := zF BK101))
  go_ret
  exact ⟨zE, zqs⟩
def qCalendar.l0 : Nat → Int → Int → List Int → Option (Bool)
  | 0, _, _, _ => none
  | k + 1, x3, x237000, x237001 => if x3 < (x237001.length : Int) then (if 0 ≤ x3 then ((tellurionref06_in.f (rd x237001 x3) 2 1000).bind fun t238 => (if t238 = true then (if x3 > 0 then (if 0 ≤ (wrap64 (x3 - 1)) then (if (wrap64 (x3 - 1)) < (x237001.length : Int) then (if (rd x237001 x3) ≤ (rd x237001 (wrap64 (x3 - 1))) then (some false) else (qCalendar.l0 k (wrap64 (x3 + 1)) x237000 x237001)) else (none)) else (none)) else (qCalendar.l0 k (wrap64 (x3 + 1)) x237000 x237001)) else (some false))) else (none)) else ((tellurionref06_in.f x237000 0 1000).bind fun t241 => (if t241 = true then ((tellurionref06_in.f (x237001.length : Int) 1 3).bind fun t242 => (some t242)) else (some false)))
def qCalendar.f (k : Nat) (a0_0 : Int) (l0_1 : List Int) : Option (Bool) := qCalendar.l0 k 0 a0_0 l0_1
set_option maxHeartbeats 8000000 in
set_option maxRecDepth 100000 in
theorem qCalendar.calls (k : Nat) (a0_0 : Int) (A0_1 : Option Addr) (c0_1 : Nat) (l0_1 : List Int) (r : Bool) (w : World) (hr0_1 : Kd.C (Kd.int .i64) w A0_1 l0_1.length l0_1) (hc0_1 : l0_1.length ≤ c0_1) (h : qCalendar.f k a0_0 l0_1 = some r) :
    Calls Tryz.prog 14 #[.agg #[.int .i64 a0_0, .slice A0_1 l0_1.length c0_1]] w fun e w' => e = .returned (.bool r) ∧ Below w.heap.size w w' := by
  have hu24 := Tryz.underlying24
  have HR0_1 := Aside0.mk hr0_1
  have HC0_1 := Aside0.mk hc0_1
  clear hr0_1 hc0_1
  have HB := Aside0.mk (Below.refl w.heap.size w)
  have H : (qCalendar.l0 k 0 a0_0 l0_1) = some r := h
  clear h
  have H' := Aside0.mk H
  clear H
  go_enter Tryz.func14, Tryz.ntmps14
  go_wp2_with (first | ((with_reducible refine zG 1 rfl ?_); (try (refine gate_guard (by rfl) ?_; dsimp only)); refine box_event ?hg (N := 1) ?hd (cs := #[.int .i64 a0_0, .slice A0_1 l0_1.length c0_1]) (t := 24) ?hr ?_; (case hd => rfl); (case hg => rfl); (case hr => first | (go_simp; done) | (go_simp; rfl)); intro gb236 hg w2 hbox hb; have BK236 := Aside0.mk (hbox); have GW236 := Aside0.mk ((by rw [hg]; exact (below_size zq) : w.heap.size ≤ gb236)); have GE236 := Aside0.mk ((by rw [hg]; exact (below_size zq) : w.heap.size ≤ gb236)); replace HB := Aside0.mk (below_step zq hb); clear hb hbox hg))
  repeat (go_quiet (first | ((with_reducible refine zG 1 rfl ?_); (try (refine gate_guard (by rfl) ?_; dsimp only)); refine box_event ?hg (N := 1) ?hd (cs := #[.int .i64 a0_0, .slice A0_1 l0_1.length c0_1]) (t := 24) ?hr ?_; (case hd => rfl); (case hg => rfl); (case hr => first | (go_simp; done) | (go_simp; rfl)); intro gb236 hg w2 hbox hb; have BK236 := Aside0.mk (hbox); have GW236 := Aside0.mk ((by rw [hg]; exact (below_size zq) : w.heap.size ≤ gb236)); have GE236 := Aside0.mk ((by rw [hg]; exact (below_size zq) : w.heap.size ≤ gb236)); replace HB := Aside0.mk (below_step zq hb); clear hb hbox hg)); try go_wp2_with (first | ((with_reducible refine zG 1 rfl ?_); (try (refine gate_guard (by rfl) ?_; dsimp only)); refine box_event ?hg (N := 1) ?hd (cs := #[.int .i64 a0_0, .slice A0_1 l0_1.length c0_1]) (t := 24) ?hr ?_; (case hd => rfl); (case hg => rfl); (case hr => first | (go_simp; done) | (go_simp; rfl)); intro gb236 hg w2 hbox hb; have BK236 := Aside0.mk (hbox); have GW236 := Aside0.mk ((by rw [hg]; exact (below_size zq) : w.heap.size ≤ gb236)); have GE236 := Aside0.mk ((by rw [hg]; exact (below_size zq) : w.heap.size ≤ gb236)); replace HB := Aside0.mk (below_step zq hb); clear hb hbox hg)))
  go_loopg [3] k (fun kq v3 w' => ∃ (x3_1 : Int), v3 = .int .i64 x3_1 ∧ Aside0 (qCalendar.l0 kq x3_1 a0_0 l0_1 = some r) ∧ Aside0 (kq ≤ k) ∧ Aside0 (w'.heap[gb236]? = some (.cells #[.int .i64 a0_0, (.slice A0_1 l0_1.length c0_1)] 24 (0, 0))) ∧ Aside0 (Below w.heap.size w w'))
  case atStart => exact ⟨(0), zz, H', ⟨Nat.le_refl _⟩, ⟨zh BK236⟩, ⟨zqs⟩⟩
  case round =>
    clear H'
    try clear c1
    try clear p2
    obtain ⟨x3_1, rfl, HA, HK1, BK236, HB⟩ := hrel
    cases gk with
    | zero => exact absurd HA.out (by simp [qCalendar.l0])
    | succ k1 =>
      have H := HA.out
      clear HA
      simp only [qCalendar.l0] at H
      by_cases c3 : x3_1 < (l0_1.length : Int)
      · rw [if_pos c3] at H
        have c3b0 : decide (x3_1 < (l0_1.length : Int)) = true := decide_eq_true c3
        clear c3
        by_cases c4 : 0 ≤ x3_1
        · rw [if_pos c4] at H
          have c4b0 : decide (0 ≤ x3_1) = true := decide_eq_true c4
          clear c4
          replace H := Option.bind_eq_some_iff.mp H
          obtain ⟨t238, A50, H⟩ := H
          replace H : (if t238 = true then (if x3_1 > 0 then (if 0 ≤ (wrap64 (x3_1 - 1)) then (if (wrap64 (x3_1 - 1)) < (l0_1.length : Int) then (if (rd l0_1 x3_1) ≤ (rd l0_1 (wrap64 (x3_1 - 1))) then (some false) else (qCalendar.l0 k1 (wrap64 (x3_1 + 1)) a0_0 l0_1)) else (none)) else (none)) else (qCalendar.l0 k1 (wrap64 (x3_1 + 1)) a0_0 l0_1)) else (some false)) = some r := H
          have A5 := Aside0.mk A50
          clear A50
          by_cases c6 : t238 = true
          · subst c6
            have H1 : (if x3_1 > 0 then (if 0 ≤ (wrap64 (x3_1 - 1)) then (if (wrap64 (x3_1 - 1)) < (l0_1.length : Int) then (if (rd l0_1 x3_1) ≤ (rd l0_1 (wrap64 (x3_1 - 1))) then (some false) else (qCalendar.l0 k1 (wrap64 (x3_1 + 1)) a0_0 l0_1)) else (none)) else (none)) else (qCalendar.l0 k1 (wrap64 (x3_1 + 1)) a0_0 l0_1)) = some r := by rw [if_pos rfl] at H; exact H
            clear H
            have H := H1
            clear H1
            by_cases c7 : x3_1 > 0
            · rw [if_pos c7] at H
              have c7b0 : decide (0 < x3_1) = true := decide_eq_true c7
              clear c7
              obtain ⟨ji8, hji8⟩ : ∃ j_ : Int, (wrap64 (x3_1 - 1)) = j_ := ⟨_, rfl⟩
              replace H : (if 0 ≤ (ji8) then (if (ji8) < (l0_1.length : Int) then (if (rd l0_1 x3_1) ≤ (rd l0_1 (ji8)) then (some false) else (qCalendar.l0 k1 (wrap64 (x3_1 + 1)) a0_0 l0_1)) else (none)) else (none)) = some r := by first | (rw [hji8] at H; exact H) | (simp only [hji8] at H ⊢; exact H)
              (try rw [hji8] at A5)
              have hji8w : (IntKind.i64.wrap (x3_1 - 1)) = ji8 := (i64_w _).trans hji8
              by_cases c9 : 0 ≤ (ji8)
              · rw [if_pos c9] at H
                have c9b0 : decide (0 ≤ (ji8)) = true := decide_eq_true c9
                clear c9
                by_cases c10 : (ji8) < (l0_1.length : Int)
                · rw [if_pos c10] at H
                  have c10b0 : decide ((ji8) < (l0_1.length : Int)) = true := decide_eq_true c10
                  clear c10
                  by_cases c11 : (rd l0_1 x3_1) ≤ (rd l0_1 (ji8))
                  · rw [if_pos c11] at H
                    have c11b0 : decide ((rd l0_1 x3_1) ≤ (rd l0_1 (ji8))) = true := decide_eq_true c11
                    clear c11
                    obtain rfl := Option.some.inj H
                    have hcz12_0 := zC BK236
                    have hfz12_0 := zF BK236
                    have p237 : 0 ≤ (x3_1 : Int) := of_decide_eq_true (by first | (with_reducible assumption) | assumption)
                    have q237 : x3_1 < (l0_1.length : Int) := of_decide_eq_true (by first | (with_reducible assumption) | assumption)
                    obtain ⟨ad237, e237, hx237_0⟩ := Kd.at_int HR0_1.out x3_1 p237 q237
                    cases e237
                    replace hx237_0 := (HB.out.cell (World.block_lt_of_cell? w _ hx237_0)).trans hx237_0
                    replace p237 := eq_true p237
                    replace q237 := eq_true q237
                    go_wp2_with (first | (go_at_call 51; (with_reducible refine (tellurionref06_in.calls (rd l0_1 x3_1) 2 1000 true _ A5.out).mono ?_); rintro e w' ⟨rfl, ⟨nd, rfl⟩⟩; (try first | exact ⟨rfl, _, World.drewN_drewN _ _ _⟩ | exact ⟨rfl, _, Eq.trans (World.drewN_drewN _ _ _) (congrArg (World.drewN _) (Nat.add_assoc _ _ _))⟩); have p239 : 0 ≤ (x3_1 : Int) := of_decide_eq_true (by first | (with_reducible assumption) | assumption); have q239 : x3_1 < (l0_1.length : Int) := of_decide_eq_true (by first | (with_reducible assumption) | assumption); obtain ⟨ad239, e239, hx239_0⟩ := Kd.at_int HR0_1.out x3_1 p239 q239; obtain rfl : ad237 = ad239 := (by injection e239); replace hx239_0 := (HB.out.cell (World.block_lt_of_cell? w _ hx239_0)).trans hx239_0; replace p239 := eq_true p239; replace q239 := eq_true q239; have p240 : 0 ≤ ((ji8) : Int) := of_decide_eq_true (by first | (with_reducible assumption) | assumption); have q240 : (ji8) < (l0_1.length : Int) := of_decide_eq_true (by first | (with_reducible assumption) | assumption); obtain ⟨ad240, e240, hx240_0⟩ := Kd.at_int HR0_1.out (ji8) p240 q240; obtain rfl : ad237 = ad240 := (by injection e240); replace hx240_0 := (HB.out.cell (World.block_lt_of_cell? w _ hx240_0)).trans hx240_0; replace p240 := eq_true p240; replace q240 := eq_true q240))
                    repeat (go_quiet (first | (go_at_call 51; (with_reducible refine (tellurionref06_in.calls (rd l0_1 x3_1) 2 1000 true _ A5.out).mono ?_); rintro e w' ⟨rfl, ⟨nd, rfl⟩⟩; (try first | exact ⟨rfl, _, World.drewN_drewN _ _ _⟩ | exact ⟨rfl, _, Eq.trans (World.drewN_drewN _ _ _) (congrArg (World.drewN _) (Nat.add_assoc _ _ _))⟩); have p239 : 0 ≤ (x3_1 : Int) := of_decide_eq_true (by first | (with_reducible assumption) | assumption); have q239 : x3_1 < (l0_1.length : Int) := of_decide_eq_true (by first | (with_reducible assumption) | assumption); obtain ⟨ad239, e239, hx239_0⟩ := Kd.at_int HR0_1.out x3_1 p239 q239; obtain rfl : ad237 = ad239 := (by injection e239); replace hx239_0 := (HB.out.cell (World.block_lt_of_cell? w _ hx239_0)).trans hx239_0; replace p239 := eq_true p239; replace q239 := eq_true q239; have p240 : 0 ≤ ((ji8) : Int) := of_decide_eq_true (by first | (with_reducible assumption) | assumption); have q240 : (ji8) < (l0_1.length : Int) := of_decide_eq_true (by first | (with_reducible assumption) | assumption); obtain ⟨ad240, e240, hx240_0⟩ := Kd.at_int HR0_1.out (ji8) p240 q240; obtain rfl : ad237 = ad240 := (by injection e240); replace hx240_0 := (HB.out.cell (World.block_lt_of_cell? w _ hx240_0)).trans hx240_0; replace p240 := eq_true p240; replace q240 := eq_true q240)); try go_wp2_with (first | (go_at_call 51; (with_reducible refine (tellurionref06_in.calls (rd l0_1 x3_1) 2 1000 true _ A5.out).mono ?_); rintro e w' ⟨rfl, ⟨nd, rfl⟩⟩; (try first | exact ⟨rfl, _, World.drewN_drewN _ _ _⟩ | exact ⟨rfl, _, Eq.trans (World.drewN_drewN _ _ _) (congrArg (World.drewN _) (Nat.add_assoc _ _ _))⟩); have p239 : 0 ≤ (x3_1 : Int) := of_decide_eq_true (by first | (with_reducible assumption) | assumption); have q239 : x3_1 < (l0_1.length : Int) := of_decide_eq_true (by first | (with_reducible assumption) | assumption); obtain ⟨ad239, e239, hx239_0⟩ := Kd.at_int HR0_1.out x3_1 p239 q239; obtain rfl : ad237 = ad239 := (by injection e239); replace hx239_0 := (HB.out.cell (World.block_lt_of_cell? w _ hx239_0)).trans hx239_0; replace p239 := eq_true p239; replace q239 := eq_true q239; have p240 : 0 ≤ ((ji8) : Int) := of_decide_eq_true (by first | (with_reducible assumption) | assumption); have q240 : (ji8) < (l0_1.length : Int) := of_decide_eq_true (by first | (with_reducible assumption) | assumption); obtain ⟨ad240, e240, hx240_0⟩ := Kd.at_int HR0_1.out (ji8) p240 q240; obtain rfl : ad237 = ad240 := (by injection e240); replace hx240_0 := (HB.out.cell (World.block_lt_of_cell? w _ hx240_0)).trans hx240_0; replace p240 := eq_true p240; replace q240 := eq_true q240)))
                    go_ret
                    exact ⟨by first | rfl | (simp [errW_none, errW_some] <;> rfl) | (simp only [← hji8]; first | rfl | (simp [errW_none, errW_some] <;> rfl)) | (simp [*, errW_none, errW_some] <;> rfl), by repeat (first | (with_reducible first | exact HB.out | apply below_alloc | apply pw_below_drewN | apply below_drew1 | refine below_set ?_ GE236.out) | exact HB.out)⟩
                  · rw [if_neg c11] at H
                    have c11b0 : decide ((rd l0_1 x3_1) ≤ (rd l0_1 (ji8))) = false := decide_eq_false c11
                    clear c11
                    have H' := Aside0.mk H
                    clear H
                    have hcz13_0 := zC BK236
                    have hfz13_0 := zF BK236
                    have p237 : 0 ≤ (x3_1 : Int) := of_decide_eq_true (by first | (with_reducible assumption) | assumption)
                    have q237 : x3_1 < (l0_1.length : Int) := of_decide_eq_true (by first | (with_reducible assumption) | assumption)
                    obtain ⟨ad237, e237, hx237_0⟩ := Kd.at_int HR0_1.out x3_1 p237 q237
                    cases e237
                    replace hx237_0 := (HB.out.cell (World.block_lt_of_cell? w _ hx237_0)).trans hx237_0
                    replace p237 := eq_true p237
                    replace q237 := eq_true q237
                    go_wp2_with (first | (go_at_call 51; (with_reducible refine (tellurionref06_in.calls (rd l0_1 x3_1) 2 1000 true _ A5.out).mono ?_); rintro e w' ⟨rfl, ⟨nd, rfl⟩⟩; (try first | exact ⟨rfl, _, World.drewN_drewN _ _ _⟩ | exact ⟨rfl, _, Eq.trans (World.drewN_drewN _ _ _) (congrArg (World.drewN _) (Nat.add_assoc _ _ _))⟩); have p239 : 0 ≤ (x3_1 : Int) := of_decide_eq_true (by first | (with_reducible assumption) | assumption); have q239 : x3_1 < (l0_1.length : Int) := of_decide_eq_true (by first | (with_reducible assumption) | assumption); obtain ⟨ad239, e239, hx239_0⟩ := Kd.at_int HR0_1.out x3_1 p239 q239; obtain rfl : ad237 = ad239 := (by injection e239); replace hx239_0 := (HB.out.cell (World.block_lt_of_cell? w _ hx239_0)).trans hx239_0; replace p239 := eq_true p239; replace q239 := eq_true q239; have p240 : 0 ≤ ((ji8) : Int) := of_decide_eq_true (by first | (with_reducible assumption) | assumption); have q240 : (ji8) < (l0_1.length : Int) := of_decide_eq_true (by first | (with_reducible assumption) | assumption); obtain ⟨ad240, e240, hx240_0⟩ := Kd.at_int HR0_1.out (ji8) p240 q240; obtain rfl : ad237 = ad240 := (by injection e240); replace hx240_0 := (HB.out.cell (World.block_lt_of_cell? w _ hx240_0)).trans hx240_0; replace p240 := eq_true p240; replace q240 := eq_true q240))
                    repeat (go_quiet (first | (go_at_call 51; (with_reducible refine (tellurionref06_in.calls (rd l0_1 x3_1) 2 1000 true _ A5.out).mono ?_); rintro e w' ⟨rfl, ⟨nd, rfl⟩⟩; (try first | exact ⟨rfl, _, World.drewN_drewN _ _ _⟩ | exact ⟨rfl, _, Eq.trans (World.drewN_drewN _ _ _) (congrArg (World.drewN _) (Nat.add_assoc _ _ _))⟩); have p239 : 0 ≤ (x3_1 : Int) := of_decide_eq_true (by first | (with_reducible assumption) | assumption); have q239 : x3_1 < (l0_1.length : Int) := of_decide_eq_true (by first | (with_reducible assumption) | assumption); obtain ⟨ad239, e239, hx239_0⟩ := Kd.at_int HR0_1.out x3_1 p239 q239; obtain rfl : ad237 = ad239 := (by injection e239); replace hx239_0 := (HB.out.cell (World.block_lt_of_cell? w _ hx239_0)).trans hx239_0; replace p239 := eq_true p239; replace q239 := eq_true q239; have p240 : 0 ≤ ((ji8) : Int) := of_decide_eq_true (by first | (with_reducible assumption) | assumption); have q240 : (ji8) < (l0_1.length : Int) := of_decide_eq_true (by first | (with_reducible assumption) | assumption); obtain ⟨ad240, e240, hx240_0⟩ := Kd.at_int HR0_1.out (ji8) p240 q240; obtain rfl : ad237 = ad240 := (by injection e240); replace hx240_0 := (HB.out.cell (World.block_lt_of_cell? w _ hx240_0)).trans hx240_0; replace p240 := eq_true p240; replace q240 := eq_true q240)); try go_wp2_with (first | (go_at_call 51; (with_reducible refine (tellurionref06_in.calls (rd l0_1 x3_1) 2 1000 true _ A5.out).mono ?_); rintro e w' ⟨rfl, ⟨nd, rfl⟩⟩; (try first | exact ⟨rfl, _, World.drewN_drewN _ _ _⟩ | exact ⟨rfl, _, Eq.trans (World.drewN_drewN _ _ _) (congrArg (World.drewN _) (Nat.add_assoc _ _ _))⟩); have p239 : 0 ≤ (x3_1 : Int) := of_decide_eq_true (by first | (with_reducible assumption) | assumption); have q239 : x3_1 < (l0_1.length : Int) := of_decide_eq_true (by first | (with_reducible assumption) | assumption); obtain ⟨ad239, e239, hx239_0⟩ := Kd.at_int HR0_1.out x3_1 p239 q239; obtain rfl : ad237 = ad239 := (by injection e239); replace hx239_0 := (HB.out.cell (World.block_lt_of_cell? w _ hx239_0)).trans hx239_0; replace p239 := eq_true p239; replace q239 := eq_true q239; have p240 : 0 ≤ ((ji8) : Int) := of_decide_eq_true (by first | (with_reducible assumption) | assumption); have q240 : (ji8) < (l0_1.length : Int) := of_decide_eq_true (by first | (with_reducible assumption) | assumption); obtain ⟨ad240, e240, hx240_0⟩ := Kd.at_int HR0_1.out (ji8) p240 q240; obtain rfl : ad237 = ad240 := (by injection e240); replace hx240_0 := (HB.out.cell (World.block_lt_of_cell? w _ hx240_0)).trans hx240_0; replace p240 := eq_true p240; replace q240 := eq_true q240)))
                    go_roundg k1
                    case measure => have := HK1.out; omega
                    case rel => exact ⟨(wrap64 (x3_1 + 1)), zz, H', ⟨by have := HK1.out; omega⟩, ⟨zh BK236⟩, ⟨zqs⟩⟩
                · rw [if_neg c10] at H
                  exact absurd H (by simp)
              · rw [if_neg c9] at H
                exact absurd H (by simp)
            · rw [if_neg c7] at H
              have c7b0 : decide (0 < x3_1) = false := decide_eq_false c7
              clear c7
              have H' := Aside0.mk H
              clear H
              have hcz14_0 := zC BK236
              have hfz14_0 := zF BK236
              have p237 : 0 ≤ (x3_1 : Int) := of_decide_eq_true (by first | (with_reducible assumption) | assumption)
              have q237 : x3_1 < (l0_1.length : Int) := of_decide_eq_true (by first | (with_reducible assumption) | assumption)
              obtain ⟨ad237, e237, hx237_0⟩ := Kd.at_int HR0_1.out x3_1 p237 q237
              cases e237
              replace hx237_0 := (HB.out.cell (World.block_lt_of_cell? w _ hx237_0)).trans hx237_0
              replace p237 := eq_true p237
              replace q237 := eq_true q237
              go_wp2_with (first | (go_at_call 51; (with_reducible refine (tellurionref06_in.calls (rd l0_1 x3_1) 2 1000 true _ A5.out).mono ?_); rintro e w' ⟨rfl, ⟨nd, rfl⟩⟩; (try first | exact ⟨rfl, _, World.drewN_drewN _ _ _⟩ | exact ⟨rfl, _, Eq.trans (World.drewN_drewN _ _ _) (congrArg (World.drewN _) (Nat.add_assoc _ _ _))⟩)))
              repeat (go_quiet (first | (go_at_call 51; (with_reducible refine (tellurionref06_in.calls (rd l0_1 x3_1) 2 1000 true _ A5.out).mono ?_); rintro e w' ⟨rfl, ⟨nd, rfl⟩⟩; (try first | exact ⟨rfl, _, World.drewN_drewN _ _ _⟩ | exact ⟨rfl, _, Eq.trans (World.drewN_drewN _ _ _) (congrArg (World.drewN _) (Nat.add_assoc _ _ _))⟩))); try go_wp2_with (first | (go_at_call 51; (with_reducible refine (tellurionref06_in.calls (rd l0_1 x3_1) 2 1000 true _ A5.out).mono ?_); rintro e w' ⟨rfl, ⟨nd, rfl⟩⟩; (try first | exact ⟨rfl, _, World.drewN_drewN _ _ _⟩ | exact ⟨rfl, _, Eq.trans (World.drewN_drewN _ _ _) (congrArg (World.drewN _) (Nat.add_assoc _ _ _))⟩))))
              go_roundg k1
              case measure => have := HK1.out; omega
              case rel => exact ⟨(wrap64 (x3_1 + 1)), zz, H', ⟨by have := HK1.out; omega⟩, ⟨zh BK236⟩, ⟨zqs⟩⟩
          · replace c6 := Bool.eq_false_iff.mpr c6
            subst c6
            have H1 : (some false) = some r := by rw [if_neg (show ¬ (false = true) by decide)] at H; exact H
            clear H
            have H := H1
            clear H1
            obtain rfl := Option.some.inj H
            have hcz15_0 := zC BK236
            have hfz15_0 := zF BK236
            have p237 : 0 ≤ (x3_1 : Int) := of_decide_eq_true (by first | (with_reducible assumption) | assumption)
            have q237 : x3_1 < (l0_1.length : Int) := of_decide_eq_true (by first | (with_reducible assumption) | assumption)
            obtain ⟨ad237, e237, hx237_0⟩ := Kd.at_int HR0_1.out x3_1 p237 q237
            cases e237
            replace hx237_0 := (HB.out.cell (World.block_lt_of_cell? w _ hx237_0)).trans hx237_0
            replace p237 := eq_true p237
            replace q237 := eq_true q237
            go_wp2_with (first | (go_at_call 51; (with_reducible refine (tellurionref06_in.calls (rd l0_1 x3_1) 2 1000 false _ A5.out).mono ?_); rintro e w' ⟨rfl, ⟨nd, rfl⟩⟩; (try first | exact ⟨rfl, _, World.drewN_drewN _ _ _⟩ | exact ⟨rfl, _, Eq.trans (World.drewN_drewN _ _ _) (congrArg (World.drewN _) (Nat.add_assoc _ _ _))⟩)))
            repeat (go_quiet (first | (go_at_call 51; (with_reducible refine (tellurionref06_in.calls (rd l0_1 x3_1) 2 1000 false _ A5.out).mono ?_); rintro e w' ⟨rfl, ⟨nd, rfl⟩⟩; (try first | exact ⟨rfl, _, World.drewN_drewN _ _ _⟩ | exact ⟨rfl, _, Eq.trans (World.drewN_drewN _ _ _) (congrArg (World.drewN _) (Nat.add_assoc _ _ _))⟩))); try go_wp2_with (first | (go_at_call 51; (with_reducible refine (tellurionref06_in.calls (rd l0_1 x3_1) 2 1000 false _ A5.out).mono ?_); rintro e w' ⟨rfl, ⟨nd, rfl⟩⟩; (try first | exact ⟨rfl, _, World.drewN_drewN _ _ _⟩ | exact ⟨rfl, _, Eq.trans (World.drewN_drewN _ _ _) (congrArg (World.drewN _) (Nat.add_assoc _ _ _))⟩))))
            go_ret
            exact ⟨zE, zqs⟩
        · rw [if_neg c4] at H
          exact absurd H (by simp)
      · rw [if_neg c3] at H
        have c3b0 : decide (x3_1 < (l0_1.length : Int)) = false := decide_eq_false c3
        clear c3
        replace H := Option.bind_eq_some_iff.mp H
        obtain ⟨t241, A160, H⟩ := H
        replace H : (if t241 = true then ((tellurionref06_in.f (l0_1.length : Int) 1 3).bind fun t242 => (some t242)) else (some false)) = some r := H
        have A16 := Aside0.mk A160
        clear A160
        by_cases c17 : t241 = true
        · subst c17
          have H1 : ((tellurionref06_in.f (l0_1.length : Int) 1 3).bind fun t242 => (some t242)) = some r := by rw [if_pos rfl] at H; exact H
          clear H
          have H := H1
          clear H1
          replace H := Option.bind_eq_some_iff.mp H
          obtain ⟨t242, A180, H⟩ := H
          replace H : (some t242) = some r := H
          have A18 := Aside0.mk A180
          clear A180
          obtain rfl := Option.some.inj H
          have hcz19_0 := zC BK236
          have hfz19_0 := zF BK236
          go_wp2_with (first | (go_at_call 51; (with_reducible refine (tellurionref06_in.calls a0_0 0 1000 true _ A16.out).mono ?_); rintro e w' ⟨rfl, ⟨nd, rfl⟩⟩; (try first | exact ⟨rfl, _, World.drewN_drewN _ _ _⟩ | exact ⟨rfl, _, Eq.trans (World.drewN_drewN _ _ _) (congrArg (World.drewN _) (Nat.add_assoc _ _ _))⟩)) | (go_at_call 51; (with_reducible refine (tellurionref06_in.calls (l0_1.length : Int) 1 3 t242 _ A18.out).mono ?_); rintro e w' ⟨rfl, ⟨nd, rfl⟩⟩; (try first | exact ⟨rfl, _, World.drewN_drewN _ _ _⟩ | exact ⟨rfl, _, Eq.trans (World.drewN_drewN _ _ _) (congrArg (World.drewN _) (Nat.add_assoc _ _ _))⟩)))
          repeat (go_quiet (first | (go_at_call 51; (with_reducible refine (tellurionref06_in.calls a0_0 0 1000 true _ A16.out).mono ?_); rintro e w' ⟨rfl, ⟨nd, rfl⟩⟩; (try first | exact ⟨rfl, _, World.drewN_drewN _ _ _⟩ | exact ⟨rfl, _, Eq.trans (World.drewN_drewN _ _ _) (congrArg (World.drewN _) (Nat.add_assoc _ _ _))⟩)) | (go_at_call 51; (with_reducible refine (tellurionref06_in.calls (l0_1.length : Int) 1 3 t242 _ A18.out).mono ?_); rintro e w' ⟨rfl, ⟨nd, rfl⟩⟩; (try first | exact ⟨rfl, _, World.drewN_drewN _ _ _⟩ | exact ⟨rfl, _, Eq.trans (World.drewN_drewN _ _ _) (congrArg (World.drewN _) (Nat.add_assoc _ _ _))⟩))); try go_wp2_with (first | (go_at_call 51; (with_reducible refine (tellurionref06_in.calls a0_0 0 1000 true _ A16.out).mono ?_); rintro e w' ⟨rfl, ⟨nd, rfl⟩⟩; (try first | exact ⟨rfl, _, World.drewN_drewN _ _ _⟩ | exact ⟨rfl, _, Eq.trans (World.drewN_drewN _ _ _) (congrArg (World.drewN _) (Nat.add_assoc _ _ _))⟩)) | (go_at_call 51; (with_reducible refine (tellurionref06_in.calls (l0_1.length : Int) 1 3 t242 _ A18.out).mono ?_); rintro e w' ⟨rfl, ⟨nd, rfl⟩⟩; (try first | exact ⟨rfl, _, World.drewN_drewN _ _ _⟩ | exact ⟨rfl, _, Eq.trans (World.drewN_drewN _ _ _) (congrArg (World.drewN _) (Nat.add_assoc _ _ _))⟩))))
          go_ret
          exact ⟨zE, zqs⟩
        · replace c17 := Bool.eq_false_iff.mpr c17
          subst c17
          have H1 : (some false) = some r := by rw [if_neg (show ¬ (false = true) by decide)] at H; exact H
          clear H
          have H := H1
          clear H1
          obtain rfl := Option.some.inj H
          have hcz20_0 := zC BK236
          have hfz20_0 := zF BK236
          go_wp2_with (first | (go_at_call 51; (with_reducible refine (tellurionref06_in.calls a0_0 0 1000 false _ A16.out).mono ?_); rintro e w' ⟨rfl, ⟨nd, rfl⟩⟩; (try first | exact ⟨rfl, _, World.drewN_drewN _ _ _⟩ | exact ⟨rfl, _, Eq.trans (World.drewN_drewN _ _ _) (congrArg (World.drewN _) (Nat.add_assoc _ _ _))⟩)))
          repeat (go_quiet (first | (go_at_call 51; (with_reducible refine (tellurionref06_in.calls a0_0 0 1000 false _ A16.out).mono ?_); rintro e w' ⟨rfl, ⟨nd, rfl⟩⟩; (try first | exact ⟨rfl, _, World.drewN_drewN _ _ _⟩ | exact ⟨rfl, _, Eq.trans (World.drewN_drewN _ _ _) (congrArg (World.drewN _) (Nat.add_assoc _ _ _))⟩))); try go_wp2_with (first | (go_at_call 51; (with_reducible refine (tellurionref06_in.calls a0_0 0 1000 false _ A16.out).mono ?_); rintro e w' ⟨rfl, ⟨nd, rfl⟩⟩; (try first | exact ⟨rfl, _, World.drewN_drewN _ _ _⟩ | exact ⟨rfl, _, Eq.trans (World.drewN_drewN _ _ _) (congrArg (World.drewN _) (Nat.add_assoc _ _ _))⟩))))
          go_ret
          exact ⟨zE, zqs⟩
def qYear.f (a0 : Int) : Option (Bool) := (tellurionref06_in.f a0 0 4000).bind fun t243 => (some t243)
set_option maxHeartbeats 8000000 in
set_option maxRecDepth 100000 in
theorem qYear.calls (a0 : Int) (r : Bool) (w : World) (h : qYear.f a0 = some r) :
    Calls Tryz.prog 15 #[.int .i64 a0] w fun e w' => e = .returned (.bool r) ∧ Drawn0 w w' := by
  have H : ((tellurionref06_in.f a0 0 4000).bind fun t243 => (some t243)) = some r := h
  clear h
  replace H := Option.bind_eq_some_iff.mp H
  obtain ⟨t243, A20, H⟩ := H
  replace H : (some t243) = some r := H
  have A2 := Aside0.mk A20
  clear A20
  obtain rfl := Option.some.inj H
  go_enter Tryz.func15, Tryz.ntmps15
  go_wp2_with (first | ((with_reducible refine gate_callee (f := 51) rfl ?_); refine zGl (some 4) Tryz.func51 #[.int .i64 a0, .int .i64 0, .int .i64 4000] ?_; (with_reducible refine (tellurionref06_in.calls a0 0 4000 t243 _ A2.out).mono ?_); rintro e w' ⟨rfl, ⟨nd, rfl⟩⟩; refine ⟨_, rfl, ?_⟩))
  go_ret
  exact ⟨by first | rfl | (simp; done) | (simp [*]; done), by repeat (first | exact Drawn0.refl _ | apply Drawn0.step)⟩
def qLeap.l0 : Nat → Int → Int → Int → Int → List Int → Option (Bool)
  | 0, _, _, _, _, _ => none
  | k + 1, x1, x5, x6, x245000, x245001 => if x6 < (x245001.length : Int) then (if 0 ≤ x6 then (if (rd x245001 x6) = 0 then (none) else (if (Int.tmod x1 (rd x245001 x6)) = 0 then (qLeap.l0 k x1 (wrap64 (x5 + 1)) (wrap64 (x6 + 1)) x245000 x245001) else (qLeap.l0 k x1 x5 (wrap64 (x6 + 1)) x245000 x245001))) else (none)) else (some ((Int.tmod x5 2) == 1))
def qLeap.f (k : Nat) (a0_0 : Int) (l0_1 : List Int) (a1 : Int) : Option (Bool) := qLeap.l0 k a1 0 0 a0_0 l0_1
set_option maxHeartbeats 8000000 in
set_option maxRecDepth 100000 in
theorem qLeap.calls (k : Nat) (a0_0 : Int) (A0_1 : Option Addr) (c0_1 : Nat) (l0_1 : List Int) (a1 : Int) (r : Bool) (w : World) (hr0_1 : Kd.C (Kd.int .i64) w A0_1 l0_1.length l0_1) (hc0_1 : l0_1.length ≤ c0_1) (h : qLeap.f k a0_0 l0_1 a1 = some r) :
    Calls Tryz.prog 53 #[.agg #[.int .i64 a0_0, .slice A0_1 l0_1.length c0_1], .int .i64 a1] w fun e w' => e = .returned (.bool r) ∧ Below w.heap.size w w' := by
  have hu24 := Tryz.underlying24
  have HR0_1 := Aside0.mk hr0_1
  have HC0_1 := Aside0.mk hc0_1
  clear hr0_1 hc0_1
  have HB := Aside0.mk (Below.refl w.heap.size w)
  have H : (qLeap.l0 k a1 0 0 a0_0 l0_1) = some r := h
  clear h
  have H' := Aside0.mk H
  clear H
  go_enter Tryz.func53, Tryz.ntmps53
  go_wp2_with (first | ((with_reducible refine zG 2 rfl ?_); refine zBox 2 #[.int .i64 a0_0, .slice A0_1 l0_1.length c0_1] 24 ?_; intro gb244 hg w3 hbox hb; have BK244 := Aside0.mk (hbox); have GW244 := Aside0.mk ((by rw [hg]; exact (below_size zq) : w.heap.size ≤ gb244)); have GE244 := Aside0.mk ((by rw [hg]; exact (below_size zq) : w.heap.size ≤ gb244)); replace HB := Aside0.mk (below_step zq hb); clear hb hbox hg))
  go_loopg [5, 6] k (fun kq v5 v6 w' => ∃ (x5_1 : Int) (x6_1 : Int), v5 = .int .i64 x5_1 ∧ v6 = .int .i64 x6_1 ∧ Aside0 (qLeap.l0 kq a1 x5_1 x6_1 a0_0 l0_1 = some r) ∧ Aside0 (kq ≤ k) ∧ Aside0 (w'.heap[gb244]? = some (.cells #[.int .i64 a0_0, (.slice A0_1 l0_1.length c0_1)] 24 (0, 0))) ∧ Aside0 (Below w.heap.size w w'))
  case atStart => exact ⟨(0), (0), zz, zz, H', ⟨Nat.le_refl _⟩, ⟨zh BK244⟩, ⟨zqs⟩⟩
  case round =>
    clear H'
    try clear p2
    obtain ⟨x5_1, x6_1, rfl, rfl, HA, HK1, BK244, HB⟩ := hrel
    cases gk with
    | zero => exact absurd HA.out (by simp [qLeap.l0])
    | succ k1 =>
      have H := HA.out
      clear HA
      simp only [qLeap.l0] at H
      by_cases c4 : x6_1 < (l0_1.length : Int)
      · rw [if_pos c4] at H
        have c4b0 : decide (x6_1 < (l0_1.length : Int)) = true := decide_eq_true c4
        clear c4
        by_cases c5 : 0 ≤ x6_1
        · rw [if_pos c5] at H
          have c5b0 : decide (0 ≤ x6_1) = true := decide_eq_true c5
          clear c5
          by_cases c6 : (rd l0_1 x6_1) = 0
          · rw [if_pos c6] at H
            exact absurd H (by simp)
          · rw [if_neg c6] at H
            have c6b0 : ((rd l0_1 x6_1) == 0) = false := beq_eq_false_iff_ne.mpr c6
            have c6b1 : ((rd l0_1 x6_1) != 0) = true := bne_iff_ne.mpr c6
            by_cases c7 : (Int.tmod a1 (rd l0_1 x6_1)) = 0
            · rw [if_pos c7] at H
              have c7b0 : ((Int.tmod a1 (rd l0_1 x6_1)) == 0) = true := beq_iff_eq.mpr c7
              have c7b1 : ((Int.tmod a1 (rd l0_1 x6_1)) != 0) = false := bne_eq_false_iff_eq.mpr c7
              clear c7
              have H' := Aside0.mk H
              clear H
              have hcz8_0 := zC BK244
              have hfz8_0 := zF BK244
              have p245 : 0 ≤ (x6_1 : Int) := of_decide_eq_true (by first | (with_reducible assumption) | assumption)
              have q245 : x6_1 < (l0_1.length : Int) := of_decide_eq_true (by first | (with_reducible assumption) | assumption)
              obtain ⟨ad245, e245, hx245_0⟩ := Kd.at_int HR0_1.out x6_1 p245 q245
              cases e245
              replace hx245_0 := (HB.out.cell (World.block_lt_of_cell? w _ hx245_0)).trans hx245_0
              replace p245 := eq_true p245
              replace q245 := eq_true q245
              go_wp2
              go_roundg k1
              case measure => have := HK1.out; omega
              case rel => exact ⟨(wrap64 (x5_1 + 1)), (wrap64 (x6_1 + 1)), zz, zz, H', ⟨by have := HK1.out; omega⟩, ⟨zh BK244⟩, ⟨zqs⟩⟩
            · rw [if_neg c7] at H
              have c7b0 : ((Int.tmod a1 (rd l0_1 x6_1)) == 0) = false := beq_eq_false_iff_ne.mpr c7
              have c7b1 : ((Int.tmod a1 (rd l0_1 x6_1)) != 0) = true := bne_iff_ne.mpr c7
              have H' := Aside0.mk H
              clear H
              have hcz9_0 := zC BK244
              have hfz9_0 := zF BK244
              have p245 : 0 ≤ (x6_1 : Int) := of_decide_eq_true (by first | (with_reducible assumption) | assumption)
              have q245 : x6_1 < (l0_1.length : Int) := of_decide_eq_true (by first | (with_reducible assumption) | assumption)
              obtain ⟨ad245, e245, hx245_0⟩ := Kd.at_int HR0_1.out x6_1 p245 q245
              cases e245
              replace hx245_0 := (HB.out.cell (World.block_lt_of_cell? w _ hx245_0)).trans hx245_0
              replace p245 := eq_true p245
              replace q245 := eq_true q245
              go_wp2
              go_roundg k1
              case measure => have := HK1.out; omega
              case rel => exact ⟨(x5_1), (wrap64 (x6_1 + 1)), zz, zz, H', ⟨by have := HK1.out; omega⟩, ⟨zh BK244⟩, ⟨zqs⟩⟩
        · rw [if_neg c5] at H
          exact absurd H (by simp)
      · rw [if_neg c4] at H
        have c4b0 : decide (x6_1 < (l0_1.length : Int)) = false := decide_eq_false c4
        clear c4
        obtain rfl := Option.some.inj H
        have hcz10_0 := zC BK244
        have hfz10_0 := zF BK244
        go_wp2
        go_ret
        exact ⟨zE, zqs⟩
def qFirst.l0 : Nat → Int → Int → Int → Int → List Int → Option (Int)
  | 0, _, _, _, _, _ => none
  | k + 1, x1, x5, x6, x247000, x247001 => if x6 < x1 then ((qLeap.f k x247000 x247001 x6).bind fun t247 => (if t247 = true then (qFirst.l0 k x1 (wrap64 (x5 + 1)) (wrap64 (x6 + 1)) x247000 x247001) else (qFirst.l0 k x1 x5 (wrap64 (x6 + 1)) x247000 x247001))) else (some x5)
def qFirst.f (k : Nat) (a0_0 : Int) (l0_1 : List Int) (a1 : Int) : Option (Int) := qFirst.l0 k a1 (wrap64 (a0_0 + (wrap64 (365 * a1)))) 0 a0_0 l0_1
set_option maxHeartbeats 8000000 in
set_option maxRecDepth 100000 in
theorem qFirst.calls (k : Nat) (a0_0 : Int) (A0_1 : Option Addr) (c0_1 : Nat) (l0_1 : List Int) (a1 : Int) (r : Int) (w : World) (hr0_1 : Kd.C (Kd.int .i64) w A0_1 l0_1.length l0_1) (hc0_1 : l0_1.length ≤ c0_1) (h : qFirst.f k a0_0 l0_1 a1 = some r) :
    Calls Tryz.prog 52 #[.agg #[.int .i64 a0_0, .slice A0_1 l0_1.length c0_1], .int .i64 a1] w fun e w' => e = .returned (.int .i64 r) ∧ Below w.heap.size w w' := by
  have hu24 := Tryz.underlying24
  have HR0_1 := Aside0.mk hr0_1
  have HC0_1 := Aside0.mk hc0_1
  clear hr0_1 hc0_1
  have HB := Aside0.mk (Below.refl w.heap.size w)
  have H : (qFirst.l0 k a1 (wrap64 (a0_0 + (wrap64 (365 * a1)))) 0 a0_0 l0_1) = some r := h
  clear h
  have H' := Aside0.mk H
  clear H
  go_enter Tryz.func52, Tryz.ntmps52
  go_wp2_with (first | ((with_reducible refine zG 2 rfl ?_); refine zBox 2 #[.int .i64 a0_0, .slice A0_1 l0_1.length c0_1] 24 ?_; intro gb246 hg w3 hbox hb; have BK246 := Aside0.mk (hbox); have GW246 := Aside0.mk ((by rw [hg]; exact (below_size zq) : w.heap.size ≤ gb246)); have GE246 := Aside0.mk ((by rw [hg]; exact (below_size zq) : w.heap.size ≤ gb246)); replace HB := Aside0.mk (below_step zq hb); clear hb hbox hg; have hcz4_0 := zC BK246; have hfz4_0 := zF BK246))
  go_loopg [5, 6] k (fun kq v5 v6 w' => ∃ (x5_1 : Int) (x6_1 : Int), v5 = .int .i64 x5_1 ∧ v6 = .int .i64 x6_1 ∧ Aside0 (qFirst.l0 kq a1 x5_1 x6_1 a0_0 l0_1 = some r) ∧ Aside0 (kq ≤ k) ∧ Aside0 (w'.heap[gb246]? = some (.cells #[.int .i64 a0_0, (.slice A0_1 l0_1.length c0_1)] 24 (0, 0))) ∧ Aside0 (Below w.heap.size w w'))
  case atStart => exact ⟨(wrap64 (a0_0 + (wrap64 (365 * a1)))), (0), zz, zz, H', ⟨Nat.le_refl _⟩, ⟨zh BK246⟩, ⟨zqs⟩⟩
  case round =>
    clear H'
    try clear p2
    try clear hcz4_0
    try clear hfz4_0
    obtain ⟨x5_1, x6_1, rfl, rfl, HA, HK1, BK246, HB⟩ := hrel
    cases gk with
    | zero => exact absurd HA.out (by simp [qFirst.l0])
    | succ k1 =>
      have H := HA.out
      clear HA
      simp only [qFirst.l0] at H
      by_cases c5 : x6_1 < a1
      · rw [if_pos c5] at H
        have c5b0 : decide (x6_1 < a1) = true := decide_eq_true c5
        clear c5
        replace H := Option.bind_eq_some_iff.mp H
        obtain ⟨t247, A60, H⟩ := H
        replace H : (if t247 = true then (qFirst.l0 k1 a1 (wrap64 (x5_1 + 1)) (wrap64 (x6_1 + 1)) a0_0 l0_1) else (qFirst.l0 k1 a1 x5_1 (wrap64 (x6_1 + 1)) a0_0 l0_1)) = some r := H
        have A6 := Aside0.mk A60
        clear A60
        by_cases c7 : t247 = true
        · subst c7
          have H1 : (qFirst.l0 k1 a1 (wrap64 (x5_1 + 1)) (wrap64 (x6_1 + 1)) a0_0 l0_1) = some r := by rw [if_pos rfl] at H; exact H
          clear H
          have H := H1
          clear H1
          have H' := Aside0.mk H
          clear H
          have hcz8_0 := zC BK246
          have hfz8_0 := zF BK246
          go_wp2_with (first | ((with_reducible refine gate_callee (f := 53) rfl ?_); refine zGl (some 19) Tryz.func53 #[.agg #[.int .i64 a0_0, .slice A0_1 l0_1.length c0_1], .int .i64 x6_1] ?_; (with_reducible refine (qLeap.calls k1 a0_0 _ _ l0_1 x6_1 true _ ?side1 ?side2 A6.out).mono ?_); (case side1 => repeat (first | exact (Kd.C_below HR0_1.out HB.out) | (with_reducible refine Kd.C_alloc ?_ _) | (with_reducible refine Kd.C_drewN ?_ _) | (with_reducible refine Kd.C_drew ?_))); (case side2 => exact HC0_1.out); rintro e w9 ⟨rfl, hb⟩; refine ⟨_, rfl, ?_⟩; replace BK246 := zbN BK246 hb; replace HB := Aside0.mk (below_step zqs hb); (try clear hb); (try clear hb2); (try clear hk); (try clear hi)))
          go_roundg k1
          case measure => have := HK1.out; omega
          case rel => exact ⟨(wrap64 (x5_1 + 1)), (wrap64 (x6_1 + 1)), zz, zz, H', ⟨by have := HK1.out; omega⟩, ⟨zh BK246⟩, ⟨zqs⟩⟩
        · replace c7 := Bool.eq_false_iff.mpr c7
          subst c7
          have H1 : (qFirst.l0 k1 a1 x5_1 (wrap64 (x6_1 + 1)) a0_0 l0_1) = some r := by rw [if_neg (show ¬ (false = true) by decide)] at H; exact H
          clear H
          have H := H1
          clear H1
          have H' := Aside0.mk H
          clear H
          have hcz10_0 := zC BK246
          have hfz10_0 := zF BK246
          go_wp2_with (first | ((with_reducible refine gate_callee (f := 53) rfl ?_); refine zGl (some 19) Tryz.func53 #[.agg #[.int .i64 a0_0, .slice A0_1 l0_1.length c0_1], .int .i64 x6_1] ?_; (with_reducible refine (qLeap.calls k1 a0_0 _ _ l0_1 x6_1 false _ ?side1 ?side2 A6.out).mono ?_); (case side1 => repeat (first | exact (Kd.C_below HR0_1.out HB.out) | (with_reducible refine Kd.C_alloc ?_ _) | (with_reducible refine Kd.C_drewN ?_ _) | (with_reducible refine Kd.C_drew ?_))); (case side2 => exact HC0_1.out); rintro e w11 ⟨rfl, hb⟩; refine ⟨_, rfl, ?_⟩; replace BK246 := zbN BK246 hb; replace HB := Aside0.mk (below_step zqs hb); (try clear hb); (try clear hb2); (try clear hk); (try clear hi)))
          go_roundg k1
          case measure => have := HK1.out; omega
          case rel => exact ⟨(x5_1), (wrap64 (x6_1 + 1)), zz, zz, H', ⟨by have := HK1.out; omega⟩, ⟨zh BK246⟩, ⟨zqs⟩⟩
      · rw [if_neg c5] at H
        have c5b0 : decide (x6_1 < a1) = false := decide_eq_false c5
        clear c5
        obtain rfl := Option.some.inj H
        go_wp2
        go_ret
        exact ⟨zE, zqs⟩
def qLong.f (k : Nat) (a0_0 : Int) (l0_1 : List Int) (a1 : Int) : Option (Int) := (qLeap.f k a0_0 l0_1 a1).bind fun t253 => (if t253 = true then (some 366) else (some 365))
set_option maxHeartbeats 8000000 in
set_option maxRecDepth 100000 in
theorem qLong.calls (k : Nat) (a0_0 : Int) (A0_1 : Option Addr) (c0_1 : Nat) (l0_1 : List Int) (a1 : Int) (r : Int) (w : World) (hr0_1 : Kd.C (Kd.int .i64) w A0_1 l0_1.length l0_1) (hc0_1 : l0_1.length ≤ c0_1) (h : qLong.f k a0_0 l0_1 a1 = some r) :
    Calls Tryz.prog 54 #[.agg #[.int .i64 a0_0, .slice A0_1 l0_1.length c0_1], .int .i64 a1] w fun e w' => e = .returned (.int .i64 r) ∧ Below w.heap.size w w' := by
  have hu24 := Tryz.underlying24
  have HR0_1 := Aside0.mk hr0_1
  have HC0_1 := Aside0.mk hc0_1
  clear hr0_1 hc0_1
  have HB := Aside0.mk (Below.refl w.heap.size w)
  have H : ((qLeap.f k a0_0 l0_1 a1).bind fun t253 => (if t253 = true then (some 366) else (some 365))) = some r := h
  clear h
  replace H := Option.bind_eq_some_iff.mp H
  obtain ⟨t253, A30, H⟩ := H
  replace H : (if t253 = true then (some 366) else (some 365)) = some r := H
  have A3 := Aside0.mk A30
  clear A30
  by_cases c4 : t253 = true
  · subst c4
    have H1 : (some 366) = some r := by rw [if_pos rfl] at H; exact H
    clear H
    have H := H1
    clear H1
    obtain rfl := Option.some.inj H
    go_enter Tryz.func54, Tryz.ntmps54
    go_wp2_with (first | ((with_reducible refine zG 2 rfl ?_); refine zBox 2 #[.int .i64 a0_0, .slice A0_1 l0_1.length c0_1] 24 ?_; intro gb252 hg w5 hbox hb; have BK252 := Aside0.mk (hbox); have GW252 := Aside0.mk ((by rw [hg]; exact (below_size zq) : w.heap.size ≤ gb252)); have GE252 := Aside0.mk ((by rw [hg]; exact (below_size zq) : w.heap.size ≤ gb252)); replace HB := Aside0.mk (below_step zq hb); clear hb hbox hg; have hcz6_0 := zC BK252; have hfz6_0 := zF BK252) | ((with_reducible refine gate_callee (f := 53) rfl ?_); refine zGl (some 7) Tryz.func53 #[.agg #[.int .i64 a0_0, .slice A0_1 l0_1.length c0_1], .int .i64 a1] ?_; (with_reducible refine (qLeap.calls k a0_0 _ _ l0_1 a1 true _ ?side1 ?side2 A3.out).mono ?_); (case side1 => repeat (first | exact (Kd.C_below HR0_1.out HB.out) | (with_reducible refine Kd.C_alloc ?_ _) | (with_reducible refine Kd.C_drewN ?_ _) | (with_reducible refine Kd.C_drew ?_))); (case side2 => exact HC0_1.out); rintro e w7 ⟨rfl, hb⟩; refine ⟨_, rfl, ?_⟩; replace BK252 := zbN BK252 hb; replace HB := Aside0.mk (below_step zqs hb); (try clear hb); (try clear hb2); (try clear hk); (try clear hi)))
    go_ret
    exact ⟨zE, zqs⟩
  · replace c4 := Bool.eq_false_iff.mpr c4
    subst c4
    have H1 : (some 365) = some r := by rw [if_neg (show ¬ (false = true) by decide)] at H; exact H
    clear H
    have H := H1
    clear H1
    obtain rfl := Option.some.inj H
    go_enter Tryz.func54, Tryz.ntmps54
    go_wp2_with (first | ((with_reducible refine zG 2 rfl ?_); refine zBox 2 #[.int .i64 a0_0, .slice A0_1 l0_1.length c0_1] 24 ?_; intro gb252 hg w8 hbox hb; have BK252 := Aside0.mk (hbox); have GW252 := Aside0.mk ((by rw [hg]; exact (below_size zq) : w.heap.size ≤ gb252)); have GE252 := Aside0.mk ((by rw [hg]; exact (below_size zq) : w.heap.size ≤ gb252)); replace HB := Aside0.mk (below_step zq hb); clear hb hbox hg; have hcz9_0 := zC BK252; have hfz9_0 := zF BK252) | ((with_reducible refine gate_callee (f := 53) rfl ?_); refine zGl (some 7) Tryz.func53 #[.agg #[.int .i64 a0_0, .slice A0_1 l0_1.length c0_1], .int .i64 a1] ?_; (with_reducible refine (qLeap.calls k a0_0 _ _ l0_1 a1 false _ ?side1 ?side2 A3.out).mono ?_); (case side1 => repeat (first | exact (Kd.C_below HR0_1.out HB.out) | (with_reducible refine Kd.C_alloc ?_ _) | (with_reducible refine Kd.C_drewN ?_ _) | (with_reducible refine Kd.C_drew ?_))); (case side2 => exact HC0_1.out); rintro e w10 ⟨rfl, hb⟩; refine ⟨_, rfl, ?_⟩; replace BK252 := zbN BK252 hb; replace HB := Aside0.mk (below_step zqs hb); (try clear hb); (try clear hb2); (try clear hk); (try clear hi)))
    go_ret
    exact ⟨zE, zqs⟩
def qLength.f (a0 : Int) (a1 : Bool) : Option (Int) := if a0 = 2 then (if a1 = true then (some 29) else ((some (([31, 28, 31, 30, 31, 30, 31, 31, 30, 31, 30, 31] : List Int) : List Int)).bind fun y278 => (if 0 ≤ (wrap64 (a0 - 1)) then (if (wrap64 (a0 - 1)) < (y278.length : Int) then (some (rd y278 (wrap64 (a0 - 1)))) else (none)) else (none)))) else ((some (([31, 28, 31, 30, 31, 30, 31, 31, 30, 31, 30, 31] : List Int) : List Int)).bind fun y282 => (if 0 ≤ (wrap64 (a0 - 1)) then (if (wrap64 (a0 - 1)) < (y282.length : Int) then (some (rd y282 (wrap64 (a0 - 1)))) else (none)) else (none)))
set_option maxHeartbeats 8000000 in
set_option maxRecDepth 100000 in
theorem qLength.calls (a0 : Int) (a1 : Bool) (r : Int) (w : World) (h : qLength.f a0 a1 = some r) :
    Calls Tryz.prog 20 #[.int .i64 a0, .bool a1] w fun e w' => e = .returned (.int .i64 r) ∧ Below w.heap.size w w' := by
  have HB := Aside0.mk (Below.refl w.heap.size w)
  have H : (if a0 = 2 then (if a1 = true then (some 29) else ((some (([31, 28, 31, 30, 31, 30, 31, 31, 30, 31, 30, 31] : List Int) : List Int)).bind fun y278 => (if 0 ≤ (wrap64 (a0 - 1)) then (if (wrap64 (a0 - 1)) < (y278.length : Int) then (some (rd y278 (wrap64 (a0 - 1)))) else (none)) else (none)))) else ((some (([31, 28, 31, 30, 31, 30, 31, 31, 30, 31, 30, 31] : List Int) : List Int)).bind fun y282 => (if 0 ≤ (wrap64 (a0 - 1)) then (if (wrap64 (a0 - 1)) < (y282.length : Int) then (some (rd y282 (wrap64 (a0 - 1)))) else (none)) else (none)))) = some r := h
  clear h
  by_cases c3 : a0 = 2
  · rw [if_pos c3] at H
    have c3b0 : (a0 == 2) = true := beq_iff_eq.mpr c3
    have c3b1 : (a0 != 2) = false := bne_eq_false_iff_eq.mpr c3
    clear c3
    by_cases c4 : a1 = true
    · subst c4
      have H1 : (some 29) = some r := by rw [if_pos rfl] at H; exact H
      clear H
      have H := H1
      clear H1
      obtain rfl := Option.some.inj H
      go_enter Tryz.func20, Tryz.ntmps20
      go_wp2
      go_ret
      exact ⟨zE, zq⟩
    · replace c4 := Bool.eq_false_iff.mpr c4
      subst c4
      have H1 : ((some (([31, 28, 31, 30, 31, 30, 31, 31, 30, 31, 30, 31] : List Int) : List Int)).bind fun y278 => (if 0 ≤ (wrap64 (a0 - 1)) then (if (wrap64 (a0 - 1)) < (y278.length : Int) then (some (rd y278 (wrap64 (a0 - 1)))) else (none)) else (none))) = some r := by rw [if_neg (show ¬ (false = true) by decide)] at H; exact H
      clear H
      have H := H1
      clear H1
      obtain ⟨y278, hy278⟩ : ∃ y_ : List Int, y_ = (([31, 28, 31, 30, 31, 30, 31, 31, 30, 31, 30, 31] : List Int)) := ⟨_, rfl⟩
      replace H : (if 0 ≤ (wrap64 (a0 - 1)) then (if (wrap64 (a0 - 1)) < (y278.length : Int) then (some (rd y278 (wrap64 (a0 - 1)))) else (none)) else (none)) = some r := by first | (rw [hy278]; with_reducible exact H) | (have H2_ := (Option.bind_some _ _).symm.trans H; rw [hy278]; with_reducible exact H2_) | (have H2_ := (Option.bind_some _ _).symm.trans H; with_reducible exact H2_) | with_reducible exact H | (rw [hy278]; exact H) | exact H
      have Ny278 := Aside0.mk hy278
      clear hy278
      obtain ⟨ji5, hji5⟩ : ∃ j_ : Int, (wrap64 (a0 - 1)) = j_ := ⟨_, rfl⟩
      replace H : (if 0 ≤ (ji5) then (if (ji5) < (y278.length : Int) then (some (rd y278 (ji5))) else (none)) else (none)) = some r := by first | (rw [hji5] at H; exact H) | (simp only [hji5] at H ⊢; exact H)
      have hji5w : (IntKind.i64.wrap (a0 - 1)) = ji5 := (i64_w _).trans hji5
      by_cases c6 : 0 ≤ (ji5)
      · rw [if_pos c6] at H
        have c6b0 : decide (0 ≤ (ji5)) = true := decide_eq_true c6
        clear c6
        by_cases c7 : (ji5) < (y278.length : Int)
        · rw [if_pos c7] at H
          have c7b0 : decide ((ji5) < (y278.length : Int)) = true := decide_eq_true c7
          clear c7
          obtain rfl := Option.some.inj H
          go_enter Tryz.func20, Tryz.ntmps20
          go_wp2_with (first | ((with_reducible refine zG 10 rfl ?_); refine Kd.R_lit (Kd.int .i64) _ 3 ?hg (N := 10) ?hd (xs := ([31, 28, 31, 30, 31, 30, 31, 31, 30, 31, 30, 31] : List Int)) (inner := [.int .i64 31, .int .i64 28, .int .i64 31, .int .i64 30, .int .i64 31, .int .i64 30, .int .i64 31, .int .i64 31, .int .i64 30, .int .i64 31, .int .i64 30, .int .i64 31]) (ok := fun _ => True) (okp := fun _ => True) ?hr ?hp (fun _ hk => hk) trivial (Below.refl _ _) (Nat.le_refl _) (by simp) ?_; (case hd => rfl); (case hg => rfl); (case hr => first | (go_simp; done) | (go_simp; rfl)); (case hp => exact (Reps.one (show Kd.M (Kd.int .i64) _ _ _ 31 [.int .i64 31] from rfl) (Reps.one (show Kd.M (Kd.int .i64) _ _ _ 28 [.int .i64 28] from rfl) (Reps.one (show Kd.M (Kd.int .i64) _ _ _ 31 [.int .i64 31] from rfl) (Reps.one (show Kd.M (Kd.int .i64) _ _ _ 30 [.int .i64 30] from rfl) (Reps.one (show Kd.M (Kd.int .i64) _ _ _ 31 [.int .i64 31] from rfl) (Reps.one (show Kd.M (Kd.int .i64) _ _ _ 30 [.int .i64 30] from rfl) (Reps.one (show Kd.M (Kd.int .i64) _ _ _ 31 [.int .i64 31] from rfl) (Reps.one (show Kd.M (Kd.int .i64) _ _ _ 31 [.int .i64 31] from rfl) (Reps.one (show Kd.M (Kd.int .i64) _ _ _ 30 [.int .i64 30] from rfl) (Reps.one (show Kd.M (Kd.int .i64) _ _ _ 31 [.int .i64 31] from rfl) (Reps.one (show Kd.M (Kd.int .i64) _ _ _ 30 [.int .i64 30] from rfl) (Reps.one (show Kd.M (Kd.int .i64) _ _ _ 31 [.int .i64 31] from rfl) (Reps.none _ _)))))))))))))); intro v279 w8 ho9 hb hg_ hnew_; clear hg_ hnew_; (first | rw [← Ny278.out] at ho9 | (simp only [Int.reduceToNat] at ho9; rw [← Ny278.out] at ho9)); have HO280 := Aside0.mk (Kd.R_lower ho9 (below_size zq)); replace HB := Aside0.mk (below_step zq hb); clear hb ho9; obtain ⟨Ao10, co10, eo10⟩ := Kd.R_slice HO280.out; subst eo10; have p281 : 0 ≤ ((ji5) : Int) := of_decide_eq_true (by first | (with_reducible assumption) | assumption); have q281 : (ji5) < (y278.length : Int) := of_decide_eq_true (by first | (with_reducible assumption) | assumption); obtain ⟨ad281, e281, hx281_0⟩ := Kd.at_int (Kd.R_reads' HO280.out).2.2 (ji5) p281 q281; cases e281; replace p281 := eq_true p281; replace q281 := eq_true q281))
          go_ret
          exact ⟨by first | rfl | (simp [errW_none, errW_some] <;> rfl) | (simp only [← hji5]; first | rfl | (simp [errW_none, errW_some] <;> rfl)) | (simp [*, errW_none, errW_some] <;> rfl), by repeat (first | (with_reducible first | exact HB.out | apply below_alloc | apply pw_below_drewN | apply below_drew1) | exact HB.out)⟩
        · rw [if_neg c7] at H
          exact absurd H (by simp)
      · rw [if_neg c6] at H
        exact absurd H (by simp)
  · rw [if_neg c3] at H
    have c3b0 : (a0 == 2) = false := beq_eq_false_iff_ne.mpr c3
    have c3b1 : (a0 != 2) = true := bne_iff_ne.mpr c3
    obtain ⟨y282, hy282⟩ : ∃ y_ : List Int, y_ = (([31, 28, 31, 30, 31, 30, 31, 31, 30, 31, 30, 31] : List Int)) := ⟨_, rfl⟩
    replace H : (if 0 ≤ (wrap64 (a0 - 1)) then (if (wrap64 (a0 - 1)) < (y282.length : Int) then (some (rd y282 (wrap64 (a0 - 1)))) else (none)) else (none)) = some r := by first | (rw [hy282]; with_reducible exact H) | (have H2_ := (Option.bind_some _ _).symm.trans H; rw [hy282]; with_reducible exact H2_) | (have H2_ := (Option.bind_some _ _).symm.trans H; with_reducible exact H2_) | with_reducible exact H | (rw [hy282]; exact H) | exact H
    have Ny282 := Aside0.mk hy282
    clear hy282
    obtain ⟨ji11, hji11⟩ : ∃ j_ : Int, (wrap64 (a0 - 1)) = j_ := ⟨_, rfl⟩
    replace H : (if 0 ≤ (ji11) then (if (ji11) < (y282.length : Int) then (some (rd y282 (ji11))) else (none)) else (none)) = some r := by first | (rw [hji11] at H; exact H) | (simp only [hji11] at H ⊢; exact H)
    have hji11w : (IntKind.i64.wrap (a0 - 1)) = ji11 := (i64_w _).trans hji11
    by_cases c12 : 0 ≤ (ji11)
    · rw [if_pos c12] at H
      have c12b0 : decide (0 ≤ (ji11)) = true := decide_eq_true c12
      clear c12
      by_cases c13 : (ji11) < (y282.length : Int)
      · rw [if_pos c13] at H
        have c13b0 : decide ((ji11) < (y282.length : Int)) = true := decide_eq_true c13
        clear c13
        obtain rfl := Option.some.inj H
        go_enter Tryz.func20, Tryz.ntmps20
        go_wp2_with (first | ((with_reducible refine zG 10 rfl ?_); refine Kd.R_lit (Kd.int .i64) _ 3 ?hg (N := 10) ?hd (xs := ([31, 28, 31, 30, 31, 30, 31, 31, 30, 31, 30, 31] : List Int)) (inner := [.int .i64 31, .int .i64 28, .int .i64 31, .int .i64 30, .int .i64 31, .int .i64 30, .int .i64 31, .int .i64 31, .int .i64 30, .int .i64 31, .int .i64 30, .int .i64 31]) (ok := fun _ => True) (okp := fun _ => True) ?hr ?hp (fun _ hk => hk) trivial (Below.refl _ _) (Nat.le_refl _) (by simp) ?_; (case hd => rfl); (case hg => rfl); (case hr => first | (go_simp; done) | (go_simp; rfl)); (case hp => exact (Reps.one (show Kd.M (Kd.int .i64) _ _ _ 31 [.int .i64 31] from rfl) (Reps.one (show Kd.M (Kd.int .i64) _ _ _ 28 [.int .i64 28] from rfl) (Reps.one (show Kd.M (Kd.int .i64) _ _ _ 31 [.int .i64 31] from rfl) (Reps.one (show Kd.M (Kd.int .i64) _ _ _ 30 [.int .i64 30] from rfl) (Reps.one (show Kd.M (Kd.int .i64) _ _ _ 31 [.int .i64 31] from rfl) (Reps.one (show Kd.M (Kd.int .i64) _ _ _ 30 [.int .i64 30] from rfl) (Reps.one (show Kd.M (Kd.int .i64) _ _ _ 31 [.int .i64 31] from rfl) (Reps.one (show Kd.M (Kd.int .i64) _ _ _ 31 [.int .i64 31] from rfl) (Reps.one (show Kd.M (Kd.int .i64) _ _ _ 30 [.int .i64 30] from rfl) (Reps.one (show Kd.M (Kd.int .i64) _ _ _ 31 [.int .i64 31] from rfl) (Reps.one (show Kd.M (Kd.int .i64) _ _ _ 30 [.int .i64 30] from rfl) (Reps.one (show Kd.M (Kd.int .i64) _ _ _ 31 [.int .i64 31] from rfl) (Reps.none _ _)))))))))))))); intro v283 w14 ho15 hb hg_ hnew_; clear hg_ hnew_; (first | rw [← Ny282.out] at ho15 | (simp only [Int.reduceToNat] at ho15; rw [← Ny282.out] at ho15)); have HO284 := Aside0.mk (Kd.R_lower ho15 (below_size zq)); replace HB := Aside0.mk (below_step zq hb); clear hb ho15; obtain ⟨Ao16, co16, eo16⟩ := Kd.R_slice HO284.out; subst eo16; have p285 : 0 ≤ ((ji11) : Int) := of_decide_eq_true (by first | (with_reducible assumption) | assumption); have q285 : (ji11) < (y282.length : Int) := of_decide_eq_true (by first | (with_reducible assumption) | assumption); obtain ⟨ad285, e285, hx285_0⟩ := Kd.at_int (Kd.R_reads' HO284.out).2.2 (ji11) p285 q285; cases e285; replace p285 := eq_true p285; replace q285 := eq_true q285))
        go_ret
        exact ⟨by first | rfl | (simp [errW_none, errW_some] <;> rfl) | (simp only [← hji11]; first | rfl | (simp [errW_none, errW_some] <;> rfl)) | (simp [*, errW_none, errW_some] <;> rfl), by repeat (first | (with_reducible first | exact HB.out | apply below_alloc | apply pw_below_drewN | apply below_drew1) | exact HB.out)⟩
      · rw [if_neg c13] at H
        exact absurd H (by simp)
    · rw [if_neg c12] at H
      exact absurd H (by simp)
def qWritten.f (a0_0 : Int) (a0_1 : Int) (a0_2 : Int) : Option (Bool) := (qYear.f a0_0).bind fun t287 => (if t287 = true then ((tellurionref06_in.f a0_1 1 12).bind fun t288 => (if t288 = true then ((tellurionref06_in.f a0_2 1 31).bind fun t289 => (some t289)) else (some false))) else (some false))
set_option maxHeartbeats 8000000 in
set_option maxRecDepth 100000 in
theorem qWritten.calls (a0_0 : Int) (a0_1 : Int) (a0_2 : Int) (r : Bool) (w : World) (h : qWritten.f a0_0 a0_1 a0_2 = some r) :
    Calls Tryz.prog 55 #[.agg #[.int .i64 a0_0, .int .i64 a0_1, .int .i64 a0_2]] w fun e w' => e = .returned (.bool r) ∧ Below w.heap.size w w' := by
  have hu38 := Tryz.underlying38
  have HB := Aside0.mk (Below.refl w.heap.size w)
  have H : ((qYear.f a0_0).bind fun t287 => (if t287 = true then ((tellurionref06_in.f a0_1 1 12).bind fun t288 => (if t288 = true then ((tellurionref06_in.f a0_2 1 31).bind fun t289 => (some t289)) else (some false))) else (some false))) = some r := h
  clear h
  replace H := Option.bind_eq_some_iff.mp H
  obtain ⟨t287, A20, H⟩ := H
  replace H : (if t287 = true then ((tellurionref06_in.f a0_1 1 12).bind fun t288 => (if t288 = true then ((tellurionref06_in.f a0_2 1 31).bind fun t289 => (some t289)) else (some false))) else (some false)) = some r := H
  have A2 := Aside0.mk A20
  clear A20
  by_cases c3 : t287 = true
  · subst c3
    have H1 : ((tellurionref06_in.f a0_1 1 12).bind fun t288 => (if t288 = true then ((tellurionref06_in.f a0_2 1 31).bind fun t289 => (some t289)) else (some false))) = some r := by rw [if_pos rfl] at H; exact H
    clear H
    have H := H1
    clear H1
    replace H := Option.bind_eq_some_iff.mp H
    obtain ⟨t288, A40, H⟩ := H
    replace H : (if t288 = true then ((tellurionref06_in.f a0_2 1 31).bind fun t289 => (some t289)) else (some false)) = some r := H
    have A4 := Aside0.mk A40
    clear A40
    by_cases c5 : t288 = true
    · subst c5
      have H1 : ((tellurionref06_in.f a0_2 1 31).bind fun t289 => (some t289)) = some r := by rw [if_pos rfl] at H; exact H
      clear H
      have H := H1
      clear H1
      replace H := Option.bind_eq_some_iff.mp H
      obtain ⟨t289, A60, H⟩ := H
      replace H : (some t289) = some r := H
      have A6 := Aside0.mk A60
      clear A60
      obtain rfl := Option.some.inj H
      go_enter Tryz.func55, Tryz.ntmps55
      go_wp2_with (first | ((with_reducible refine zG 1 rfl ?_); refine zBox 1 #[.int .i64 a0_0, .int .i64 a0_1, .int .i64 a0_2] 38 ?_; intro gb286 hg w7 hbox hb; have BK286 := Aside0.mk (hbox); have GW286 := Aside0.mk ((by rw [hg]; exact (below_size zq) : w.heap.size ≤ gb286)); have GE286 := Aside0.mk ((by rw [hg]; exact (below_size zq) : w.heap.size ≤ gb286)); replace HB := Aside0.mk (below_step zq hb); clear hb hbox hg; have hcz8_0 := zC BK286; have hfz8_0 := zF BK286) | ((with_reducible refine gate_callee (f := 15) rfl ?_); refine zGl (some 5) Tryz.func15 #[.int .i64 a0_0] ?_; (with_reducible refine (qYear.calls a0_0 true _ A2.out).mono ?_); rintro e w' ⟨rfl, ⟨nd, rfl⟩⟩; refine ⟨_, rfl, ?_⟩) | (go_at_call 51; (with_reducible refine (tellurionref06_in.calls a0_1 1 12 true _ A4.out).mono ?_); rintro e w' ⟨rfl, ⟨nd, rfl⟩⟩) | (go_at_call 51; (with_reducible refine (tellurionref06_in.calls a0_2 1 31 t289 _ A6.out).mono ?_); rintro e w' ⟨rfl, ⟨nd, rfl⟩⟩))
      go_ret
      exact ⟨zE, zqs⟩
    · replace c5 := Bool.eq_false_iff.mpr c5
      subst c5
      have H1 : (some false) = some r := by rw [if_neg (show ¬ (false = true) by decide)] at H; exact H
      clear H
      have H := H1
      clear H1
      obtain rfl := Option.some.inj H
      go_enter Tryz.func55, Tryz.ntmps55
      go_wp2_with (first | ((with_reducible refine zG 1 rfl ?_); refine zBox 1 #[.int .i64 a0_0, .int .i64 a0_1, .int .i64 a0_2] 38 ?_; intro gb286 hg w9 hbox hb; have BK286 := Aside0.mk (hbox); have GW286 := Aside0.mk ((by rw [hg]; exact (below_size zq) : w.heap.size ≤ gb286)); have GE286 := Aside0.mk ((by rw [hg]; exact (below_size zq) : w.heap.size ≤ gb286)); replace HB := Aside0.mk (below_step zq hb); clear hb hbox hg; have hcz10_0 := zC BK286; have hfz10_0 := zF BK286) | ((with_reducible refine gate_callee (f := 15) rfl ?_); refine zGl (some 5) Tryz.func15 #[.int .i64 a0_0] ?_; (with_reducible refine (qYear.calls a0_0 true _ A2.out).mono ?_); rintro e w' ⟨rfl, ⟨nd, rfl⟩⟩; refine ⟨_, rfl, ?_⟩) | (go_at_call 51; (with_reducible refine (tellurionref06_in.calls a0_1 1 12 false _ A4.out).mono ?_); rintro e w' ⟨rfl, ⟨nd, rfl⟩⟩))
      go_ret
      exact ⟨zE, zqs⟩
  · replace c3 := Bool.eq_false_iff.mpr c3
    subst c3
    have H1 : (some false) = some r := by rw [if_neg (show ¬ (false = true) by decide)] at H; exact H
    clear H
    have H := H1
    clear H1
    obtain rfl := Option.some.inj H
    go_enter Tryz.func55, Tryz.ntmps55
    go_wp2_with (first | ((with_reducible refine zG 1 rfl ?_); refine zBox 1 #[.int .i64 a0_0, .int .i64 a0_1, .int .i64 a0_2] 38 ?_; intro gb286 hg w11 hbox hb; have BK286 := Aside0.mk (hbox); have GW286 := Aside0.mk ((by rw [hg]; exact (below_size zq) : w.heap.size ≤ gb286)); have GE286 := Aside0.mk ((by rw [hg]; exact (below_size zq) : w.heap.size ≤ gb286)); replace HB := Aside0.mk (below_step zq hb); clear hb hbox hg; have hcz12_0 := zC BK286; have hfz12_0 := zF BK286) | ((with_reducible refine gate_callee (f := 15) rfl ?_); refine zGl (some 5) Tryz.func15 #[.int .i64 a0_0] ?_; (with_reducible refine (qYear.calls a0_0 false _ A2.out).mono ?_); rintro e w' ⟨rfl, ⟨nd, rfl⟩⟩; refine ⟨_, rfl, ?_⟩))
    go_ret
    exact ⟨zE, zqs⟩
def qReal.f (k : Nat) (a0_0 : Int) (l0_1 : List Int) (a1_0 : Int) (a1_1 : Int) (a1_2 : Int) : Option (Bool) := (qWritten.f a1_0 a1_1 a1_2).bind fun t292 => (if t292 = true then ((qLeap.f k a0_0 l0_1 a1_0).bind fun t293 => ((qLength.f a1_1 t293).bind fun t294 => (some (decide (a1_2 ≤ t294))))) else (some false))
def qReal.T1 : Bool × List (List Nat × List Nat) := (true, [([], []), ([0], [0]), ([1, 1], [1]), ([2], [2]), ([3, 2], [2, 3]), ([2], [2]), ([5, 2], [2, 5]), ([2], [2]), ([2], [2]), ([8, 2], [2, 8]), ([7, 9, 2, 2], [2, 7, 9]), ([6, 10, 10, 2], [2, 6, 10]), ([4, 11, 2], [2, 4, 11]), ([2, 12], [2, 12]), ([13, 11, 0, 1, 2, 3, 4, 5, 6, 7, 8, 9, 10, 11, 12, 13], [13])])
def qReal.B1 : List Nat := [0, 1, 3, 7, 15, 7, 39, 7, 7, 263, 903, 2023, 4095, 8191, 16383]
theorem qReal.tab1 : rtab .any (opsOf Tryz.f18 1) = qReal.T1 := by kernel_rfl
theorem qReal.bits1 : waitsOk qReal.T1.2 qReal.B1 = true := by kernel_rfl
set_option maxHeartbeats 8000000 in
set_option maxRecDepth 100000 in
theorem qReal.calls (k : Nat) (a0_0 : Int) (A0_1 : Option Addr) (c0_1 : Nat) (l0_1 : List Int) (a1_0 : Int) (a1_1 : Int) (a1_2 : Int) (r : Bool) (w : World) (hr0_1 : Kd.C (Kd.int .i64) w A0_1 l0_1.length l0_1) (hc0_1 : l0_1.length ≤ c0_1) (h : qReal.f k a0_0 l0_1 a1_0 a1_1 a1_2 = some r) :
    Calls Tryz.prog 18 #[.agg #[.int .i64 a0_0, .slice A0_1 l0_1.length c0_1], .agg #[.int .i64 a1_0, .int .i64 a1_1, .int .i64 a1_2]] w fun e w' => e = .returned (.bool r) ∧ Below w.heap.size w w' := by
  have hu24 := Tryz.underlying24
  have hu38 := Tryz.underlying38
  have HR0_1 := Aside0.mk hr0_1
  have HC0_1 := Aside0.mk hc0_1
  clear hr0_1 hc0_1
  have HB := Aside0.mk (Below.refl w.heap.size w)
  have H : ((qWritten.f a1_0 a1_1 a1_2).bind fun t292 => (if t292 = true then ((qLeap.f k a0_0 l0_1 a1_0).bind fun t293 => ((qLength.f a1_1 t293).bind fun t294 => (some (decide (a1_2 ≤ t294))))) else (some false))) = some r := h
  clear h
  replace H := Option.bind_eq_some_iff.mp H
  obtain ⟨t292, A30, H⟩ := H
  replace H : (if t292 = true then ((qLeap.f k a0_0 l0_1 a1_0).bind fun t293 => ((qLength.f a1_1 t293).bind fun t294 => (some (decide (a1_2 ≤ t294))))) else (some false)) = some r := H
  have A3 := Aside0.mk A30
  clear A30
  by_cases c4 : t292 = true
  · subst c4
    have H1 : ((qLeap.f k a0_0 l0_1 a1_0).bind fun t293 => ((qLength.f a1_1 t293).bind fun t294 => (some (decide (a1_2 ≤ t294))))) = some r := by rw [if_pos rfl] at H; exact H
    clear H
    have H := H1
    clear H1
    replace H := Option.bind_eq_some_iff.mp H
    obtain ⟨t293, A50, H⟩ := H
    replace H : ((qLength.f a1_1 t293).bind fun t294 => (some (decide (a1_2 ≤ t294)))) = some r := H
    have A5 := Aside0.mk A50
    clear A50
    replace H := Option.bind_eq_some_iff.mp H
    obtain ⟨t294, A60, H⟩ := H
    replace H : (some (decide (a1_2 ≤ t294))) = some r := H
    have A6 := Aside0.mk A60
    clear A60
    obtain rfl := Option.some.inj H
    go_enter Tryz.func18, Tryz.ntmps18
    try go_wp2_with (first | ((with_reducible refine zG 2 rfl ?_); refine zBox 2 #[.int .i64 a0_0, .slice A0_1 l0_1.length c0_1] 24 ?_; intro gb290 hg w7 hbox hb; have BK290 := Aside0.mk (hbox); have GW290 := Aside0.mk ((by rw [hg]; exact (below_size zq) : w.heap.size ≤ gb290)); have GE290 := Aside0.mk ((by rw [hg]; exact (below_size zq) : w.heap.size ≤ gb290)); replace HB := Aside0.mk (below_step zq hb); clear hb hbox hg) | ((with_reducible refine zG 3 rfl ?_); refine zBox 3 #[.int .i64 a1_0, .int .i64 a1_1, .int .i64 a1_2] 38 ?_; intro gb291 hg w8 hbox hb; have BK291 := Aside0.mk (hbox); have GW291 := Aside0.mk ((by rw [hg]; exact (below_size zqs) : w.heap.size ≤ gb291)); have GE291 := Aside0.mk ((by rw [hg]; exact (below_size zqs) : w.heap.size ≤ gb291)); replace HB := Aside0.mk (below_step zqs hb); have NB290_291 := znU hg BK290; have NB291_290 := znV hg BK290; replace BK290 := zbN BK290 hb; clear hb hbox hg))
    have n0_ := Aside0.mk (blk_drew BK290.out)
    have n1_ := Aside0.mk (blk_drew BK291.out)
    have n2_ := Aside0.mk (below_drew1 HB.out)
    clear BK290
    clear BK291
    clear HB
    have BK290 := n0_
    have BK291 := n1_
    have HB := n2_
    clear n0_ n1_ n2_
    refine zStart 15 (fun w' => zCells w' gb291 0 [.int .i64 a1_0, .int .i64 a1_1, .int .i64 a1_2] ∧ zCells w' gb290 0 [.int .i64 a0_0, .slice A0_1 l0_1.length c0_1]) #[false, false, false, false, false, false, false, false, false, false, false, false, false, false, false] qReal.tab1 qReal.bits1 ⟨zS BK291, zS BK290⟩ (fun hHeld HT_ HW_ => ?_)
    generalize w8.drew = w9 at BK290 BK291 HB hHeld ⊢
    refine zT 0 (some 5) HT_ HW_ hHeld ?_
    refine zGo 1 (some 6) HT_ Tryz.func55 #[.agg #[.int .i64 a1_0, .int .i64 a1_1, .int .i64 a1_2]] ?_
    with_reducible refine (qWritten.calls a1_0 a1_1 a1_2 true _ A3.out).mono ?_
    rintro e w10 ⟨rfl, hb⟩
    have n0_ := zbN BK290 hb
    have n1_ := zbN BK291 hb
    have n2_ := Aside0.mk (below_step zqs hb)
    clear BK290
    clear BK291
    clear HB
    have BK290 := n0_
    have BK291 := n1_
    have HB := n2_
    clear n0_ n1_ n2_
    (try clear hb)
    (try clear hb2)
    (try clear hk)
    (try clear hi)
    refine zV ⟨zS BK291, zS BK290⟩ (fun hHeld => ?_)
    refine zP 2 (some 7) HT_ ?_
    refine zP 3 (some 8) HT_ ?_
    refine zP 5 (some 10) HT_ ?_
    refine zP 8 (some 13) HT_ ?_
    refine zT 4 (some 9) HT_ HW_ hHeld ?_
    refine zT 6 (some 11) HT_ HW_ hHeld ?_
    refine zT 7 (some 12) HT_ HW_ hHeld ?_
    refine zT 9 (some 14) HT_ HW_ hHeld ?_
    refine zGo 10 (some 15) HT_ Tryz.func53 #[.agg #[.int .i64 a0_0, .slice A0_1 l0_1.length c0_1], .int .i64 a1_0] ?_
    with_reducible refine (qLeap.calls k a0_0 _ _ l0_1 a1_0 t293 _ ?side1 ?side2 A5.out).mono ?_
    (case side1 => repeat (first | exact (Kd.C_below HR0_1.out HB.out) | (with_reducible refine Kd.C_alloc ?_ _) | (with_reducible refine Kd.C_drewN ?_ _) | (with_reducible refine Kd.C_drew ?_)))
    (case side2 => exact HC0_1.out)
    rintro e w11 ⟨rfl, hb⟩
    have n0_ := zbN BK290 hb
    have n1_ := zbN BK291 hb
    have n2_ := Aside0.mk (below_step zqs hb)
    clear BK290
    clear BK291
    clear HB
    have BK290 := n0_
    have BK291 := n1_
    have HB := n2_
    clear n0_ n1_ n2_
    (try clear hb)
    (try clear hb2)
    (try clear hk)
    (try clear hi)
    refine zV ⟨zS BK291, zS BK290⟩ (fun hHeld => ?_)
    refine zGo 11 (some 16) HT_ Tryz.func20 #[.int .i64 a1_1, .bool t293] ?_
    with_reducible refine (qLength.calls a1_1 t293 t294 _ A6.out).mono ?_
    rintro e w12 ⟨rfl, hb⟩
    have n0_ := zbN BK290 hb
    have n1_ := zbN BK291 hb
    have n2_ := Aside0.mk (below_step zqs hb)
    clear BK290
    clear BK291
    clear HB
    have BK290 := n0_
    have BK291 := n1_
    have HB := n2_
    clear n0_ n1_ n2_
    (try clear hb)
    (try clear hb2)
    (try clear hk)
    (try clear hi)
    refine zV ⟨zS BK291, zS BK290⟩ (fun hHeld => ?_)
    refine zP 12 (some 17) HT_ ?_
    refine zP 13 (some 18) HT_ ?_
    refine zP 14 (some 4) HT_ ?_
    refine done_ (done_of HT_.out (by kernel_rfl)) ?_
    try go_wp2
    go_ret
    exact ⟨zE, zqs⟩
  · replace c4 := Bool.eq_false_iff.mpr c4
    subst c4
    have H1 : (some false) = some r := by rw [if_neg (show ¬ (false = true) by decide)] at H; exact H
    clear H
    have H := H1
    clear H1
    obtain rfl := Option.some.inj H
    go_enter Tryz.func18, Tryz.ntmps18
    try go_wp2_with (first | ((with_reducible refine zG 2 rfl ?_); refine zBox 2 #[.int .i64 a0_0, .slice A0_1 l0_1.length c0_1] 24 ?_; intro gb290 hg w13 hbox hb; have BK290 := Aside0.mk (hbox); have GW290 := Aside0.mk ((by rw [hg]; exact (below_size zq) : w.heap.size ≤ gb290)); have GE290 := Aside0.mk ((by rw [hg]; exact (below_size zq) : w.heap.size ≤ gb290)); replace HB := Aside0.mk (below_step zq hb); clear hb hbox hg) | ((with_reducible refine zG 3 rfl ?_); refine zBox 3 #[.int .i64 a1_0, .int .i64 a1_1, .int .i64 a1_2] 38 ?_; intro gb291 hg w14 hbox hb; have BK291 := Aside0.mk (hbox); have GW291 := Aside0.mk ((by rw [hg]; exact (below_size zqs) : w.heap.size ≤ gb291)); have GE291 := Aside0.mk ((by rw [hg]; exact (below_size zqs) : w.heap.size ≤ gb291)); replace HB := Aside0.mk (below_step zqs hb); have NB290_291 := znU hg BK290; have NB291_290 := znV hg BK290; replace BK290 := zbN BK290 hb; clear hb hbox hg))
    have n0_ := Aside0.mk (blk_drew BK290.out)
    have n1_ := Aside0.mk (blk_drew BK291.out)
    have n2_ := Aside0.mk (below_drew1 HB.out)
    clear BK290
    clear BK291
    clear HB
    have BK290 := n0_
    have BK291 := n1_
    have HB := n2_
    clear n0_ n1_ n2_
    refine zStart 15 (fun w' => zCells w' gb291 0 [.int .i64 a1_0, .int .i64 a1_1, .int .i64 a1_2]) #[false, false, false, false, false, false, false, false, false, false, false, false, false, false, false] qReal.tab1 qReal.bits1 (zS BK291) (fun hHeld HT_ HW_ => ?_)
    generalize w14.drew = w15 at BK290 BK291 HB hHeld ⊢
    refine zT 0 (some 5) HT_ HW_ hHeld ?_
    refine zGo 1 (some 6) HT_ Tryz.func55 #[.agg #[.int .i64 a1_0, .int .i64 a1_1, .int .i64 a1_2]] ?_
    with_reducible refine (qWritten.calls a1_0 a1_1 a1_2 false _ A3.out).mono ?_
    rintro e w16 ⟨rfl, hb⟩
    have n0_ := zbN BK290 hb
    have n1_ := zbN BK291 hb
    have n2_ := Aside0.mk (below_step zqs hb)
    clear BK290
    clear BK291
    clear HB
    have BK290 := n0_
    have BK291 := n1_
    have HB := n2_
    clear n0_ n1_ n2_
    (try clear hb)
    (try clear hb2)
    (try clear hk)
    (try clear hi)
    refine zV (zS BK291) (fun hHeld => ?_)
    refine zP 2 (some 7) HT_ ?_
    refine zO 3 (some 8) HT_ ?_
    refine zO 4 (some 9) HT_ ?_
    refine zO 5 (some 10) HT_ ?_
    refine zO 6 (some 11) HT_ ?_
    refine zO 7 (some 12) HT_ ?_
    refine zO 8 (some 13) HT_ ?_
    refine zO 9 (some 14) HT_ ?_
    refine zO 10 (some 15) HT_ ?_
    refine zO 11 (some 16) HT_ ?_
    refine zO 12 (some 17) HT_ ?_
    refine zP 13 (some 18) HT_ ?_
    refine zP 14 (some 4) HT_ ?_
    refine done_ (done_of HT_.out (by kernel_rfl)) ?_
    try go_wp2
    go_ret
    exact ⟨zE, zqs⟩
def qNumber.f (a0 : Int) : Option (Bool) := (tellurionref06_in.f a0 0 2000000).bind fun t340 => (some t340)
set_option maxHeartbeats 8000000 in
set_option maxRecDepth 100000 in
theorem qNumber.calls (a0 : Int) (r : Bool) (w : World) (h : qNumber.f a0 = some r) :
    Calls Tryz.prog 24 #[.int .i64 a0] w fun e w' => e = .returned (.bool r) ∧ Drawn0 w w' := by
  have H : ((tellurionref06_in.f a0 0 2000000).bind fun t340 => (some t340)) = some r := h
  clear h
  replace H := Option.bind_eq_some_iff.mp H
  obtain ⟨t340, A20, H⟩ := H
  replace H : (some t340) = some r := H
  have A2 := Aside0.mk A20
  clear A20
  obtain rfl := Option.some.inj H
  go_enter Tryz.func24, Tryz.ntmps24
  go_wp2_with (first | ((with_reducible refine gate_callee (f := 51) rfl ?_); refine zGl (some 4) Tryz.func51 #[.int .i64 a0, .int .i64 0, .int .i64 2000000] ?_; (with_reducible refine (tellurionref06_in.calls a0 0 2000000 t340 _ A2.out).mono ?_); rintro e w' ⟨rfl, ⟨nd, rfl⟩⟩; refine ⟨_, rfl, ?_⟩))
  go_ret
  exact ⟨by first | rfl | (simp; done) | (simp [*]; done), by repeat (first | exact Drawn0.refl _ | apply Drawn0.step)⟩
def dial_Check.f (k : Nat) (a0_0 : Int) (l0_1 : List Int) : Option (Int) := (dial_isCalendar.f k a0_0 l0_1).bind fun t413 => (if t413 = true then (some 0) else (some 2))
set_option maxHeartbeats 8000000 in
set_option maxRecDepth 100000 in
theorem dial_Check.calls (k : Nat) (a0_0 : Int) (A0_1 : Option Addr) (c0_1 : Nat) (l0_1 : List Int) (r : Int) (w : World) (hr0_1 : Kd.C (Kd.int .i64) w A0_1 l0_1.length l0_1) (hc0_1 : l0_1.length ≤ c0_1) (h : dial_Check.f k a0_0 l0_1 = some r) :
    Calls Tryz.prog 28 #[.agg #[.int .i64 a0_0, .slice A0_1 l0_1.length c0_1]] w fun e w' => e = .returned (.int .i64 r) ∧ Below w.heap.size w w' := by
  have hu24 := Tryz.underlying24
  have HR0_1 := Aside0.mk hr0_1
  have HC0_1 := Aside0.mk hc0_1
  clear hr0_1 hc0_1
  have HB := Aside0.mk (Below.refl w.heap.size w)
  have H : ((dial_isCalendar.f k a0_0 l0_1).bind fun t413 => (if t413 = true then (some 0) else (some 2))) = some r := h
  clear h
  replace H := Option.bind_eq_some_iff.mp H
  obtain ⟨t413, A20, H⟩ := H
  replace H : (if t413 = true then (some 0) else (some 2)) = some r := H
  have A2 := Aside0.mk A20
  clear A20
  by_cases c3 : t413 = true
  · subst c3
    have H1 : (some 0) = some r := by rw [if_pos rfl] at H; exact H
    clear H
    have H := H1
    clear H1
    obtain rfl := Option.some.inj H
    go_enter Tryz.func28, Tryz.ntmps28
    go_wp2_with (first | ((with_reducible refine zG 1 rfl ?_); refine zBox 1 #[.int .i64 a0_0, .slice A0_1 l0_1.length c0_1] 24 ?_; intro gb412 hg w4 hbox hb; have BK412 := Aside0.mk (hbox); have GW412 := Aside0.mk ((by rw [hg]; exact (below_size zq) : w.heap.size ≤ gb412)); have GE412 := Aside0.mk ((by rw [hg]; exact (below_size zq) : w.heap.size ≤ gb412)); replace HB := Aside0.mk (below_step zq hb); clear hb hbox hg; have hcz5_0 := zC BK412; have hfz5_0 := zF BK412) | ((with_reducible refine gate_callee (f := 46) rfl ?_); refine zGl (some 4) Tryz.func46 #[.agg #[.int .i64 a0_0, .slice A0_1 l0_1.length c0_1]] ?_; (with_reducible refine (dial_isCalendar.calls k a0_0 _ _ l0_1 true _ ?side1 ?side2 A2.out).mono ?_); (case side1 => repeat (first | exact (Kd.C_below HR0_1.out HB.out) | (with_reducible refine Kd.C_alloc ?_ _) | (with_reducible refine Kd.C_drewN ?_ _) | (with_reducible refine Kd.C_drew ?_))); (case side2 => exact HC0_1.out); rintro e w6 ⟨rfl, hb⟩; refine ⟨_, rfl, ?_⟩; replace BK412 := zbN BK412 hb; replace HB := Aside0.mk (below_step zqs hb); (try clear hb); (try clear hb2); (try clear hk); (try clear hi)))
    go_ret
    exact ⟨zE, zqs⟩
  · replace c3 := Bool.eq_false_iff.mpr c3
    subst c3
    have H1 : (some 2) = some r := by rw [if_neg (show ¬ (false = true) by decide)] at H; exact H
    clear H
    have H := H1
    clear H1
    obtain rfl := Option.some.inj H
    go_enter Tryz.func28, Tryz.ntmps28
    go_wp2_with (first | ((with_reducible refine zG 1 rfl ?_); refine zBox 1 #[.int .i64 a0_0, .slice A0_1 l0_1.length c0_1] 24 ?_; intro gb412 hg w7 hbox hb; have BK412 := Aside0.mk (hbox); have GW412 := Aside0.mk ((by rw [hg]; exact (below_size zq) : w.heap.size ≤ gb412)); have GE412 := Aside0.mk ((by rw [hg]; exact (below_size zq) : w.heap.size ≤ gb412)); replace HB := Aside0.mk (below_step zq hb); clear hb hbox hg; have hcz8_0 := zC BK412; have hfz8_0 := zF BK412) | ((with_reducible refine gate_callee (f := 46) rfl ?_); refine zGl (some 4) Tryz.func46 #[.agg #[.int .i64 a0_0, .slice A0_1 l0_1.length c0_1]] ?_; (with_reducible refine (dial_isCalendar.calls k a0_0 _ _ l0_1 false _ ?side1 ?side2 A2.out).mono ?_); (case side1 => repeat (first | exact (Kd.C_below HR0_1.out HB.out) | (with_reducible refine Kd.C_alloc ?_ _) | (with_reducible refine Kd.C_drewN ?_ _) | (with_reducible refine Kd.C_drew ?_))); (case side2 => exact HC0_1.out); rintro e w9 ⟨rfl, hb⟩; refine ⟨_, rfl, ?_⟩; replace BK412 := zbN BK412 hb; replace HB := Aside0.mk (below_step zqs hb); (try clear hb); (try clear hb2); (try clear hk); (try clear hi)))
    go_ret
    exact ⟨zE, zqs⟩
def qInto.l0 : Nat → Int → Int → Int → List Int → Int → Int → Int → Option (Int)
  | 0, _, _, _, _, _, _, _ => none
  | k + 1, x5, x6, x415000, x415001, x416000, x416001, x416002 => if x6 < x416001 then ((qLeap.f k x415000 x415001 x416000).bind fun t416 => ((qLength.f x6 t416).bind fun t417 => (qInto.l0 k (wrap64 (x5 + t417)) (wrap64 (x6 + 1)) x415000 x415001 x416000 x416001 x416002))) else (some x5)
def qInto.f (k : Nat) (a0_0 : Int) (l0_1 : List Int) (a1_0 : Int) (a1_1 : Int) (a1_2 : Int) : Option (Int) := qInto.l0 k (wrap64 (a1_2 - 1)) 1 a0_0 l0_1 a1_0 a1_1 a1_2
set_option maxHeartbeats 8000000 in
set_option maxRecDepth 100000 in
theorem qInto.calls (k : Nat) (a0_0 : Int) (A0_1 : Option Addr) (c0_1 : Nat) (l0_1 : List Int) (a1_0 : Int) (a1_1 : Int) (a1_2 : Int) (r : Int) (w : World) (hr0_1 : Kd.C (Kd.int .i64) w A0_1 l0_1.length l0_1) (hc0_1 : l0_1.length ≤ c0_1) (h : qInto.f k a0_0 l0_1 a1_0 a1_1 a1_2 = some r) :
    Calls Tryz.prog 65 #[.agg #[.int .i64 a0_0, .slice A0_1 l0_1.length c0_1], .agg #[.int .i64 a1_0, .int .i64 a1_1, .int .i64 a1_2]] w fun e w' => e = .returned (.int .i64 r) ∧ Below w.heap.size w w' := by
  have hu24 := Tryz.underlying24
  have hu38 := Tryz.underlying38
  have HR0_1 := Aside0.mk hr0_1
  have HC0_1 := Aside0.mk hc0_1
  clear hr0_1 hc0_1
  have HB := Aside0.mk (Below.refl w.heap.size w)
  have H : (qInto.l0 k (wrap64 (a1_2 - 1)) 1 a0_0 l0_1 a1_0 a1_1 a1_2) = some r := h
  clear h
  have H' := Aside0.mk H
  clear H
  go_enter Tryz.func65, Tryz.ntmps65
  go_wp2_with (first | ((with_reducible refine zG 2 rfl ?_); refine zBox 2 #[.int .i64 a0_0, .slice A0_1 l0_1.length c0_1] 24 ?_; intro gb414 hg w3 hbox hb; have BK414 := Aside0.mk (hbox); have GW414 := Aside0.mk ((by rw [hg]; exact (below_size zq) : w.heap.size ≤ gb414)); have GE414 := Aside0.mk ((by rw [hg]; exact (below_size zq) : w.heap.size ≤ gb414)); replace HB := Aside0.mk (below_step zq hb); clear hb hbox hg) | ((with_reducible refine zG 3 rfl ?_); refine zBox 3 #[.int .i64 a1_0, .int .i64 a1_1, .int .i64 a1_2] 38 ?_; intro gb415 hg w4 hbox hb; have BK415 := Aside0.mk (hbox); have GW415 := Aside0.mk ((by rw [hg]; exact (below_size zqs) : w.heap.size ≤ gb415)); have GE415 := Aside0.mk ((by rw [hg]; exact (below_size zqs) : w.heap.size ≤ gb415)); replace HB := Aside0.mk (below_step zqs hb); have NB414_415 := znU hg BK414; have NB415_414 := znV hg BK414; replace BK414 := zbN BK414 hb; clear hb hbox hg; have hnb5 := NB415_414.out; have hnc5 := NB414_415.out; have hcz6_0 := zC BK415; have hfz6_0 := zF BK415))
  go_loopg [5, 6] k (fun kq v5 v6 w' => ∃ (x5_1 : Int) (x6_1 : Int), v5 = .int .i64 x5_1 ∧ v6 = .int .i64 x6_1 ∧ Aside0 (qInto.l0 kq x5_1 x6_1 a0_0 l0_1 a1_0 a1_1 a1_2 = some r) ∧ Aside0 (kq ≤ k) ∧ Aside0 (w'.heap[gb414]? = some (.cells #[.int .i64 a0_0, (.slice A0_1 l0_1.length c0_1)] 24 (0, 0))) ∧ Aside0 (w'.heap[gb415]? = some (.cells #[.int .i64 a1_0, .int .i64 a1_1, .int .i64 a1_2] 38 (0, 0))) ∧ Aside0 (Below w.heap.size w w'))
  case atStart => exact ⟨(wrap64 (a1_2 - 1)), (1), zz, zz, H', ⟨Nat.le_refl _⟩, ⟨zh BK414⟩, ⟨zh BK415⟩, ⟨zqs⟩⟩
  case round =>
    clear H'
    try clear p2
    try clear c5
    try clear c6
    try clear p6
    try clear hcz6_0
    try clear hfz6_0
    obtain ⟨x5_1, x6_1, rfl, rfl, HA, HK1, BK414, BK415, HB⟩ := hrel
    cases gk with
    | zero => exact absurd HA.out (by simp [qInto.l0])
    | succ k1 =>
      have H := HA.out
      clear HA
      simp only [qInto.l0] at H
      by_cases c7 : x6_1 < a1_1
      · rw [if_pos c7] at H
        have c7b0 : decide (x6_1 < a1_1) = true := decide_eq_true c7
        clear c7
        replace H := Option.bind_eq_some_iff.mp H
        obtain ⟨t416, A80, H⟩ := H
        replace H : ((qLength.f x6_1 t416).bind fun t417 => (qInto.l0 k1 (wrap64 (x5_1 + t417)) (wrap64 (x6_1 + 1)) a0_0 l0_1 a1_0 a1_1 a1_2)) = some r := H
        have A8 := Aside0.mk A80
        clear A80
        replace H := Option.bind_eq_some_iff.mp H
        obtain ⟨t417, A90, H⟩ := H
        replace H : (qInto.l0 k1 (wrap64 (x5_1 + t417)) (wrap64 (x6_1 + 1)) a0_0 l0_1 a1_0 a1_1 a1_2) = some r := H
        have A9 := Aside0.mk A90
        clear A90
        have H' := Aside0.mk H
        clear H
        have hnb10 := NB415_414.out
        have hnc10 := NB414_415.out
        have hcz11_0 := zC BK415
        have hfz11_0 := zF BK415
        have hcz12_0 := zC BK414
        have hfz12_0 := zF BK414
        go_wp2_with (first | ((with_reducible refine gate_callee (f := 53) rfl ?_); refine zGl (some 21) Tryz.func53 #[.agg #[.int .i64 a0_0, .slice A0_1 l0_1.length c0_1], .int .i64 a1_0] ?_; (with_reducible refine (qLeap.calls k1 a0_0 _ _ l0_1 a1_0 t416 _ ?side1 ?side2 A8.out).mono ?_); (case side1 => repeat (first | exact (Kd.C_below HR0_1.out HB.out) | (with_reducible refine Kd.C_alloc ?_ _) | (with_reducible refine Kd.C_drewN ?_ _) | (with_reducible refine Kd.C_drew ?_))); (case side2 => exact HC0_1.out); rintro e w13 ⟨rfl, hb⟩; refine ⟨_, rfl, ?_⟩; replace BK414 := zbN BK414 hb; replace BK415 := zbN BK415 hb; replace HB := Aside0.mk (below_step zqs hb); (try clear hb); (try clear hb2); (try clear hk); (try clear hi)) | ((with_reducible refine gate_callee (f := 20) rfl ?_); refine zGl (some 22) Tryz.func20 #[.int .i64 x6_1, .bool t416] ?_; (with_reducible refine (qLength.calls x6_1 t416 t417 _ A9.out).mono ?_); rintro e w14 ⟨rfl, hb⟩; refine ⟨_, rfl, ?_⟩; replace BK414 := zbN BK414 hb; replace BK415 := zbN BK415 hb; replace HB := Aside0.mk (below_step zqs hb); (try clear hb); (try clear hb2); (try clear hk); (try clear hi)))
        go_roundg k1
        case measure => have := HK1.out; omega
        case rel => exact ⟨(wrap64 (x5_1 + t417)), (wrap64 (x6_1 + 1)), zz, zz, H', ⟨by have := HK1.out; omega⟩, ⟨zh BK414⟩, ⟨zh BK415⟩, ⟨zqs⟩⟩
      · rw [if_neg c7] at H
        have c7b0 : decide (x6_1 < a1_1) = false := decide_eq_false c7
        clear c7
        obtain rfl := Option.some.inj H
        have hnb15 := NB415_414.out
        have hnc15 := NB414_415.out
        have hcz16_0 := zC BK415
        have hfz16_0 := zF BK415
        go_wp2
        go_ret
        exact ⟨zE, zqs⟩
def qDay.f (k : Nat) (a0_0 : Int) (l0_1 : List Int) (a1_0 : Int) (a1_1 : Int) (a1_2 : Int) : Option (Int) := (qFirst.f k a0_0 l0_1 a1_0).bind fun t420 => ((qInto.f k a0_0 l0_1 a1_0 a1_1 a1_2).bind fun t421 => (some (wrap64 (t420 + t421))))
def qDay.T1 : Bool × List (List Nat × List Nat) := (true, [([], []), ([], []), ([1], [1]), ([0, 2], [0, 2]), ([], []), ([], []), ([4, 5, 3], [4, 5]), ([3, 6], [3, 6]), ([7, 6, 0, 1, 2, 3, 4, 5, 6, 7], [7])])
def qDay.B1 : List Nat := [0, 0, 2, 7, 0, 0, 63, 127, 255]
theorem qDay.tab1 : rtab .any (opsOf Tryz.f29 1) = qDay.T1 := by kernel_rfl
theorem qDay.bits1 : waitsOk qDay.T1.2 qDay.B1 = true := by kernel_rfl
set_option maxHeartbeats 8000000 in
set_option maxRecDepth 100000 in
theorem qDay.calls (k : Nat) (a0_0 : Int) (A0_1 : Option Addr) (c0_1 : Nat) (l0_1 : List Int) (a1_0 : Int) (a1_1 : Int) (a1_2 : Int) (r : Int) (w : World) (hr0_1 : Kd.C (Kd.int .i64) w A0_1 l0_1.length l0_1) (hc0_1 : l0_1.length ≤ c0_1) (h : qDay.f k a0_0 l0_1 a1_0 a1_1 a1_2 = some r) :
    Calls Tryz.prog 29 #[.agg #[.int .i64 a0_0, .slice A0_1 l0_1.length c0_1], .agg #[.int .i64 a1_0, .int .i64 a1_1, .int .i64 a1_2]] w fun e w' => e = .returned (.int .i64 r) ∧ Below w.heap.size w w' := by
  have hu24 := Tryz.underlying24
  have hu38 := Tryz.underlying38
  have HR0_1 := Aside0.mk hr0_1
  have HC0_1 := Aside0.mk hc0_1
  clear hr0_1 hc0_1
  have HB := Aside0.mk (Below.refl w.heap.size w)
  have H : ((qFirst.f k a0_0 l0_1 a1_0).bind fun t420 => ((qInto.f k a0_0 l0_1 a1_0 a1_1 a1_2).bind fun t421 => (some (wrap64 (t420 + t421))))) = some r := h
  clear h
  replace H := Option.bind_eq_some_iff.mp H
  obtain ⟨t420, A30, H⟩ := H
  replace H : ((qInto.f k a0_0 l0_1 a1_0 a1_1 a1_2).bind fun t421 => (some (wrap64 (t420 + t421)))) = some r := H
  have A3 := Aside0.mk A30
  clear A30
  replace H := Option.bind_eq_some_iff.mp H
  obtain ⟨t421, A40, H⟩ := H
  replace H : (some (wrap64 (t420 + t421))) = some r := H
  have A4 := Aside0.mk A40
  clear A40
  obtain rfl := Option.some.inj H
  go_enter Tryz.func29, Tryz.ntmps29
  try go_wp2_with (first | ((with_reducible refine zG 2 rfl ?_); refine zBox 2 #[.int .i64 a0_0, .slice A0_1 l0_1.length c0_1] 24 ?_; intro gb418 hg w5 hbox hb; have BK418 := Aside0.mk (hbox); have GW418 := Aside0.mk ((by rw [hg]; exact (below_size zq) : w.heap.size ≤ gb418)); have GE418 := Aside0.mk ((by rw [hg]; exact (below_size zq) : w.heap.size ≤ gb418)); replace HB := Aside0.mk (below_step zq hb); clear hb hbox hg) | ((with_reducible refine zG 3 rfl ?_); refine zBox 3 #[.int .i64 a1_0, .int .i64 a1_1, .int .i64 a1_2] 38 ?_; intro gb419 hg w6 hbox hb; have BK419 := Aside0.mk (hbox); have GW419 := Aside0.mk ((by rw [hg]; exact (below_size zqs) : w.heap.size ≤ gb419)); have GE419 := Aside0.mk ((by rw [hg]; exact (below_size zqs) : w.heap.size ≤ gb419)); replace HB := Aside0.mk (below_step zqs hb); have NB418_419 := znU hg BK418; have NB419_418 := znV hg BK418; replace BK418 := zbN BK418 hb; clear hb hbox hg))
  have n0_ := Aside0.mk (blk_drew BK418.out)
  have n1_ := Aside0.mk (blk_drew BK419.out)
  have n2_ := Aside0.mk (below_drew1 HB.out)
  clear BK418
  clear BK419
  clear HB
  have BK418 := n0_
  have BK419 := n1_
  have HB := n2_
  clear n0_ n1_ n2_
  refine zStart 9 (fun w' => zCells w' gb418 0 [.int .i64 a0_0, .slice A0_1 l0_1.length c0_1] ∧ zCells w' gb419 0 [.int .i64 a1_0, .int .i64 a1_1, .int .i64 a1_2]) #[false, false, false, false, false, false, false, false, false] qDay.tab1 qDay.bits1 ⟨zS BK418, zS BK419⟩ (fun hHeld HT_ HW_ => ?_)
  generalize w6.drew = w7 at BK418 BK419 HB hHeld ⊢
  refine zP 1 (some 6) HT_ ?_
  refine zT 0 (some 5) HT_ HW_ hHeld ?_
  refine zT 2 (some 7) HT_ HW_ hHeld ?_
  refine zT 4 (some 9) HT_ HW_ hHeld ?_
  refine zT 5 (some 10) HT_ HW_ hHeld ?_
  refine zGo 3 (some 8) HT_ Tryz.func52 #[.agg #[.int .i64 a0_0, .slice A0_1 l0_1.length c0_1], .int .i64 a1_0] ?_
  with_reducible refine (qFirst.calls k a0_0 _ _ l0_1 a1_0 t420 _ ?side1 ?side2 A3.out).mono ?_
  (case side1 => repeat (first | exact (Kd.C_below HR0_1.out HB.out) | (with_reducible refine Kd.C_alloc ?_ _) | (with_reducible refine Kd.C_drewN ?_ _) | (with_reducible refine Kd.C_drew ?_)))
  (case side2 => exact HC0_1.out)
  rintro e w8 ⟨rfl, hb⟩
  have n0_ := zbN BK418 hb
  have n1_ := zbN BK419 hb
  have n2_ := Aside0.mk (below_step zqs hb)
  clear BK418
  clear BK419
  clear HB
  have BK418 := n0_
  have BK419 := n1_
  have HB := n2_
  clear n0_ n1_ n2_
  (try clear hb)
  (try clear hb2)
  (try clear hk)
  (try clear hi)
  refine zV ⟨zS BK418, zS BK419⟩ (fun hHeld => ?_)
  refine zGo 6 (some 11) HT_ Tryz.func65 #[.agg #[.int .i64 a0_0, .slice A0_1 l0_1.length c0_1], .agg #[.int .i64 a1_0, .int .i64 a1_1, .int .i64 a1_2]] ?_
  with_reducible refine (qInto.calls k a0_0 _ _ l0_1 a1_0 a1_1 a1_2 t421 _ ?side1 ?side2 A4.out).mono ?_
  (case side1 => repeat (first | exact (Kd.C_below HR0_1.out HB.out) | (with_reducible refine Kd.C_alloc ?_ _) | (with_reducible refine Kd.C_drewN ?_ _) | (with_reducible refine Kd.C_drew ?_)))
  (case side2 => exact HC0_1.out)
  rintro e w9 ⟨rfl, hb⟩
  have n0_ := zbN BK418 hb
  have n1_ := zbN BK419 hb
  have n2_ := Aside0.mk (below_step zqs hb)
  clear BK418
  clear BK419
  clear HB
  have BK418 := n0_
  have BK419 := n1_
  have HB := n2_
  clear n0_ n1_ n2_
  (try clear hb)
  (try clear hb2)
  (try clear hk)
  (try clear hi)
  refine zV ⟨zS BK418, zS BK419⟩ (fun hHeld => ?_)
  refine zP 7 (some 12) HT_ ?_
  refine zP 8 (some 4) HT_ ?_
  refine done_ (done_of HT_.out (by kernel_rfl)) ?_
  try go_wp2
  go_ret
  exact ⟨zE, zqs⟩
mutual
def qDate.l0 : Nat → Int → Int → Int → List Int → Option (Int × Int × Int × Bool)
  | 0, _, _, _, _ => none
  | k + 1, x6, x7, x423000, x423001 => if x7 ≤ 4000 then ((qLong.f k x423000 x423001 x7).bind fun t424 => (if x6 ≥ t424 then (qDate.l0 k (wrap64 (x6 - t424)) (wrap64 (x7 + 1)) x423000 x423001) else (qDate.l1 k x6 x7 1 x423000 x423001))) else (some (0, 0, 0, false))
def qDate.l1 : Nat → Int → Int → Int → Int → List Int → Option (Int × Int × Int × Bool)
  | 0, _, _, _, _, _ => none
  | k + 1, x6, x7, x9, x423000, x423001 => if x9 ≤ 12 then ((qLeap.f k x423000 x423001 x7).bind fun t425 => ((qLength.f x9 t425).bind fun t426 => (if x6 < t426 then (some (x7, x9, wrap64 (x6 + 1), true)) else (qDate.l1 k (wrap64 (x6 - t426)) x7 (wrap64 (x9 + 1)) x423000 x423001)))) else (qDate.l0 k x6 (wrap64 (x7 + 1)) x423000 x423001)
end
def qDate.f (k : Nat) (a0_0 : Int) (l0_1 : List Int) (a1 : Int) : Option (Int × Int × Int × Bool) := if (wrap64 (a1 - a0_0)) < 0 then (some (0, 0, 0, false)) else (qDate.l0 k (wrap64 (a1 - a0_0)) 0 a0_0 l0_1)
set_option maxHeartbeats 8000000 in
set_option maxRecDepth 100000 in
theorem qDate.calls (k : Nat) (a0_0 : Int) (A0_1 : Option Addr) (c0_1 : Nat) (l0_1 : List Int) (a1 : Int) (r1 : Int) (r2 : Int) (r3 : Int) (r4 : Bool) (w : World) (hr0_1 : Kd.C (Kd.int .i64) w A0_1 l0_1.length l0_1) (hc0_1 : l0_1.length ≤ c0_1) (h : qDate.f k a0_0 l0_1 a1 = some (r1, r2, r3, r4)) :
    Calls Tryz.prog 30 #[.agg #[.int .i64 a0_0, .slice A0_1 l0_1.length c0_1], .int .i64 a1] w fun e w' => e = .returned (.tuple #[.agg #[.int .i64 r1, .int .i64 r2, .int .i64 r3], .bool r4]) ∧ Below w.heap.size w w' := by
  have hu24 := Tryz.underlying24
  have hu38 := Tryz.underlying38
  have HR0_1 := Aside0.mk hr0_1
  have HC0_1 := Aside0.mk hc0_1
  clear hr0_1 hc0_1
  have HB := Aside0.mk (Below.refl w.heap.size w)
  have H : (if (wrap64 (a1 - a0_0)) < 0 then (some (0, 0, 0, false)) else (qDate.l0 k (wrap64 (a1 - a0_0)) 0 a0_0 l0_1)) = some (r1, r2, r3, r4) := h
  clear h
  by_cases c3 : (wrap64 (a1 - a0_0)) < 0
  · rw [if_pos c3] at H
    have c3b0 : decide ((wrap64 (a1 - a0_0)) < 0) = true := decide_eq_true c3
    clear c3
    simp only [Option.some.injEq, Prod.mk.injEq] at H
    obtain ⟨rfl, rfl, rfl, rfl⟩ := H
    go_enter Tryz.func30, Tryz.ntmps30
    go_wp2_with (first | ((with_reducible refine zG 2 rfl ?_); refine zBox 2 #[.int .i64 a0_0, .slice A0_1 l0_1.length c0_1] 24 ?_; intro gb422 hg w4 hbox hb; have BK422 := Aside0.mk (hbox); have GW422 := Aside0.mk ((by rw [hg]; exact (below_size zq) : w.heap.size ≤ gb422)); have GE422 := Aside0.mk ((by rw [hg]; exact (below_size zq) : w.heap.size ≤ gb422)); replace HB := Aside0.mk (below_step zq hb); clear hb hbox hg) | ((with_reducible refine zG 4 rfl ?_); refine zBox 4 #[.int .i64 0, .int .i64 0, .int .i64 0] 38 ?_; intro gb423 hg w5 hbox hb; have BK423 := Aside0.mk (hbox); have GW423 := Aside0.mk ((by rw [hg]; exact (below_size zqs) : w.heap.size ≤ gb423)); have GE423 := Aside0.mk ((by rw [hg]; exact (below_size zqs) : w.heap.size ≤ gb423)); replace HB := Aside0.mk (below_step zqs hb); have NB422_423 := znU hg BK422; have NB423_422 := znV hg BK422; replace BK422 := zbN BK422 hb; clear hb hbox hg; have hnb6 := NB422_423.out; have hnc6 := NB423_422.out; have hcz7_0 := zC BK422; have hfz7_0 := zF BK422; have hcz8_0 := zC BK423; have hfz8_0 := zF BK423))
    refine bodyPost_ret (results_ct rfl _ _ gb423 38 #[.int .i64 0, .int .i64 0, .int .i64 0] (0, 0) _ rfl (by (with_reducible repeat (first | refine blk_drewN ?_ _ | refine blk_drew ?_ | refine blk_alloc ?_ _)); refine blk_put (cs := #[.int .i64 0, .int .i64 0, .int .i64 0]) ?_ 2 _ rfl; (with_reducible repeat (first | refine blk_drewN ?_ _ | refine blk_drew ?_ | refine blk_alloc ?_ _)); refine blk_put (cs := #[.int .i64 0, .int .i64 0, .int .i64 0]) ?_ 1 _ rfl; (with_reducible repeat (first | refine blk_drewN ?_ _ | refine blk_drew ?_ | refine blk_alloc ?_ _)); refine blk_put (cs := #[.int .i64 0, .int .i64 0, .int .i64 0]) ?_ 0 _ rfl; (with_reducible repeat (first | refine blk_drewN ?_ _ | refine blk_drew ?_ | refine blk_alloc ?_ _)); exact BK423.out) Tryz.underlying38 rfl (by kernel_rfl)) rfl ?_
    exact ⟨zE, zqs⟩
  · rw [if_neg c3] at H
    have c3b0 : decide ((wrap64 (a1 - a0_0)) < 0) = false := decide_eq_false c3
    clear c3
    have H' := Aside0.mk H
    clear H
    go_enter Tryz.func30, Tryz.ntmps30
    go_wp2_with (first | ((with_reducible refine zG 2 rfl ?_); refine zBox 2 #[.int .i64 a0_0, .slice A0_1 l0_1.length c0_1] 24 ?_; intro gb422 hg w9 hbox hb; have BK422 := Aside0.mk (hbox); have GW422 := Aside0.mk ((by rw [hg]; exact (below_size zq) : w.heap.size ≤ gb422)); have GE422 := Aside0.mk ((by rw [hg]; exact (below_size zq) : w.heap.size ≤ gb422)); replace HB := Aside0.mk (below_step zq hb); clear hb hbox hg) | ((with_reducible refine zG 4 rfl ?_); refine zBox 4 #[.int .i64 0, .int .i64 0, .int .i64 0] 38 ?_; intro gb423 hg w10 hbox hb; have BK423 := Aside0.mk (hbox); have GW423 := Aside0.mk ((by rw [hg]; exact (below_size zqs) : w.heap.size ≤ gb423)); have GE423 := Aside0.mk ((by rw [hg]; exact (below_size zqs) : w.heap.size ≤ gb423)); replace HB := Aside0.mk (below_step zqs hb); have NB422_423 := znU hg BK422; have NB423_422 := znV hg BK422; replace BK422 := zbN BK422 hb; clear hb hbox hg; have hnb11 := NB422_423.out; have hnc11 := NB423_422.out; have hcz12_0 := zC BK422; have hfz12_0 := zF BK422))
    go_loopg [6, 7] k (fun kq v6 v7 w' => ∃ (x6_1 : Int) (x7_1 : Int) (x424000_1 : Int) (x424001_1 : Int) (x424002_1 : Int), v6 = .int .i64 x6_1 ∧ v7 = .int .i64 x7_1 ∧ Aside0 (qDate.l0 kq x6_1 x7_1 a0_0 l0_1 = some (r1, r2, r3, r4)) ∧ Aside0 (kq ≤ k) ∧ Aside0 (w'.heap[gb422]? = some (.cells #[.int .i64 a0_0, (.slice A0_1 l0_1.length c0_1)] 24 (0, 0))) ∧ Aside0 (w'.heap[gb423]? = some (.cells #[.int .i64 x424000_1, .int .i64 x424001_1, .int .i64 x424002_1] 38 (0, 0))) ∧ Aside0 (Below w.heap.size w w'))
    case atStart => exact ⟨(wrap64 (a1 - a0_0)), (0), (0), (0), (0), zz, zz, H', ⟨Nat.le_refl _⟩, ⟨zh BK422⟩, ⟨zh BK423⟩, ⟨zqs⟩⟩
    case round =>
      clear H'
      try clear c1
      try clear p2
      try clear c3
      try clear c3b0
      try clear c6
      try clear p6
      try clear c11
      try clear hcz12_0
      try clear hcz7_0
      try clear hcz8_0
      try clear hfz12_0
      try clear hfz7_0
      try clear hfz8_0
      obtain ⟨x6_1, x7_1, x424000_1, x424001_1, x424002_1, rfl, rfl, HA, HK1, BK422, BK423, HB⟩ := hrel
      cases gk with
      | zero => exact absurd HA.out (by simp [qDate.l0])
      | succ k1 =>
        have H := HA.out
        clear HA
        simp only [qDate.l0] at H
        by_cases c13 : x7_1 ≤ 4000
        · rw [if_pos c13] at H
          have c13b0 : decide (x7_1 ≤ 4000) = true := decide_eq_true c13
          clear c13
          replace H := Option.bind_eq_some_iff.mp H
          obtain ⟨t424, A140, H⟩ := H
          replace H : (if x6_1 ≥ t424 then (qDate.l0 k1 (wrap64 (x6_1 - t424)) (wrap64 (x7_1 + 1)) a0_0 l0_1) else (qDate.l1 k1 x6_1 x7_1 1 a0_0 l0_1)) = some (r1, r2, r3, r4) := H
          have A14 := Aside0.mk A140
          clear A140
          by_cases c15 : x6_1 ≥ t424
          · rw [if_pos c15] at H
            have c15b0 : decide (t424 ≤ x6_1) = true := decide_eq_true c15
            clear c15
            have H' := Aside0.mk H
            clear H
            have hnb16 := NB422_423.out
            have hnc16 := NB423_422.out
            have hcz17_0 := zC BK422
            have hfz17_0 := zF BK422
            go_wp2_with (first | ((with_reducible refine gate_callee (f := 54) rfl ?_); refine zGl (some 24) Tryz.func54 #[.agg #[.int .i64 a0_0, .slice A0_1 l0_1.length c0_1], .int .i64 x7_1] ?_; (with_reducible refine (qLong.calls k1 a0_0 _ _ l0_1 x7_1 t424 _ ?side1 ?side2 A14.out).mono ?_); (case side1 => repeat (first | exact (Kd.C_below HR0_1.out HB.out) | (with_reducible refine Kd.C_alloc ?_ _) | (with_reducible refine Kd.C_drewN ?_ _) | (with_reducible refine Kd.C_drew ?_))); (case side2 => exact HC0_1.out); rintro e w18 ⟨rfl, hb⟩; refine ⟨_, rfl, ?_⟩; replace BK422 := zbN BK422 hb; replace BK423 := zbN BK423 hb; replace HB := Aside0.mk (below_step zqs hb); (try clear hb); (try clear hb2); (try clear hk); (try clear hi)))
            go_roundg k1
            case measure => have := HK1.out; omega
            case rel => exact ⟨(wrap64 (x6_1 - t424)), (wrap64 (x7_1 + 1)), (x424000_1), (x424001_1), (x424002_1), zz, zz, H', ⟨by have := HK1.out; omega⟩, ⟨zh BK422⟩, ⟨zh BK423⟩, ⟨zqs⟩⟩
          · rw [if_neg c15] at H
            have c15b0 : decide (t424 ≤ x6_1) = false := decide_eq_false c15
            clear c15
            have H' := Aside0.mk H
            clear H
            have hnb19 := NB422_423.out
            have hnc19 := NB423_422.out
            have hcz20_0 := zC BK422
            have hfz20_0 := zF BK422
            go_wp2_with (first | ((with_reducible refine gate_callee (f := 54) rfl ?_); refine zGl (some 24) Tryz.func54 #[.agg #[.int .i64 a0_0, .slice A0_1 l0_1.length c0_1], .int .i64 x7_1] ?_; (with_reducible refine (qLong.calls k1 a0_0 _ _ l0_1 x7_1 t424 _ ?side1 ?side2 A14.out).mono ?_); (case side1 => repeat (first | exact (Kd.C_below HR0_1.out HB.out) | (with_reducible refine Kd.C_alloc ?_ _) | (with_reducible refine Kd.C_drewN ?_ _) | (with_reducible refine Kd.C_drew ?_))); (case side2 => exact HC0_1.out); rintro e w21 ⟨rfl, hb⟩; refine ⟨_, rfl, ?_⟩; replace BK422 := zbN BK422 hb; replace BK423 := zbN BK423 hb; replace HB := Aside0.mk (below_step zqs hb); (try clear hb); (try clear hb2); (try clear hk); (try clear hi)))
            go_loopg [6, 9] k1 (fun kq v6 v9 w' => ∃ (x6_2 : Int) (x9_2 : Int) (x424000_2 : Int) (x424001_2 : Int) (x424002_2 : Int), v6 = .int .i64 x6_2 ∧ v9 = .int .i64 x9_2 ∧ Aside0 (qDate.l1 kq x6_2 x7_1 x9_2 a0_0 l0_1 = some (r1, r2, r3, r4)) ∧ Aside0 (kq ≤ k1) ∧ Aside0 (w'.heap[gb422]? = some (.cells #[.int .i64 a0_0, (.slice A0_1 l0_1.length c0_1)] 24 (0, 0))) ∧ Aside0 (w'.heap[gb423]? = some (.cells #[.int .i64 x424000_2, .int .i64 x424001_2, .int .i64 x424002_2] 38 (0, 0))) ∧ Aside0 (Below w.heap.size w w'))
            case atStart => exact ⟨(x6_1), (1), (x424000_1), (x424001_1), (x424002_1), zz, zz, H', ⟨Nat.le_refl _⟩, ⟨zh BK422⟩, ⟨zh BK423⟩, ⟨zqs⟩⟩
            case round =>
              clear H'
              try clear c1
              try clear p2
              try clear c3
              try clear c3b0
              try clear c5
              try clear c6
              try clear p6
              try clear c11
              try clear c13
              try clear c13b0
              try clear c15
              try clear c15b0
              try clear c16
              try clear c19
              try clear hcz12_0
              try clear hcz17_0
              try clear hcz20_0
              try clear hcz7_0
              try clear hcz8_0
              try clear hfz12_0
              try clear hfz17_0
              try clear hfz20_0
              try clear hfz7_0
              try clear hfz8_0
              try clear p2
              try clear p6
              obtain ⟨x6_2, x9_2, x424000_2, x424001_2, x424002_2, rfl, rfl, HA, HK2, BK422, BK423, HB⟩ := hrel
              cases gk with
              | zero => exact absurd HA.out (by simp [qDate.l1])
              | succ k2 =>
                have H := HA.out
                clear HA
                simp only [qDate.l1] at H
                by_cases c22 : x9_2 ≤ 12
                · rw [if_pos c22] at H
                  have c22b0 : decide (x9_2 ≤ 12) = true := decide_eq_true c22
                  clear c22
                  replace H := Option.bind_eq_some_iff.mp H
                  obtain ⟨t425, A230, H⟩ := H
                  replace H : ((qLength.f x9_2 t425).bind fun t426 => (if x6_2 < t426 then (some (x7_1, x9_2, wrap64 (x6_2 + 1), true)) else (qDate.l1 k2 (wrap64 (x6_2 - t426)) x7_1 (wrap64 (x9_2 + 1)) a0_0 l0_1))) = some (r1, r2, r3, r4) := H
                  have A23 := Aside0.mk A230
                  clear A230
                  replace H := Option.bind_eq_some_iff.mp H
                  obtain ⟨t426, A240, H⟩ := H
                  replace H : (if x6_2 < t426 then (some (x7_1, x9_2, wrap64 (x6_2 + 1), true)) else (qDate.l1 k2 (wrap64 (x6_2 - t426)) x7_1 (wrap64 (x9_2 + 1)) a0_0 l0_1)) = some (r1, r2, r3, r4) := H
                  have A24 := Aside0.mk A240
                  clear A240
                  by_cases c25 : x6_2 < t426
                  · rw [if_pos c25] at H
                    have c25b0 : decide (x6_2 < t426) = true := decide_eq_true c25
                    clear c25
                    simp only [Option.some.injEq, Prod.mk.injEq] at H
                    obtain ⟨rfl, rfl, rfl, rfl⟩ := H
                    have hnb26 := NB422_423.out
                    have hnc26 := NB423_422.out
                    have hcz27_0 := zC BK422
                    have hfz27_0 := zF BK422
                    go_wp2_with (first | ((with_reducible refine gate_callee (f := 53) rfl ?_); refine zGl (some 38) Tryz.func53 #[.agg #[.int .i64 a0_0, .slice A0_1 l0_1.length c0_1], .int .i64 x7_1] ?_; (with_reducible refine (qLeap.calls k2 a0_0 _ _ l0_1 x7_1 t425 _ ?side1 ?side2 A23.out).mono ?_); (case side1 => repeat (first | exact (Kd.C_below HR0_1.out HB.out) | (with_reducible refine Kd.C_alloc ?_ _) | (with_reducible refine Kd.C_drewN ?_ _) | (with_reducible refine Kd.C_drew ?_))); (case side2 => exact HC0_1.out); rintro e w28 ⟨rfl, hb⟩; refine ⟨_, rfl, ?_⟩; replace BK422 := zbN BK422 hb; replace BK423 := zbN BK423 hb; replace HB := Aside0.mk (below_step zqs hb); (try clear hb); (try clear hb2); (try clear hk); (try clear hi)) | ((with_reducible refine gate_callee (f := 20) rfl ?_); refine zGl (some 39) Tryz.func20 #[.int .i64 x9_2, .bool t425] ?_; (with_reducible refine (qLength.calls x9_2 t425 t426 _ A24.out).mono ?_); rintro e w29 ⟨rfl, hb⟩; refine ⟨_, rfl, ?_⟩; replace BK422 := zbN BK422 hb; replace BK423 := zbN BK423 hb; replace HB := Aside0.mk (below_step zqs hb); (try clear hb); (try clear hb2); (try clear hk); (try clear hi); have hcz30_0 := zC BK423; have hfz30_0 := zF BK423))
                    refine bodyPost_ret (results_ct rfl _ _ gb423 38 #[.int .i64 x7_1, .int .i64 x9_2, .int .i64 (wrap64 (x6_2 + 1))] (0, 0) _ rfl (by (with_reducible repeat (first | refine blk_drewN ?_ _ | refine blk_drew ?_ | refine blk_alloc ?_ _)); refine blk_put (cs := #[.int .i64 x7_1, .int .i64 x9_2, .int .i64 x424002_2]) ?_ 2 _ rfl; (with_reducible repeat (first | refine blk_drewN ?_ _ | refine blk_drew ?_ | refine blk_alloc ?_ _)); refine blk_put (cs := #[.int .i64 x7_1, .int .i64 x424001_2, .int .i64 x424002_2]) ?_ 1 _ rfl; (with_reducible repeat (first | refine blk_drewN ?_ _ | refine blk_drew ?_ | refine blk_alloc ?_ _)); refine blk_put (cs := #[.int .i64 x424000_2, .int .i64 x424001_2, .int .i64 x424002_2]) ?_ 0 _ rfl; (with_reducible repeat (first | refine blk_drewN ?_ _ | refine blk_drew ?_ | refine blk_alloc ?_ _)); exact BK423.out) Tryz.underlying38 rfl (by kernel_rfl)) rfl ?_
                    exact ⟨zE, zqs⟩
                  · rw [if_neg c25] at H
                    have c25b0 : decide (x6_2 < t426) = false := decide_eq_false c25
                    clear c25
                    have H' := Aside0.mk H
                    clear H
                    have hnb31 := NB422_423.out
                    have hnc31 := NB423_422.out
                    have hcz32_0 := zC BK422
                    have hfz32_0 := zF BK422
                    go_wp2_with (first | ((with_reducible refine gate_callee (f := 53) rfl ?_); refine zGl (some 38) Tryz.func53 #[.agg #[.int .i64 a0_0, .slice A0_1 l0_1.length c0_1], .int .i64 x7_1] ?_; (with_reducible refine (qLeap.calls k2 a0_0 _ _ l0_1 x7_1 t425 _ ?side1 ?side2 A23.out).mono ?_); (case side1 => repeat (first | exact (Kd.C_below HR0_1.out HB.out) | (with_reducible refine Kd.C_alloc ?_ _) | (with_reducible refine Kd.C_drewN ?_ _) | (with_reducible refine Kd.C_drew ?_))); (case side2 => exact HC0_1.out); rintro e w33 ⟨rfl, hb⟩; refine ⟨_, rfl, ?_⟩; replace BK422 := zbN BK422 hb; replace BK423 := zbN BK423 hb; replace HB := Aside0.mk (below_step zqs hb); (try clear hb); (try clear hb2); (try clear hk); (try clear hi)) | ((with_reducible refine gate_callee (f := 20) rfl ?_); refine zGl (some 39) Tryz.func20 #[.int .i64 x9_2, .bool t425] ?_; (with_reducible refine (qLength.calls x9_2 t425 t426 _ A24.out).mono ?_); rintro e w34 ⟨rfl, hb⟩; refine ⟨_, rfl, ?_⟩; replace BK422 := zbN BK422 hb; replace BK423 := zbN BK423 hb; replace HB := Aside0.mk (below_step zqs hb); (try clear hb); (try clear hb2); (try clear hk); (try clear hi)))
                    go_roundg k2
                    case measure => have := HK1.out; have := HK2.out; omega
                    case rel => exact ⟨(wrap64 (x6_2 - t426)), (wrap64 (x9_2 + 1)), (x424000_2), (x424001_2), (x424002_2), zz, zz, H', ⟨by have := HK1.out; have := HK2.out; omega⟩, ⟨zh BK422⟩, ⟨zh BK423⟩, ⟨zqs⟩⟩
                · rw [if_neg c22] at H
                  have c22b0 : decide (x9_2 ≤ 12) = false := decide_eq_false c22
                  clear c22
                  have H' := Aside0.mk H
                  clear H
                  go_wp2
                  go_roundg k2
                  case measure => have := HK1.out; have := HK2.out; omega
                  case rel => exact ⟨(x6_2), (wrap64 (x7_1 + 1)), (x424000_2), (x424001_2), (x424002_2), zz, zz, H', ⟨by have := HK1.out; have := HK2.out; omega⟩, ⟨zh BK422⟩, ⟨zh BK423⟩, ⟨zqs⟩⟩
        · rw [if_neg c13] at H
          have c13b0 : decide (x7_1 ≤ 4000) = false := decide_eq_false c13
          clear c13
          simp only [Option.some.injEq, Prod.mk.injEq] at H
          obtain ⟨rfl, rfl, rfl, rfl⟩ := H
          have hnb35 := NB423_422.out
          have hnc35 := NB422_423.out
          have hcz36_0 := zC BK423
          have hfz36_0 := zF BK423
          go_wp2
          refine bodyPost_ret (results_ct rfl _ _ gb423 38 #[.int .i64 0, .int .i64 0, .int .i64 0] (0, 0) _ rfl (by (with_reducible repeat (first | refine blk_drewN ?_ _ | refine blk_drew ?_ | refine blk_alloc ?_ _)); refine blk_put (cs := #[.int .i64 0, .int .i64 0, .int .i64 x424002_1]) ?_ 2 _ rfl; (with_reducible repeat (first | refine blk_drewN ?_ _ | refine blk_drew ?_ | refine blk_alloc ?_ _)); refine blk_put (cs := #[.int .i64 0, .int .i64 x424001_1, .int .i64 x424002_1]) ?_ 1 _ rfl; (with_reducible repeat (first | refine blk_drewN ?_ _ | refine blk_drew ?_ | refine blk_alloc ?_ _)); refine blk_put (cs := #[.int .i64 x424000_1, .int .i64 x424001_1, .int .i64 x424002_1]) ?_ 0 _ rfl; (with_reducible repeat (first | refine blk_drewN ?_ _ | refine blk_drew ?_ | refine blk_alloc ?_ _)); exact BK423.out) Tryz.underlying38 rfl (by kernel_rfl)) rfl ?_
          exact ⟨zE, zqs⟩
end Go.Proofs.YtnllidgonghckaaGreatDoor.X
namespace Go.Proofs.YtnllidgonghckaaGreatDoor.X
open Go.RowKit Go.Proofs.YtnllidgonghckaaGreatDoorW.PrintWords Go.Proofs.YtnllidgonghckaaGreatDoorW.PrintLast Go.Proofs.YtnllidgonghckaaGreatDoorW.PrintMore Go.Proofs.YtnllidgonghckaaGreatDoor.Dm
set_option linter.unusedVariables false
set_option linter.unusedSimpArgs false
attribute [local go_sem] max2_int min2_int max_two min_two max_three min_three max_four min_four
def dial_Day.f (ep : Int) (cs : List Int) (y mo d : Int) : Option (Int × Int) := some (if (calB ep cs && dateB cs y mo d) = true then (dayOf ep cs y mo d, 0) else (0, 2))
set_option maxHeartbeats 8000000 in
set_option maxRecDepth 100000 in
theorem Day_0 (ep : Int) (A : Option Addr) (c : Nat) (cs : List Int) (y mo d : Int) (w : World) (hr : Kd.C (Kd.int .i64) w A cs.length cs) (hc : cs.length ≤ c) (hcal : calB ep cs = false) :
    Calls Tryz.prog 19 #[.agg #[.int .i64 ep, .slice A cs.length c], .agg #[.int .i64 y, .int .i64 mo, .int .i64 d]] w fun e w' => e = .returned (.tuple #[.int .i64 0, .int .i64 2]) ∧ Below w.heap.size w w' := by
  have hu24 := Tryz.underlying24
  have hu38 := Tryz.underlying38
  have hu83 := Tryz.underlying83
  have HB := Aside0.mk (Below.refl w.heap.size w)
  have HR := Aside0.mk hr
  have HC := Aside0.mk hc
  have HCAL := Aside0.mk hcal
  clear hr hc hcal
  go_enter Tryz.func19, Tryz.ntmps19
  go_wp2_with (first
    | ((with_reducible refine zG 2 rfl ?_); refine zBox 2 #[.int .i64 ep, .slice A cs.length c] 24 ?_; intro g1 hg w1 hbox hb; have GEg1 := zge hg HB; replace HB := zW HB hb; have BKg1 := Aside0.mk hbox; clear hb hbox hg)
    | ((with_reducible refine zG 3 rfl ?_); refine zBox 3 #[.int .i64 y, .int .i64 mo, .int .i64 d] 38 ?_; intro g2 hg w2 hbox hb; have GEg2 := zge hg HB; replace HB := zW HB hb; replace BKg1 := zb BKg1 hb; have BKg2 := Aside0.mk hbox; clear hb hbox hg; have za0 := zC BKg1)
    | (go_at_call 46; (with_reducible refine (isCal_l ep A c cs false HCAL.out w _ HR.out HC.out HB.out).mono ?_); rintro e w3 ⟨rfl, hb⟩; replace HB := zW HB hb; replace BKg1 := zb BKg1 hb; replace BKg2 := zb BKg2 hb; clear hb))
  go_ret2
  exact ⟨rfl, HB.out⟩
theorem dial_Day.calls (ep : Int) (A : Option Addr) (c : Nat) (cs : List Int) (y mo d : Int) (r1 r2 : Int) (w : World) (hr : Kd.C (Kd.int .i64) w A cs.length cs) (hc : cs.length ≤ c) (h : dial_Day.f ep cs y mo d = some (r1, r2)) :
    Calls Tryz.prog 19 #[.agg #[.int .i64 ep, .slice A cs.length c], .agg #[.int .i64 y, .int .i64 mo, .int .i64 d]] w fun e w' => e = .returned (.tuple #[.int .i64 r1, .int .i64 r2]) ∧ Below w.heap.size w w' := by
  unfold dial_Day.f at h
  have h := Option.some.inj h
  cases hcal : calB ep cs with
  | false => rw [hcal] at h; simp only [Bool.false_and, Bool.false_eq_true, if_false, Prod.mk.injEq] at h; obtain ⟨rfl, rfl⟩ := h; exact Day_0 ep A c cs y mo d w hr hc hcal
  | true =>
    cases hd : dateB cs y mo d with
    | false => rw [hcal, hd] at h; simp only [Bool.and_false, Bool.false_eq_true, if_false, Prod.mk.injEq] at h; obtain ⟨rfl, rfl⟩ := h; exact Day_1 ep A c cs y mo d w hr hc hcal hd
    | true => rw [hcal, hd] at h; simp only [Bool.and_self, if_true, Prod.mk.injEq] at h; obtain ⟨rfl, rfl⟩ := h; exact Day_2 ep A c cs y mo d w hr hc hcal hd
end Go.Proofs.YtnllidgonghckaaGreatDoor.X
namespace Go.Proofs.YtnllidgonghckaaGreatDoor.X
open Go.RowKit Go.Proofs.YtnllidgonghckaaGreatDoorW.PrintWords Go.Proofs.YtnllidgonghckaaGreatDoor.Dm
set_option linter.unusedVariables false
theorem goesP_ {P : Program} {ops : Array Oper} {Q : Exit → Act → World → Prop} {oi : Oper} {N : Option Tmp} {a : Act} {w : World} {K : Act → World → Prop} {f : FuncId} {fn : Func} {as_ : Array Operand} {ts : Array TypeId} (hf : P.funcs[f]? = some fn) (hname : (fn.name == "runtime.NumGoroutine") = false) (hb : fn.body.isSome = true) (args : Array Value)
    (hw : Region.wanted oi (yielded ops a.tmps) = true) (hN : oi.dst = N) (hop : oi.op = .call { callee := .value (.func f), args := as_, argTypes := ts }) (hargs : as_.map a.eval = args)
    (h : Calls P f args w fun e w' => ∃ ch, e = .panicked ch ∧ Q (.panic ch) a w') : if Region.wanted oi (yielded ops a.tmps) = true then Oper.wp P oi a w K Q else K (a.put N undef) w := by
  have hrun : (execOp a.eval oi).run P w = .ok (.enter f args) w := by
    have he := Go.Proofs.YtnllidgonghckaaGreatDoorW.PrintLast.enters_ hf hname hb args w
    unfold execOp
    simp [hop, resolve, Deferred.ofValue, invoke, Act.eval, hargs, he]
  rw [if_pos hw]
  unfold Oper.wp
  rw [hrun, Oper.upon_enter]
  refine h.mono fun e w'' hh => ?_
  obtain ⟨ch, rfl, hq⟩ := hh
  exact hq
end Go.Proofs.YtnllidgonghckaaGreatDoor.X
namespace Go.Proofs.YtnllidgonghckaaGreatDoor.X
open Go.RowKit Go.Proofs.YtnllidgonghckaaGreatDoorW.PrintWords Go.Proofs.YtnllidgonghckaaGreatDoorW.PrintLast Go.Proofs.YtnllidgonghckaaGreatDoorW.PrintMore Go.Proofs.YtnllidgonghckaaGreatDoor.Dm
set_option linter.unusedVariables false
set_option linter.unusedSimpArgs false
attribute [local go_sem] max2_int min2_int max_two min_two max_three min_three max_four min_four
def Date10.T : Bool × List (List Nat × List Nat) := (true, [([], []), ([], []), ([0, 1], [0, 1]), ([], []), ([2, 3, 2], [2, 3]), ([4, 4, 0, 1, 2, 3, 4], [4])])
def Date10.B : List Nat := [0, 0, 3, 0, 15, 31]
theorem Date10.tab : rtab .any (opsOf Tryz.f63 0) = Date10.T := by kernel_rfl
theorem Date10.bits : waitsOk Date10.T.2 Date10.B = true := by kernel_rfl
set_option maxHeartbeats 8000000 in
set_option maxRecDepth 100000 in
theorem date1_ok (ep : Int) (A : Option Addr) (c : Nat) (cs : List Int) (day : Int) (g1 gd go : Nat) (w0 W : World) (hB : Below w0.heap.size w0 W) (hr : Kd.C (Kd.int .i64) w0 A cs.length cs) (hc : cs.length ≤ c) (hcal : calB ep cs = true) (h1 : W.heap[g1]? = some (.cells #[.int .i64 ep, .slice A cs.length c] 24 (0, 0))) (hd1 : W.heap[gd]? = some (.cells #[.int .i64 day] 3 (0, 0))) (ho1 : W.heap[go]? = some (.cells #[.int .i64 0, .int .i64 0, .int .i64 0] 38 (0, 0))) (hgo : w0.heap.size ≤ go) (y mo d : Int) (hdt : dateOf ep cs day = some (y, mo, d)) :
    Calls Tryz.prog 63 #[.pointer (some ⟨g1, 0, none⟩), .pointer (some ⟨gd, 0, none⟩), .pointer (some ⟨go, 0, none⟩)] W fun e w' => e = .returned (.tuple #[]) ∧ w'.heap[go]? = some (.cells #[.int .i64 y, .int .i64 mo, .int .i64 d] 38 (0, 0)) ∧ ((∀ k, k < W.heap.size → k ≠ go → w'.heap[k]? = W.heap[k]?) ∧ W.heap.size ≤ w'.heap.size) ∧ Below w0.heap.size w0 w' := by
  have hu24 := Tryz.underlying24
  have hu38 := Tryz.underlying38
  have hu45 := Tryz.underlying45
  have hu83 := Tryz.underlying83
  obtain ⟨F, hF⟩ : ∃ F, firsts ep cs = F := ⟨_, rfl⟩
  have HFF := Aside0.mk hF
  have HB := Aside0.mk hB
  have HW := Aside0.mk (Below.refl W.heap.size W)
  have HR := Aside0.mk hr
  have HC := Aside0.mk hc
  have HCAL := Aside0.mk hcal
  have HDT := Aside0.mk hdt
  have HGO := Aside0.mk hgo
  have BKg1 := Aside0.mk h1
  have BKgd := Aside0.mk hd1
  have BKgo := Aside0.mk ho1
  clear hF hB hr hc hcal hdt hgo h1 hd1 ho1
  go_enter Tryz.func63, Tryz.ntmps63
  replace HB := zWD HB
  replace HW := zWD HW
  replace BKg1 := zbD BKg1
  replace BKgd := zbD BKgd
  replace BKgo := zbD BKgo
  refine zStart 6 (fun w' => zCells w' g1 0 [.int .i64 ep, .slice A cs.length c] ∧ w'.cell? ⟨gd, 0, none⟩ = some (.int .i64 day)) #[false, false, false, false, false, false] Date10.tab Date10.bits ⟨zS BKg1, zx BKgd 0⟩ (fun hHeld HT_ HW_ => ?_)
  generalize W.drew = wd at HB HW BKg1 BKgd BKgo hHeld ⊢
  refine zP 1 (some 4) HT_ ?_
  refine zT 0 (some 3) HT_ HW_ hHeld ?_
  refine zT 3 (some 6) HT_ HW_ hHeld ?_
  refine zGo 2 (some 5) HT_ Tryz.func48 #[.agg #[.int .i64 ep, .slice A cs.length c], .agg #[.int .i64 0, .int .i64 0, .int .i64 0]] ?_
  with_reducible refine (open_opd ep A c cs 0 0 0 w0 _ HR.out HC.out HCAL.out HB.out F HFF.out).mono ?_
  rintro e wd_1 ⟨a5, c5, mb, rfl, ho, hb⟩
  replace HB := zW HB hb
  replace HW := zW HW hb
  replace BKg1 := zb BKg1 hb
  replace BKgd := zb BKgd hb
  replace BKgo := zb BKgo hb
  have OP := Aside0.mk ho
  clear ho
  clear hb hHeld
  refine zV ⟨zS BKg1, zx BKgd 0⟩ (fun hHeld => ?_)
  refine zGo 4 (some 7) HT_ Tryz.func64 #[.agg #[.int .i64 ep, .slice A cs.length c, .int .i64 0, .int .i64 0, .int .i64 0, .slice (some a5) F.length c5, .map (some mb)], .int .i64 day] ?_
  with_reducible refine (date_b 0 0 0 OP.out day y mo d HDT.out).mono ?_
  rintro e wd_2 ⟨rfl, hb⟩
  replace HB := zW HB hb
  replace HW := zW HW hb
  replace BKg1 := zb BKg1 hb
  replace BKgd := zb BKgd hb
  replace BKgo := zb BKgo hb
  replace OP := zo OP hb
  clear hb hHeld
  refine zV ⟨zS BKg1, zx BKgd 0⟩ (fun hHeld => ?_)
  refine one_ (i := 5) (N := none) #[true, true, true, true, true, true] rfl rfl (one_of HT_.out (by kernel_rfl)) (by decide) (fun K hK => ?_)
  refine store_row_step (by rfl) rfl 38 _ _ rfl #[.int .i64 y, .int .i64 mo, .int .i64 d] BKgo.out (by rfl) (by rfl) (by kernel_rfl) rfl (by simp [Value.oneCell']) ?_
  intro w' hw
  have n0_go := Aside0.mk (show w'.heap[go]? = some (.cells #[.int .i64 y, .int .i64 mo, .int .i64 d] 38 (0, 0)) by rw [hw]; exact row_new BKgo.out _)
  have n0_HB := Aside0.mk (show Below w0.heap.size w0 w' by rw [hw]; exact below_setRow HB.out HGO.out _)
  have n0_K := Aside0.mk (show (∀ k, k < W.heap.size → k ≠ go → w'.heap[k]? = W.heap[k]?) ∧ W.heap.size ≤ w'.heap.size by rw [hw]; exact ⟨fun k hk hne => (setRow_other _ go k _ hne).trans (HW.out.block k hk), by rw [size_setRow]; exact HW.out.size⟩)
  have n0_g1 := Aside0.mk (show w'.heap[g1]? = some (.cells #[.int .i64 ep, .slice A cs.length c] 24 (0, 0)) by rw [hw]; exact row_far _ (blk_ne BKg1.out BKgo.out (by decide)) BKg1.out)
  have n0_gd := Aside0.mk (show w'.heap[gd]? = some (.cells #[.int .i64 day] 3 (0, 0)) by rw [hw]; exact row_far _ (blk_ne BKgd.out BKgo.out (by decide)) BKgd.out)
  clear hw hHeld BKgo HB HW BKg1 BKgd OP
  have BKgo := n0_go
  have HB := n0_HB
  have HK_ := n0_K
  have BKg1 := n0_g1
  have BKgd := n0_gd
  clear n0_go n0_HB n0_K n0_g1 n0_gd
  refine hK.out _ _ ⟨zS BKg1, zx BKgd 0⟩ (fun hHeld => ?_)
  clear hK K
  refine done_ (done_of HT_.out (by kernel_rfl)) ?_
  try go_wp2
  go_end0
  exact ⟨rfl, BKgo.out, HK_.out, HB.out⟩
set_option maxHeartbeats 8000000 in
set_option maxRecDepth 100000 in
theorem date1_away (ep : Int) (A : Option Addr) (c : Nat) (cs : List Int) (day : Int) (g1 gd go : Nat) (w0 W : World) (hB : Below w0.heap.size w0 W) (hr : Kd.C (Kd.int .i64) w0 A cs.length cs) (hc : cs.length ≤ c) (hcal : calB ep cs = true) (h1 : W.heap[g1]? = some (.cells #[.int .i64 ep, .slice A cs.length c] 24 (0, 0))) (hd1 : W.heap[gd]? = some (.cells #[.int .i64 day] 3 (0, 0))) (ho1 : W.heap[go]? = some (.cells #[.int .i64 0, .int .i64 0, .int .i64 0] 38 (0, 0))) (hgo : w0.heap.size ≤ go) (hdt : dateOf ep cs day = none) :
    Calls Tryz.prog 63 #[.pointer (some ⟨g1, 0, none⟩), .pointer (some ⟨gd, 0, none⟩), .pointer (some ⟨go, 0, none⟩)] W fun e w' => e = .panicked [{ v := .iface 121 (.agg #[.int .i64 day]), recovered := false }] ∧ Below W.heap.size W w' ∧ Below w0.heap.size w0 w' := by
  have hu24 := Tryz.underlying24
  have hu38 := Tryz.underlying38
  have hu45 := Tryz.underlying45
  have hu83 := Tryz.underlying83
  obtain ⟨F, hF⟩ : ∃ F, firsts ep cs = F := ⟨_, rfl⟩
  have HFF := Aside0.mk hF
  have HB := Aside0.mk hB
  have HW := Aside0.mk (Below.refl W.heap.size W)
  have HR := Aside0.mk hr
  have HC := Aside0.mk hc
  have HCAL := Aside0.mk hcal
  have HDT := Aside0.mk hdt
  have HGO := Aside0.mk hgo
  have BKg1 := Aside0.mk h1
  have BKgd := Aside0.mk hd1
  have BKgo := Aside0.mk ho1
  clear hF hB hr hc hcal hdt hgo h1 hd1 ho1
  go_enter Tryz.func63, Tryz.ntmps63
  replace HB := zWD HB
  replace HW := zWD HW
  replace BKg1 := zbD BKg1
  replace BKgd := zbD BKgd
  replace BKgo := zbD BKgo
  refine zStart 6 (fun w' => zCells w' g1 0 [.int .i64 ep, .slice A cs.length c] ∧ w'.cell? ⟨gd, 0, none⟩ = some (.int .i64 day)) #[false, false, false, false, false, false] Date10.tab Date10.bits ⟨zS BKg1, zx BKgd 0⟩ (fun hHeld HT_ HW_ => ?_)
  generalize W.drew = wd at HB HW BKg1 BKgd BKgo hHeld ⊢
  refine zP 1 (some 4) HT_ ?_
  refine zT 0 (some 3) HT_ HW_ hHeld ?_
  refine zT 3 (some 6) HT_ HW_ hHeld ?_
  refine zGo 2 (some 5) HT_ Tryz.func48 #[.agg #[.int .i64 ep, .slice A cs.length c], .agg #[.int .i64 0, .int .i64 0, .int .i64 0]] ?_
  with_reducible refine (open_opd ep A c cs 0 0 0 w0 _ HR.out HC.out HCAL.out HB.out F HFF.out).mono ?_
  rintro e wd_1 ⟨a5, c5, mb, rfl, ho, hb⟩
  replace HB := zW HB hb
  replace HW := zW HW hb
  replace BKg1 := zb BKg1 hb
  replace BKgd := zb BKgd hb
  replace BKgo := zb BKgo hb
  have OP := Aside0.mk ho
  clear ho
  clear hb hHeld
  refine zV ⟨zS BKg1, zx BKgd 0⟩ (fun hHeld => ?_)
  refine one_ (i := 4) (N := some 7) #[true, true, true, true, true, false] rfl rfl (one_of HT_.out (by kernel_rfl)) (by decide) (fun K hK => ?_)
  refine goesP_ Tryz.func64 (by kernel_rfl) rfl #[.agg #[.int .i64 ep, .slice A cs.length c, .int .i64 0, .int .i64 0, .int .i64 0, .slice (some a5) F.length c5, .map (some mb)], .int .i64 day] (by rfl) rfl rfl (by (try simp only [List.map_toArray, List.map_cons, List.map_nil]); first | done | rfl) ?_
  refine (date_n 0 0 0 OP.out day HDT.out).mono ?_
  rintro e wz ⟨rfl, hb⟩
  refine ⟨_, rfl, ?_⟩
  exact ⟨rfl, rfl, below_thenN HW.out hb, below_thenN HB.out hb⟩
set_option maxHeartbeats 8000000 in
set_option maxRecDepth 100000 in
theorem Date_bad0 (ep : Int) (A : Option Addr) (c : Nat) (cs : List Int) (day : Int) (w : World) (hr : Kd.C (Kd.int .i64) w A cs.length cs) (hc : cs.length ≤ c) (hcal : calB ep cs = false) :
    Calls Tryz.prog 26 #[.agg #[.int .i64 ep, .slice A cs.length c], .int .i64 day] w fun e w' => e = .returned (.tuple #[.agg #[.int .i64 0, .int .i64 0, .int .i64 0], .int .i64 2]) ∧ Below w.heap.size w w' := by
  have hu24 := Tryz.underlying24
  have hu38 := Tryz.underlying38
  have hmf : ∀ (fn : Fn) (first cap : Array Value) (w : World), (Instr.makeFunc fn first cap).run Tryz.prog w = .ok (.func fn first cap) w := fun _ _ _ _ => rfl
  have HB := Aside0.mk (Below.refl w.heap.size w)
  have HR := Aside0.mk hr
  have HC := Aside0.mk hc
  clear hr hc
  have HCAL := Aside0.mk hcal
  clear hcal
  go_enter Tryz.func26, Tryz.ntmps26
  go_wp2_with (first
    | ((with_reducible refine zG 2 rfl ?_); refine zBox 2 #[.int .i64 ep, .slice A cs.length c] 24 ?_; intro g1 hg w1 hbox hb; have GEg1 := zge hg HB; replace HB := zW HB hb; have BKg1 := Aside0.mk hbox; clear hb hbox hg)
    | ((with_reducible refine zG 3 rfl ?_); refine zBox 3 #[.int .i64 day] 3 ?_; intro gd hg w2 hbox hb; have GEgd := zge hg HB; have NEg1_gd := zne hg BKg1; replace HB := zW HB hb; replace BKg1 := zb BKg1 hb; have BKgd := Aside0.mk hbox; clear hb hbox hg)
    | ((with_reducible refine zG 4 rfl ?_); refine zBox 4 #[.int .i64 0, .int .i64 0, .int .i64 0] 38 ?_; intro gr hg w3 hbox hb; have GEgr := zge hg HB; have NEg1_gr := zne hg BKg1; have NEgd_gr := zne hg BKgd; replace HB := zW HB hb; replace BKg1 := zb BKg1 hb; replace BKgd := zb BKgd hb; have BKgr := Aside0.mk hbox; clear hb hbox hg; have za0 := zC BKg1)
    | (go_at_call 46; (with_reducible refine (isCal_l ep A c cs false HCAL.out w _ HR.out HC.out HB.out).mono ?_); rintro e w4 ⟨rfl, hb⟩; replace HB := zW HB hb; replace BKg1 := zb BKg1 hb; replace BKgd := zb BKgd hb; replace BKgr := zb BKgr hb; clear hb; have zr0 := zC BKgr; have zf0 := zF BKgr)
    | ((with_reducible refine zH 38 4 rfl ?_); refine zSto 38 4 #[.int .i64 0, .int .i64 0, .int .i64 0] BKgr ?_; intro w9 hw; replace HB := Aside0.mk (show Below w.heap.size w w9 by rw [hw]; exact below_setRow HB.out GEgr.out _); replace BKgr := znew hw BKgr; clear hw))
  refine bodyPost_ret (results_ct rfl _ _ gr 38 #[.int .i64 0, .int .i64 0, .int .i64 0] (0, 0) _ rfl BKgr.out Tryz.underlying38 rfl (by kernel_rfl)) rfl ?_
  exact ⟨rfl, HB.out⟩
set_option maxHeartbeats 8000000 in
set_option maxRecDepth 100000 in
theorem Date_bad1 (ep : Int) (A : Option Addr) (c : Nat) (cs : List Int) (day : Int) (w : World) (hr : Kd.C (Kd.int .i64) w A cs.length cs) (hc : cs.length ≤ c) (hcal : calB ep cs = true) (hdy : dayB day = false) :
    Calls Tryz.prog 26 #[.agg #[.int .i64 ep, .slice A cs.length c], .int .i64 day] w fun e w' => e = .returned (.tuple #[.agg #[.int .i64 0, .int .i64 0, .int .i64 0], .int .i64 2]) ∧ Below w.heap.size w w' := by
  have hu24 := Tryz.underlying24
  have hu38 := Tryz.underlying38
  have hmf : ∀ (fn : Fn) (first cap : Array Value) (w : World), (Instr.makeFunc fn first cap).run Tryz.prog w = .ok (.func fn first cap) w := fun _ _ _ _ => rfl
  have HB := Aside0.mk (Below.refl w.heap.size w)
  have HR := Aside0.mk hr
  have HC := Aside0.mk hc
  clear hr hc
  have HCAL := Aside0.mk hcal
  clear hcal
  have HDY := Aside0.mk hdy
  clear hdy
  go_enter Tryz.func26, Tryz.ntmps26
  go_wp2_with (first
    | ((with_reducible refine zG 2 rfl ?_); refine zBox 2 #[.int .i64 ep, .slice A cs.length c] 24 ?_; intro g1 hg w1 hbox hb; have GEg1 := zge hg HB; replace HB := zW HB hb; have BKg1 := Aside0.mk hbox; clear hb hbox hg)
    | ((with_reducible refine zG 3 rfl ?_); refine zBox 3 #[.int .i64 day] 3 ?_; intro gd hg w2 hbox hb; have GEgd := zge hg HB; have NEg1_gd := zne hg BKg1; replace HB := zW HB hb; replace BKg1 := zb BKg1 hb; have BKgd := Aside0.mk hbox; clear hb hbox hg)
    | ((with_reducible refine zG 4 rfl ?_); refine zBox 4 #[.int .i64 0, .int .i64 0, .int .i64 0] 38 ?_; intro gr hg w3 hbox hb; have GEgr := zge hg HB; have NEg1_gr := zne hg BKg1; have NEgd_gr := zne hg BKgd; replace HB := zW HB hb; replace BKg1 := zb BKg1 hb; replace BKgd := zb BKgd hb; have BKgr := Aside0.mk hbox; clear hb hbox hg; have za0 := zC BKg1)
    | (go_at_call 46; (with_reducible refine (isCal_l ep A c cs true HCAL.out w _ HR.out HC.out HB.out).mono ?_); rintro e w4 ⟨rfl, hb⟩; replace HB := zW HB hb; replace BKg1 := zb BKg1 hb; replace BKgd := zb BKgd hb; replace BKgr := zb BKgr hb; clear hb; have zd0 : w4.cell? ⟨gd, 0, none⟩ = some (.int .i64 day) := zx BKgd 0)
    | (go_at_call 59; (with_reducible refine (isDay_l day false HDY.out _).mono ?_); rintro e w5 ⟨rfl, hb⟩; replace HB := zW HB hb; replace BKg1 := zb BKg1 hb; replace BKgd := zb BKgd hb; replace BKgr := zb BKgr hb; clear hb; have zr0 := zC BKgr; have zf0 := zF BKgr)
    | ((with_reducible refine zH 38 4 rfl ?_); refine zSto 38 4 #[.int .i64 0, .int .i64 0, .int .i64 0] BKgr ?_; intro w9 hw; replace HB := Aside0.mk (show Below w.heap.size w w9 by rw [hw]; exact below_setRow HB.out GEgr.out _); replace BKgr := znew hw BKgr; clear hw))
  refine bodyPost_ret (results_ct rfl _ _ gr 38 #[.int .i64 0, .int .i64 0, .int .i64 0] (0, 0) _ rfl BKgr.out Tryz.underlying38 rfl (by kernel_rfl)) rfl ?_
  exact ⟨rfl, HB.out⟩
theorem date_try_ok (ep : Int) (A : Option Addr) (c : Nat) (cs : List Int) (day y mo d : Int) (w W : World) (g1 gd gr go : Nat) (hr : Kd.C (Kd.int .i64) w A cs.length cs) (hc : cs.length ≤ c) (hcal : calB ep cs = true) (hdt : dateOf ep cs day = some (y, mo, d)) (hB : Below w.heap.size w W)
    (h1 : W.heap[g1]? = some (.cells #[.int .i64 ep, .slice A cs.length c] 24 (0, 0))) (h2 : W.heap[gd]? = some (.cells #[.int .i64 day] 3 (0, 0))) (h3 : W.heap[gr]? = some (.cells #[.int .i64 0, .int .i64 0, .int .i64 0] 38 (0, 0))) (h4 : W.heap[go]? = some (.cells #[.int .i64 0, .int .i64 0, .int .i64 0] 38 (0, 0))) (hne : gr ≠ go) (hgo : w.heap.size ≤ go) :
    Calls Tryz.prog 62 #[.func (.func 63) #[] #[.pointer (some ⟨g1, 0, none⟩), .pointer (some ⟨gd, 0, none⟩), .pointer (some ⟨go, 0, none⟩)]] W fun e w' => e = .returned (.int .i64 0) ∧ w'.heap[go]? = some (.cells #[.int .i64 y, .int .i64 mo, .int .i64 d] 38 (0, 0)) ∧ w'.heap[gr]? = some (.cells #[.int .i64 0, .int .i64 0, .int .i64 0] 38 (0, 0)) ∧ Below w.heap.size w w' := by
  refine (try_calls 63 _ Tryz.func63 (by kernel_rfl) rfl _ W (fun r w2 => r = 0 ∧ w2.heap[go]? = some (.cells #[.int .i64 y, .int .i64 mo, .int .i64 d] 38 (0, 0)) ∧ w2.heap[gr]? = some (.cells #[.int .i64 0, .int .i64 0, .int .i64 0] 38 (0, 0)) ∧ Below w.heap.size w w2) ?_ ?_).mono ?_
  · rintro r w2 w3 ⟨e1, e2, e3, e4⟩ hs hk hsz ho ht hou
    have b := hB.size
    exact ⟨e1, (hk _ (blk_lt e2) (Nat.ne_of_lt (blk_lt h4))).trans e2, (hk _ (blk_lt e3) (Nat.ne_of_lt (blk_lt h3))).trans e3, ⟨ho.trans e4.os, ht.trans e4.tape, hou.trans e4.output, Nat.le_trans e4.size hsz, fun k hk' => (hk k (by omega) (by omega)).trans (e4.block k hk')⟩⟩
  · intro w1 hw1 hb
    refine (date1_ok ep A c cs day g1 gd go w w1 (below_thenN hB hb) hr hc hcal (blk_below h1 hb) (blk_below h2 hb) (blk_below h4 hb) hgo y mo d hdt).mono ?_
    rintro e w2 ⟨rfl, q1, ⟨q2, q3⟩, q4⟩
    have l4 := blk_lt h4
    exact ⟨(q2 _ (blk_lt hw1) (by omega)).trans hw1, .inl ⟨rfl, rfl, q1, (q2 _ (blk_lt (blk_below h3 hb)) hne).trans (blk_below h3 hb), q4⟩⟩
  · rintro e w' ⟨r, rfl, rfl, q⟩
    exact ⟨rfl, q⟩
theorem date_try_none (ep : Int) (A : Option Addr) (c : Nat) (cs : List Int) (day : Int) (w W : World) (g1 gd gr go : Nat) (hr : Kd.C (Kd.int .i64) w A cs.length cs) (hc : cs.length ≤ c) (hcal : calB ep cs = true) (hdt : dateOf ep cs day = none) (hB : Below w.heap.size w W)
    (h1 : W.heap[g1]? = some (.cells #[.int .i64 ep, .slice A cs.length c] 24 (0, 0))) (h2 : W.heap[gd]? = some (.cells #[.int .i64 day] 3 (0, 0))) (h3 : W.heap[gr]? = some (.cells #[.int .i64 0, .int .i64 0, .int .i64 0] 38 (0, 0))) (h4 : W.heap[go]? = some (.cells #[.int .i64 0, .int .i64 0, .int .i64 0] 38 (0, 0))) (hgo : w.heap.size ≤ go) :
    Calls Tryz.prog 62 #[.func (.func 63) #[] #[.pointer (some ⟨g1, 0, none⟩), .pointer (some ⟨gd, 0, none⟩), .pointer (some ⟨go, 0, none⟩)]] W fun e w' => e = .returned (.int .i64 5) ∧ w'.heap[gr]? = some (.cells #[.int .i64 0, .int .i64 0, .int .i64 0] 38 (0, 0)) ∧ Below w.heap.size w w' := by
  refine (try_calls 63 _ Tryz.func63 (by kernel_rfl) rfl _ W (fun r w2 => r = 5 ∧ w2.heap[gr]? = some (.cells #[.int .i64 0, .int .i64 0, .int .i64 0] 38 (0, 0)) ∧ Below w.heap.size w w2) ?_ ?_).mono ?_
  · rintro r w2 w3 ⟨e1, e3, e4⟩ hs hk hsz ho ht hou
    have b := hB.size
    exact ⟨e1, (hk _ (blk_lt e3) (Nat.ne_of_lt (blk_lt h3))).trans e3, ⟨ho.trans e4.os, ht.trans e4.tape, hou.trans e4.output, Nat.le_trans e4.size hsz, fun k hk' => (hk k (by omega) (by omega)).trans (e4.block k hk')⟩⟩
  · intro w1 hw1 hb
    refine (date1_away ep A c cs day g1 gd go w w1 (below_thenN hB hb) hr hc hcal (blk_below h1 hb) (blk_below h2 hb) (blk_below h4 hb) hgo hdt).mono ?_
    rintro e w2 ⟨rfl, q1, q4⟩
    exact ⟨blk_below hw1 q1, .inr ⟨day, rfl, rfl, blk_below (blk_below h3 hb) q1, q4⟩⟩
  · rintro e w' ⟨r, rfl, rfl, q⟩
    exact ⟨rfl, q⟩
set_option maxHeartbeats 8000000 in
set_option maxRecDepth 100000 in
theorem Date_ok (ep : Int) (A : Option Addr) (c : Nat) (cs : List Int) (day : Int) (w : World) (hr : Kd.C (Kd.int .i64) w A cs.length cs) (hc : cs.length ≤ c) (hcal : calB ep cs = true) (hdy : dayB day = true) (y mo d : Int) (hdt : dateOf ep cs day = some (y, mo, d)) :
    Calls Tryz.prog 26 #[.agg #[.int .i64 ep, .slice A cs.length c], .int .i64 day] w fun e w' => e = .returned (.tuple #[.agg #[.int .i64 y, .int .i64 mo, .int .i64 d], .int .i64 0]) ∧ Below w.heap.size w w' := by
  have hu24 := Tryz.underlying24
  have hu38 := Tryz.underlying38
  have hmf : ∀ (fn : Fn) (first cap : Array Value) (w : World), (Instr.makeFunc fn first cap).run Tryz.prog w = .ok (.func fn first cap) w := fun _ _ _ _ => rfl
  have HB := Aside0.mk (Below.refl w.heap.size w)
  have HR := Aside0.mk hr
  have HC := Aside0.mk hc
  clear hr hc
  have HCAL := Aside0.mk hcal
  have HDY := Aside0.mk hdy
  have HDT := Aside0.mk hdt
  clear hcal hdy hdt
  go_enter Tryz.func26, Tryz.ntmps26
  go_wp2_with (first
    | ((with_reducible refine zG 2 rfl ?_); refine zBox 2 #[.int .i64 ep, .slice A cs.length c] 24 ?_; intro g1 hg w1 hbox hb; have GEg1 := zge hg HB; replace HB := zW HB hb; have BKg1 := Aside0.mk hbox; clear hb hbox hg)
    | ((with_reducible refine zG 3 rfl ?_); refine zBox 3 #[.int .i64 day] 3 ?_; intro gd hg w2 hbox hb; have GEgd := zge hg HB; have NEg1_gd := zne hg BKg1; replace HB := zW HB hb; replace BKg1 := zb BKg1 hb; have BKgd := Aside0.mk hbox; clear hb hbox hg)
    | ((with_reducible refine zG 4 rfl ?_); refine zBox 4 #[.int .i64 0, .int .i64 0, .int .i64 0] 38 ?_; intro gr hg w3 hbox hb; have GEgr := zge hg HB; have NEg1_gr := zne hg BKg1; have NEgd_gr := zne hg BKgd; replace HB := zW HB hb; replace BKg1 := zb BKg1 hb; replace BKgd := zb BKgd hb; have BKgr := Aside0.mk hbox; clear hb hbox hg; have za0 := zC BKg1)
    | (go_at_call 46; (with_reducible refine (isCal_l ep A c cs true HCAL.out w _ HR.out HC.out HB.out).mono ?_); rintro e w4 ⟨rfl, hb⟩; replace HB := zW HB hb; replace BKg1 := zb BKg1 hb; replace BKgd := zb BKgd hb; replace BKgr := zb BKgr hb; clear hb; have zd0 : w4.cell? ⟨gd, 0, none⟩ = some (.int .i64 day) := zx BKgd 0)
    | (go_at_call 59; (with_reducible refine (isDay_l day true HDY.out _).mono ?_); rintro e w5 ⟨rfl, hb⟩; replace HB := zW HB hb; replace BKg1 := zb BKg1 hb; replace BKgd := zb BKgd hb; replace BKgr := zb BKgr hb; clear hb; have zr0 := zC BKgr; have zf0 := zF BKgr)
    | ((with_reducible refine zG 6 rfl ?_); refine zBox 6 #[.int .i64 0, .int .i64 0, .int .i64 0] 38 ?_; intro go hg w6 hbox hb; have GEgo := zge hg HB; have NEg1_go := zne hg BKg1; have NEgd_go := zne hg BKgd; have NEgr_go := zne hg BKgr; replace HB := zW HB hb; replace BKg1 := zb BKg1 hb; replace BKgd := zb BKgd hb; replace BKgr := zb BKgr hb; have BKgo := Aside0.mk hbox; clear hb hbox hg)
    | (go_at_call 62; (with_reducible refine (date_try_ok ep A c cs day y mo d w _ g1 gd gr go HR.out HC.out HCAL.out HDT.out HB.out BKg1.out BKgd.out BKgr.out BKgo.out NEgr_go.out GEgo.out).mono ?_); rintro e w7 ⟨rfl, hgo, hgr, hb⟩; clear HB BKgr BKgo BKg1 BKgd; have HB := Aside0.mk hb; have BKgr := Aside0.mk hgr; have BKgo := Aside0.mk hgo; clear hb hgr hgo; have zo0 := zC BKgo)
    | ((with_reducible refine zH 38 4 rfl ?_); refine zSto 38 4 #[.int .i64 y, .int .i64 mo, .int .i64 d] BKgr ?_; intro w9 hw; replace HB := Aside0.mk (show Below w.heap.size w w9 by rw [hw]; exact below_setRow HB.out GEgr.out _); replace BKgr := znew hw BKgr; clear hw))
  refine bodyPost_ret (results_ct rfl _ _ gr 38 #[.int .i64 y, .int .i64 mo, .int .i64 d] (0, 0) _ rfl BKgr.out Tryz.underlying38 rfl (by kernel_rfl)) rfl ?_
  exact ⟨rfl, HB.out⟩
set_option maxHeartbeats 8000000 in
set_option maxRecDepth 100000 in
theorem Date_none (ep : Int) (A : Option Addr) (c : Nat) (cs : List Int) (day : Int) (w : World) (hr : Kd.C (Kd.int .i64) w A cs.length cs) (hc : cs.length ≤ c) (hcal : calB ep cs = true) (hdy : dayB day = true) (hdt : dateOf ep cs day = none) :
    Calls Tryz.prog 26 #[.agg #[.int .i64 ep, .slice A cs.length c], .int .i64 day] w fun e w' => e = .returned (.tuple #[.agg #[.int .i64 0, .int .i64 0, .int .i64 0], .int .i64 5]) ∧ Below w.heap.size w w' := by
  have hu24 := Tryz.underlying24
  have hu38 := Tryz.underlying38
  have hmf : ∀ (fn : Fn) (first cap : Array Value) (w : World), (Instr.makeFunc fn first cap).run Tryz.prog w = .ok (.func fn first cap) w := fun _ _ _ _ => rfl
  have HB := Aside0.mk (Below.refl w.heap.size w)
  have HR := Aside0.mk hr
  have HC := Aside0.mk hc
  clear hr hc
  have HCAL := Aside0.mk hcal
  have HDY := Aside0.mk hdy
  have HDT := Aside0.mk hdt
  clear hcal hdy hdt
  go_enter Tryz.func26, Tryz.ntmps26
  go_wp2_with (first
    | ((with_reducible refine zG 2 rfl ?_); refine zBox 2 #[.int .i64 ep, .slice A cs.length c] 24 ?_; intro g1 hg w1 hbox hb; have GEg1 := zge hg HB; replace HB := zW HB hb; have BKg1 := Aside0.mk hbox; clear hb hbox hg)
    | ((with_reducible refine zG 3 rfl ?_); refine zBox 3 #[.int .i64 day] 3 ?_; intro gd hg w2 hbox hb; have GEgd := zge hg HB; have NEg1_gd := zne hg BKg1; replace HB := zW HB hb; replace BKg1 := zb BKg1 hb; have BKgd := Aside0.mk hbox; clear hb hbox hg)
    | ((with_reducible refine zG 4 rfl ?_); refine zBox 4 #[.int .i64 0, .int .i64 0, .int .i64 0] 38 ?_; intro gr hg w3 hbox hb; have GEgr := zge hg HB; have NEg1_gr := zne hg BKg1; have NEgd_gr := zne hg BKgd; replace HB := zW HB hb; replace BKg1 := zb BKg1 hb; replace BKgd := zb BKgd hb; have BKgr := Aside0.mk hbox; clear hb hbox hg; have za0 := zC BKg1)
    | (go_at_call 46; (with_reducible refine (isCal_l ep A c cs true HCAL.out w _ HR.out HC.out HB.out).mono ?_); rintro e w4 ⟨rfl, hb⟩; replace HB := zW HB hb; replace BKg1 := zb BKg1 hb; replace BKgd := zb BKgd hb; replace BKgr := zb BKgr hb; clear hb; have zd0 : w4.cell? ⟨gd, 0, none⟩ = some (.int .i64 day) := zx BKgd 0)
    | (go_at_call 59; (with_reducible refine (isDay_l day true HDY.out _).mono ?_); rintro e w5 ⟨rfl, hb⟩; replace HB := zW HB hb; replace BKg1 := zb BKg1 hb; replace BKgd := zb BKgd hb; replace BKgr := zb BKgr hb; clear hb; have zr0 := zC BKgr; have zf0 := zF BKgr)
    | ((with_reducible refine zG 6 rfl ?_); refine zBox 6 #[.int .i64 0, .int .i64 0, .int .i64 0] 38 ?_; intro go hg w6 hbox hb; have GEgo := zge hg HB; have NEg1_go := zne hg BKg1; have NEgd_go := zne hg BKgd; have NEgr_go := zne hg BKgr; replace HB := zW HB hb; replace BKg1 := zb BKg1 hb; replace BKgd := zb BKgd hb; replace BKgr := zb BKgr hb; have BKgo := Aside0.mk hbox; clear hb hbox hg)
    | (go_at_call 62; (with_reducible refine (date_try_none ep A c cs day w _ g1 gd gr go HR.out HC.out HCAL.out HDT.out HB.out BKg1.out BKgd.out BKgr.out BKgo.out GEgo.out).mono ?_); rintro e w7 ⟨rfl, hgr, hb⟩; clear HB BKgr BKgo BKg1 BKgd; have HB := Aside0.mk hb; have BKgr := Aside0.mk hgr; clear hb hgr)
    | ((with_reducible refine zH 38 4 rfl ?_); refine zSto 38 4 #[.int .i64 0, .int .i64 0, .int .i64 0] BKgr ?_; intro w9 hw; replace HB := Aside0.mk (show Below w.heap.size w w9 by rw [hw]; exact below_setRow HB.out GEgr.out _); replace BKgr := znew hw BKgr; clear hw))
  refine bodyPost_ret (results_ct rfl _ _ gr 38 #[.int .i64 0, .int .i64 0, .int .i64 0] (0, 0) _ rfl BKgr.out Tryz.underlying38 rfl (by kernel_rfl)) rfl ?_
  exact ⟨rfl, HB.out⟩
def dateR : Option (Int × Int × Int) → Int × Int × Int × Int
  | some (y, mo, d) => (y, mo, d, 0)
  | none => (0, 0, 0, 5)
def dial_Date.f (ep : Int) (cs : List Int) (day : Int) : Option (Int × Int × Int × Int) := some (if (calB ep cs && dayB day) = true then dateR (dateOf ep cs day) else (0, 0, 0, 2))
theorem dial_Date.calls (ep : Int) (A : Option Addr) (c : Nat) (cs : List Int) (day : Int) (r1 r2 r3 r4 : Int) (w : World) (hr : Kd.C (Kd.int .i64) w A cs.length cs) (hc : cs.length ≤ c) (h : dial_Date.f ep cs day = some (r1, r2, r3, r4)) :
    Calls Tryz.prog 26 #[.agg #[.int .i64 ep, .slice A cs.length c], .int .i64 day] w fun e w' => e = .returned (.tuple #[.agg #[.int .i64 r1, .int .i64 r2, .int .i64 r3], .int .i64 r4]) ∧ Below w.heap.size w w' := by
  unfold dial_Date.f at h
  have h := Option.some.inj h
  cases hcal : calB ep cs with
  | false => rw [hcal] at h; simp only [Bool.false_and, Bool.false_eq_true, if_false, Prod.mk.injEq] at h; obtain ⟨rfl, rfl, rfl, rfl⟩ := h; exact Date_bad0 ep A c cs day w hr hc hcal
  | true =>
    cases hdy : dayB day with
    | false => rw [hcal, hdy] at h; simp only [Bool.and_false, Bool.false_eq_true, if_false, Prod.mk.injEq] at h; obtain ⟨rfl, rfl, rfl, rfl⟩ := h; exact Date_bad1 ep A c cs day w hr hc hcal hdy
    | true =>
      rw [hcal, hdy] at h
      simp only [Bool.and_self, if_true] at h
      cases hdt : dateOf ep cs day with
      | none => rw [hdt] at h; simp only [dateR, Prod.mk.injEq] at h; obtain ⟨rfl, rfl, rfl, rfl⟩ := h; exact Date_none ep A c cs day w hr hc hcal hdy hdt
      | some p => obtain ⟨y, mo, d⟩ := p; rw [hdt] at h; simp only [dateR, Prod.mk.injEq] at h; obtain ⟨rfl, rfl, rfl, rfl⟩ := h; exact Date_ok ep A c cs day w hr hc hcal hdy y mo d hdt
end Go.Proofs.YtnllidgonghckaaGreatDoor.X
namespace Go.Proofs.YtnllidgonghckaaGreatDoor.X
open Go.RowKit Go.Proofs.YtnllidgonghckaaGreatDoorW.PrintWords Go.Proofs.YtnllidgonghckaaGreatDoorW.PrintLast Go.Proofs.YtnllidgonghckaaGreatDoorW.PrintMore
attribute [local go_sem] max2_int min2_int max_two min_two max_three min_three max_four min_four
set_option linter.unusedVariables false
set_option linter.unusedSimpArgs false
attribute [local go_sem high] eqA38
mutual
def qDialDates.j0 : Nat → Int → Int → Int → Int → Bool → Int → List Int → Int → Int → Int → Int → Int → Int → Option (Bool)
  | 0, _, _, _, _, _, _, _, _, _, _, _, _, _ => none
  | k + 1, x2, x8, x9, x11, x48, x428000, x428001, x429000, x429001, x429002, x439000, x439001, x439002 => if x48 = true then (none) else ((qCalendar.f k x428000 x428001).bind fun t440 => (if t440 = true then ((qReal.f k x428000 x428001 x429000 x429001 x429002).bind fun t442 => (if t442 = true then (if x9 = 0 then ((qDay.f k x428000 x428001 x429000 x429001 x429002).bind fun t443 => (if x8 = t443 then (qDialDates.j1 k x2 x11 false x428000 x428001 x439000 x439001 x439002) else (qDialDates.j1 k x2 x11 true x428000 x428001 x439000 x439001 x439002))) else (qDialDates.j1 k x2 x11 true x428000 x428001 x439000 x439001 x439002)) else (if x9 = 2 then (qDialDates.j1 k x2 x11 (x8 != 0) x428000 x428001 x439000 x439001 x439002) else (qDialDates.j1 k x2 x11 true x428000 x428001 x439000 x439001 x439002)))) else (if x9 = 2 then (if x8 = 0 then (if x11 = 2 then (if (x439000 == 0 && (x439001 == 0 && (x439002 == 0))) = true then ((tellurionlaw06_known.f).bind fun t441 => (some t441)) else (none)) else (none)) else (none)) else (none))))
def qDialDates.j1 : Nat → Int → Int → Bool → Int → List Int → Int → Int → Int → Option (Bool)
  | 0, _, _, _, _, _, _, _, _ => none
  | k + 1, x2, x11, x96, x428000, x428001, x439000, x439001, x439002 => if x96 = true then (none) else ((qNumber.f x2).bind fun t444 => (if t444 = true then ((qDate.f k x428000 x428001 x2).bind fun bt446 => (if bt446.2.2.2 = true then (if x11 = 0 then (if (x439000 == bt446.1 && (x439001 == bt446.2.1 && (x439002 == bt446.2.2.1))) = true then ((tellurionlaw06_known.f).bind fun t451 => (some t451)) else (none)) else (none)) else (if x11 = 5 then (if (x439000 == 0 && (x439001 == 0 && (x439002 == 0))) = true then ((tellurionlaw06_known.f).bind fun t452 => (some t452)) else (none)) else (none)))) else (if x11 = 2 then (if (x439000 == 0 && (x439001 == 0 && (x439002 == 0))) = true then ((tellurionlaw06_known.f).bind fun t445 => (some t445)) else (none)) else (none))))
end
def qDialDates.f (k : Nat) (a0_0 : Int) (l0_1 : List Int) (a1_0 : Int) (a1_1 : Int) (a1_2 : Int) (a2 : Int) : Option (Bool) := (qshort.f a0_0 l0_1).bind fun t429 => (if t429 = true then ((dial_Check.f k a0_0 l0_1).bind fun t431 => ((dial_Day.f a0_0 l0_1 a1_0 a1_1 a1_2).bind fun bt432 => ((dial_Date.f a0_0 l0_1 a2).bind fun bt434 => ((qCalendar.f k a0_0 l0_1).bind fun t439 => (if t439 = true then (if t431 = 0 then (qDialDates.j0 k a2 bt432.1 bt432.2 bt434.2.2.2 false a0_0 l0_1 a1_0 a1_1 a1_2 bt434.1 bt434.2.1 bt434.2.2.1) else (qDialDates.j0 k a2 bt432.1 bt432.2 bt434.2.2.2 true a0_0 l0_1 a1_0 a1_1 a1_2 bt434.1 bt434.2.1 bt434.2.2.1)) else (qDialDates.j0 k a2 bt432.1 bt432.2 bt434.2.2.2 (t431 != 2) a0_0 l0_1 a1_0 a1_1 a1_2 bt434.1 bt434.2.1 bt434.2.2.1)))))) else ((tellurionlaw06_known.f).bind fun t430 => (some t430)))
end Go.Proofs.YtnllidgonghckaaGreatDoor.X
namespace Go.Proofs.YtnllidgonghckaaGreatDoor.X
open Go.RowKit Go.Proofs.YtnllidgonghckaaGreatDoorW.PrintWords Go.Proofs.YtnllidgonghckaaGreatDoorW.PrintLast Go.Proofs.YtnllidgonghckaaGreatDoorW.PrintMore Go.Proofs.YtnllidgonghckaaGreatDoor.Dm
set_option linter.unusedVariables false
set_option linter.unusedSimpArgs false
theorem rin_f (a b c : Int) : tellurionref06_in.f a b c = some (inB a b c) := by
  unfold tellurionref06_in.f inB
  by_cases h : b ≤ a
  · rw [if_pos h]; simp [h]
  · rw [if_neg h]; simp [h]
theorem rYear_f (y : Int) : qYear.f y = some (yearB y) := by
  unfold qYear.f
  rw [rin_f]
  rfl
theorem rNumber_f (d : Int) : qNumber.f d = some (dayB d) := by
  unfold qNumber.f
  rw [rin_f]
  rfl
theorem short_f (ep : Int) (cs : List Int) : qshort.f ep cs = some (decide (cs.length ≤ 5)) := by
  unfold qshort.f
  congr 1
  exact decide_eq_decide.2 (by omega)
theorem rCal_l (ep : Int) (cs : List Int) (h5 : cs.length ≤ 5) : ∀ (d k i : Nat) (last : Int), i + d = cs.length → d < k → (i = 0 → last = 1) → (∀ h : 0 < i ∧ i ≤ cs.length, last = cs[i - 1] ∧ 1 ≤ last) →
    qCalendar.l0 k i ep cs = some (incr last (cs.drop i) && (inB ep 0 1000 && inB cs.length 1 3)) := by
  intro d
  induction d with
  | zero =>
    intro k i last hi hk _ _
    obtain ⟨k, rfl⟩ : ∃ m, k = m + 1 := ⟨k - 1, by omega⟩
    unfold qCalendar.l0
    rw [if_neg (by omega), rin_f, Option.bind_some, rin_f, List.drop_of_length_le (by omega)]
    cases inB ep 0 1000 <;> simp [incr]
  | succ d ih =>
    intro k i last hi hk h0 h1
    obtain ⟨k, rfl⟩ : ∃ m, k = m + 1 := ⟨k - 1, by omega⟩
    have hlt : i < cs.length := by omega
    have hw : wrap64 ((i : Int) + 1) = ((i + 1 : Nat) : Int) := by rw [wrap_of _ (by omega) (by omega)]; rfl
    unfold qCalendar.l0
    rw [if_pos (by omega), if_pos (by omega), rd_nat cs i hlt, rin_f, Option.bind_some, drop_cons cs i hlt, hw]
    have e : incr last (cs[i] :: cs.drop (i + 1)) = (decide (last + 1 ≤ cs[i]) && decide (cs[i] ≤ 1000) && incr cs[i] (cs.drop (i + 1))) := rfl
    rw [e]
    have hn := ih k (i + 1) cs[i] (by omega) (by omega) (by omega)
    by_cases a : 2 ≤ cs[i] ∧ cs[i] ≤ 1000
    · rw [show inB cs[i] 2 1000 = true by simp [inB, a], if_pos rfl]
      have hn := hn (fun _ => ⟨by simp, by omega⟩)
      by_cases z : 0 < i
      · have hl := h1 ⟨z, by omega⟩
        rw [if_pos (by omega), wrap_of ((i : Int) - 1) (by omega) (by omega), if_pos (by omega), if_pos (by omega), show (i : Int) - 1 = ((i - 1 : Nat) : Int) by omega, rd_nat cs (i - 1) (by omega), ← hl.1]
        by_cases b : cs[i] ≤ last
        · rw [if_pos b, decide_eq_false (show ¬ last + 1 ≤ cs[i] by omega)]; simp
        · rw [if_neg b, hn, decide_eq_true (show last + 1 ≤ cs[i] by omega), decide_eq_true a.2]; simp
      · have hl := h0 (by omega)
        rw [if_neg (by omega), hn, decide_eq_true (show last + 1 ≤ cs[i] by omega), decide_eq_true a.2]; simp
    · rw [show inB cs[i] 2 1000 = false by simp only [inB, Bool.and_eq_false_iff, decide_eq_false_iff_not]; omega, if_neg (by decide)]
      have : (decide (last + 1 ≤ cs[i]) && decide (cs[i] ≤ 1000)) = false := by
        simp only [Bool.and_eq_false_iff, decide_eq_false_iff_not]
        by_cases z : 0 < i
        · have := (h1 ⟨z, by omega⟩).2; omega
        · have := h0 (by omega); omega
      rw [this]; simp
theorem rCalendar_f (k : Nat) (ep : Int) (cs : List Int) (h5 : cs.length ≤ 5) (hk : 6 ≤ k) : qCalendar.f k ep cs = some (calB ep cs) := by
  unfold qCalendar.f
  rw [show (0 : Int) = ((0 : Nat) : Int) from rfl, rCal_l ep cs h5 cs.length k 0 1 (by omega) (by omega) (fun _ => rfl) (fun h => absurd h.1 (by omega))]
  unfold calB inB
  congr 1
  have e1 : decide ((1 : Int) ≤ (cs.length : Int)) = decide (1 ≤ cs.length) := decide_eq_decide.2 (by omega)
  have e2 : decide ((cs.length : Int) ≤ 3) = decide (cs.length ≤ 3) := decide_eq_decide.2 (by omega)
  rw [e1, e2, List.drop_zero]
  cases incr 1 cs <;> cases decide (0 ≤ ep) <;> cases decide (ep ≤ 1000) <;> cases decide (1 ≤ cs.length) <;> cases decide (cs.length ≤ 3) <;> rfl
theorem rLeap_l (ep y : Int) (cs : List Int) (hnz : ∀ n ∈ cs, n ≠ 0) (hl : cs.length ≤ 1000) : ∀ (d k i : Nat) (x : Int), i + d = cs.length → d < k → 0 ≤ x → x ≤ i →
    qLeap.l0 k y x i ep cs = some ((cs.drop i).foldl (fun b n => if y.tmod n = 0 then !b else b) (x.tmod 2 == 1)) := by
  intro d
  induction d with
  | zero =>
    intro k i x hi hk h0 h1
    obtain ⟨k, rfl⟩ : ∃ m, k = m + 1 := ⟨k - 1, by omega⟩
    unfold qLeap.l0
    rw [if_neg (by omega), List.drop_of_length_le (by omega)]
    rfl
  | succ d ih =>
    intro k i x hi hk hx0 hx1
    obtain ⟨k, rfl⟩ : ∃ m, k = m + 1 := ⟨k - 1, by omega⟩
    have hlt : i < cs.length := by omega
    have hw : wrap64 ((i : Int) + 1) = ((i + 1 : Nat) : Int) := by rw [wrap_of _ (by omega) (by omega)]; rfl
    have h0 : cs[i] ≠ 0 := hnz _ (List.getElem_mem hlt)
    unfold qLeap.l0
    rw [if_pos (by omega), if_pos (by omega), rd_nat cs i hlt, if_neg h0, hw, drop_cons cs i hlt, List.foldl_cons]
    by_cases h : y.tmod cs[i] = 0
    · rw [if_pos h, if_pos h, wrap_of (x + 1) (by omega) (by omega), ih k (i + 1) _ (by omega) (by omega) (by omega) (by omega)]
      congr 2
      rw [Int.tmod_eq_emod_of_nonneg (by omega), Int.tmod_eq_emod_of_nonneg (by omega), Bool.eq_iff_iff]
      simp only [beq_iff_eq, Bool.not_eq_true', beq_eq_false_iff_ne]
      omega
    · rw [if_neg h, if_neg h, ih k (i + 1) _ (by omega) (by omega) hx0 (by omega)]
theorem cal_nz {ep : Int} {cs : List Int} (h : calB ep cs = true) : (∀ n ∈ cs, n ≠ 0) ∧ cs.length ≤ 3 ∧ 0 ≤ ep ∧ ep ≤ 1000 := by
  have q := calB_iff h
  exact ⟨fun n hn => by have := q.2.2.2.2 n hn; omega, q.2.2.2.1, q.1, q.2.1⟩
theorem rLeap_f {ep : Int} {cs : List Int} (h : calB ep cs = true) (k : Nat) (y : Int) (hk : 4 ≤ k) : qLeap.f k ep cs y = some (leapB cs y) := by
  have q := cal_nz h
  unfold qLeap.f leapB
  exact rLeap_l ep y cs q.1 (by omega) cs.length k 0 0 (by omega) (by omega) (by omega) (by omega)
theorem rLong_f {ep : Int} {cs : List Int} (h : calB ep cs = true) (k : Nat) (y : Int) (hk : 4 ≤ k) : qLong.f k ep cs y = some (ylen cs y) := by
  unfold qLong.f ylen
  rw [rLeap_f h k y hk, Option.bind_some]
  cases leapB cs y <;> rfl
theorem rFirst_l {ep : Int} {cs : List Int} (h : calB ep cs = true) (y : Nat) (hy : y ≤ 4002) : ∀ (d k i : Nat) (x : Int), i + d = y → d + 5 ≤ k → 0 ≤ x → x ≤ 2000000 + i →
    qFirst.l0 k y x i ep cs = some (x + (fday ep cs y - fday ep cs i) - 365 * ((y : Int) - i)) := by
  intro d
  induction d with
  | zero =>
    intro k i x hi hk _ _
    obtain ⟨k, rfl⟩ : ∃ m, k = m + 1 := ⟨k - 1, by omega⟩
    obtain rfl : i = y := by omega
    unfold qFirst.l0
    rw [if_neg (by omega)]
    congr 1
    omega
  | succ d ih =>
    intro k i x hi hk h0 h1
    obtain ⟨k, rfl⟩ : ∃ m, k = m + 1 := ⟨k - 1, by omega⟩
    have hw : wrap64 ((i : Int) + 1) = ((i + 1 : Nat) : Int) := by rw [wrap_of _ (by omega) (by omega)]; rfl
    have hs : fday ep cs (i + 1) = fday ep cs i + ylen cs i := rfl
    unfold qFirst.l0
    rw [if_pos (by omega), rLeap_f h k i (by omega), Option.bind_some, hw]
    cases hl : leapB cs (i : Int) with
    | true =>
      rw [if_pos rfl, wrap_of (x + 1) (by omega) (by omega), ih k (i + 1) _ (by omega) (by omega) (by omega) (by omega), hs, ylen, hl, if_pos rfl]
      congr 1
      omega
    | false =>
      rw [if_neg (by decide), ih k (i + 1) _ (by omega) (by omega) h0 (by omega), hs, ylen, hl, if_neg (by decide)]
      congr 1
      omega
theorem rFirst_f {ep : Int} {cs : List Int} (h : calB ep cs = true) (k : Nat) (y : Int) (hy : 0 ≤ y ∧ y ≤ 4002) (hk : 4100 ≤ k) : qFirst.f k ep cs y = some (fday ep cs y.toNat) := by
  have q := cal_nz h
  obtain ⟨n, rfl⟩ : ∃ n : Nat, y = n := ⟨y.toNat, by omega⟩
  unfold qFirst.f
  rw [wrap_of (365 * (n : Int)) (by omega) (by omega), wrap_of (ep + 365 * (n : Int)) (by omega) (by omega)]
  have := rFirst_l h n (by omega) n k 0 (ep + 365 * (n : Int)) (by omega) (by omega) (by omega) (by omega)
  rw [show ((0 : Nat) : Int) = 0 from rfl] at this
  rw [this, show fday ep cs 0 = ep from rfl]
  congr 1
  show _ = fday ep cs n
  omega
theorem rLength_f (m : Int) (lp : Bool) (hm : 1 ≤ m ∧ m ≤ 12) : qLength.f m lp = some (rd (mlist lp) (m - 1)) := by
  have : m = 1 ∨ m = 2 ∨ m = 3 ∨ m = 4 ∨ m = 5 ∨ m = 6 ∨ m = 7 ∨ m = 8 ∨ m = 9 ∨ m = 10 ∨ m = 11 ∨ m = 12 := by omega
  clear hm
  rcases this with rfl | rfl | rfl | rfl | rfl | rfl | rfl | rfl | rfl | rfl | rfl | rfl <;> cases lp <;> decide +kernel
theorem rReal_f {ep : Int} {cs : List Int} (h : calB ep cs = true) (k : Nat) (y m d : Int) (hk : 4 ≤ k) : qReal.f k ep cs y m d = some (dateB cs y m d) := by
  unfold qReal.f qWritten.f dateB
  rw [rYear_f, Option.bind_some, rin_f, Option.bind_some, rin_f, Option.bind_some]
  cases yearB y with
  | false => rfl
  | true =>
    cases hm : inB m 1 12 with
    | false => rfl
    | true =>
      have hm' : 1 ≤ m ∧ m ≤ 12 := by simpa [inB] using hm
      have b := mlist_rd (leapB cs y) (m - 1)
      cases hd : inB d 1 31 with
      | false =>
        have : inB d 1 (mdays cs y m) = false := Bool.eq_false_iff.2 (fun q => by
          have hq : 1 ≤ d ∧ d ≤ mdays cs y m := by simpa [inB] using q
          have hm2 : mdays cs y m ≤ 31 := b.2
          have : inB d 1 31 = true := by simp only [inB, Bool.and_eq_true, decide_eq_true_eq]; omega
          rw [hd] at this; cases this)
        rw [this]; rfl
      | true =>
        have hd' : 1 ≤ d ∧ d ≤ 31 := by simpa [inB] using hd
        simp only [if_true, Option.bind_some]
        rw [rLeap_f h k y hk, Option.bind_some, rLength_f m _ hm', Option.bind_some]
        show _ = some (true && true && (decide (1 ≤ d) && decide (d ≤ rd (mlist (leapB cs y)) (m - 1))))
        rw [decide_eq_true hd'.1, Bool.true_and, Bool.true_and, Bool.true_and]
theorem fday_b {ep : Int} {cs : List Int} (h : calB ep cs = true) (y : Nat) (hy : y ≤ 4002) : 0 ≤ fday ep cs y ∧ fday ep cs y ≤ 1466000 := by
  have q := cal_nz h
  exact fday_bd ep cs y ⟨q.2.2.1, q.2.2.2⟩ hy
theorem fsum (a : Int) : ∀ l : List Int, l.foldl (· + ·) a = a + l.foldl (· + ·) 0
  | [] => by simp
  | n :: r => by rw [List.foldl_cons, List.foldl_cons, fsum (a + n) r, fsum (0 + n) r]; omega
theorem mloop_spec : ∀ (l : List Int) (left i m d : Int), 0 ≤ left → mloop l left i = some (m, d) → ∃ j : Nat, j < l.length ∧ m = i + j + 1 ∧ (l.take j).foldl (· + ·) 0 + d - 1 = left ∧ 1 ≤ d ∧ d ≤ l.getD j 0
  | [], left, i, m, d, _, h => by cases h
  | n :: r, left, i, m, d, h0, h => by
    unfold mloop at h
    by_cases c : left < n
    · rw [if_pos c] at h
      cases h
      exact ⟨0, by simp, by simp, by simp, by omega, by simp; omega⟩
    · rw [if_neg c] at h
      obtain ⟨j, a, b, e, f, g⟩ := mloop_spec r (left - n) (i + 1) m d (by omega) h
      refine ⟨j + 1, by simp; omega, by omega, ?_, f, by simpa using g⟩
      rw [List.take_succ_cons, List.foldl_cons, fsum]
      omega
theorem rd_getD (l : List Int) (i : Int) : rd l i = l.getD i.toNat 0 := rfl
theorem month_in (lp : Bool) (m : Int) (hm : 1 ≤ m ∧ m ≤ 12) : ((mlist lp).take (m - 1).toNat).foldl (· + ·) 0 + rd (mlist lp) (m - 1) ≤ (if lp = true then 366 else 365) ∧ 28 ≤ rd (mlist lp) (m - 1) ∧ (m < 12 → ((mlist lp).take m.toNat).foldl (· + ·) 0 = ((mlist lp).take (m - 1).toNat).foldl (· + ·) 0 + rd (mlist lp) (m - 1)) ∧ (m = 12 → ((mlist lp).take (m - 1).toNat).foldl (· + ·) 0 + rd (mlist lp) (m - 1) = (if lp = true then 366 else 365)) := by
  have : m = 1 ∨ m = 2 ∨ m = 3 ∨ m = 4 ∨ m = 5 ∨ m = 6 ∨ m = 7 ∨ m = 8 ∨ m = 9 ∨ m = 10 ∨ m = 11 ∨ m = 12 := by omega
  clear hm
  rcases this with rfl | rfl | rfl | rfl | rfl | rfl | rfl | rfl | rfl | rfl | rfl | rfl <;> cases lp <;> decide +kernel
theorem ylen_if (cs : List Int) (y : Int) : ylen cs y = if leapB cs y = true then 366 else 365 := by unfold ylen; cases leapB cs y <;> rfl
theorem dateOf_day {ep : Int} {cs : List Int} {day y m d : Int} (h : dateOf ep cs day = some (y, m, d)) : dateB cs y m d = true ∧ dayOf ep cs y m d = day := by
  unfold dateOf at h
  split at h
  · rename_i hy
    obtain ⟨y1, y2, y3, _⟩ := yearTo_spec ep cs day 4002
    have hb := yearB_iff hy
    have hle : fday ep cs (yearOf ep cs day).toNat ≤ day := y3 hb.1
    cases hm : mloop (mlist (leapB cs (yearOf ep cs day))) (day - fday ep cs (yearOf ep cs day).toNat) 0 with
    | none => rw [hm] at h; cases h
    | some p =>
      obtain ⟨a, b⟩ := p
      rw [hm] at h
      simp only [Option.map_some, Option.some.injEq, Prod.mk.injEq] at h
      obtain ⟨e1, rfl, rfl⟩ := h
      rw [e1] at hm hy hb hle
      obtain ⟨j, j1, j2, j3, j4, j5⟩ := mloop_spec _ _ _ _ _ (by omega) hm
      rw [mlist_length] at j1
      have ej : (a - 1).toNat = j := by omega
      constructor
      · unfold dateB mdays
        rw [hy, rd_getD, ej]
        simp only [inB, Bool.and_eq_true, decide_eq_true_eq]
        exact ⟨⟨trivial, by omega⟩, by omega⟩
      · unfold dayOf mbefore
        rw [ej]
        omega
  · cases h
theorem dateOf_none {ep : Int} {cs : List Int} (day : Int) : dateOf ep cs day = none ↔ (day < ep ∨ fday ep cs 4001 ≤ day) := by
  obtain ⟨y1, y2, y3, y4⟩ := yearTo_spec ep cs day 4002
  have e : yearOf ep cs day = yearTo ep cs day 4002 := rfl
  have ez : fday ep cs 0 = ep := rfl
  constructor
  · intro h
    rcases Int.lt_or_le (yearTo ep cs day 4002) 0 with c | c
    · have := y4 0 (by omega) (by omega)
      exact .inl (by omega)
    · right
      have hle := y3 c
      rcases Int.lt_or_le 4000 (yearTo ep cs day 4002) with c2 | c2
      · rw [show (yearTo ep cs day 4002).toNat = 4001 by omega] at hle
        exact hle
      · exfalso
        unfold dateOf at h
        rw [if_pos (by rw [e]; simp only [yearB, Bool.and_eq_true, decide_eq_true_eq]; omega), e] at h
        have hl := y4 ((yearTo ep cs day 4002).toNat + 1) (by omega) (by omega)
        have hs : fday ep cs ((yearTo ep cs day 4002).toNat + 1) = fday ep cs (yearTo ep cs day 4002).toNat + ylen cs ((yearTo ep cs day 4002).toNat : Int) := rfl
        rw [show ((yearTo ep cs day 4002).toNat : Int) = yearTo ep cs day 4002 by omega] at hs
        obtain ⟨p, hp⟩ := mloop_some (mlist (leapB cs (yearTo ep cs day 4002))) (day - fday ep cs (yearTo ep cs day 4002).toNat) 0 (by omega) (by rw [mlist_sum, ← ylen_if]; omega)
        rw [hp] at h
        cases h
  · intro h
    cases hd : dateOf ep cs day with
    | none => rfl
    | some p =>
      obtain ⟨y, m, d⟩ := p
      obtain ⟨a, b⟩ := dateOf_day hd
      obtain ⟨y0, y1, m0, m1, d0, d1⟩ := dateB_iff a
      obtain ⟨mi, _, _, _⟩ := month_in (leapB cs y) m ⟨m0, m1⟩
      have mb := (mbefore_bd cs y m).1
      obtain ⟨n, rfl⟩ : ∃ n : Nat, y = n := ⟨y.toNat, by omega⟩
      have e : dayOf ep cs n m d = fday ep cs n + mbefore cs n m + d - 1 := rfl
      have hs : fday ep cs (n + 1) = fday ep cs n + ylen cs n := rfl
      have e2 : mbefore cs n m = ((mlist (leapB cs (n : Int))).take (m - 1).toNat).foldl (· + ·) 0 := rfl
      have d2 : d ≤ rd (mlist (leapB cs (n : Int))) (m - 1) := d1
      have g1 := fday_mono ep cs 0 n (by omega)
      have g2 := fday_mono ep cs (n + 1) 4001 (by omega)
      rw [ylen_if] at hs
      exfalso
      omega
def sumS (lp : Bool) : Int → Nat → Int
  | _, 0 => 0
  | i, t + 1 => rd (mlist lp) (i - 1) + sumS lp (i + 1) t
theorem sumS_of (lp : Bool) (m : Int) (hm : 1 ≤ m ∧ m ≤ 12) : sumS lp 1 (m - 1).toNat = ((mlist lp).take (m - 1).toNat).foldl (· + ·) 0 := by
  have : m = 1 ∨ m = 2 ∨ m = 3 ∨ m = 4 ∨ m = 5 ∨ m = 6 ∨ m = 7 ∨ m = 8 ∨ m = 9 ∨ m = 10 ∨ m = 11 ∨ m = 12 := by omega
  clear hm
  rcases this with rfl | rfl | rfl | rfl | rfl | rfl | rfl | rfl | rfl | rfl | rfl | rfl <;> cases lp <;> decide +kernel
theorem rInto_l {ep : Int} {cs : List Int} (h : calB ep cs = true) (y m d : Int) (hm : m ≤ 12) : ∀ (t k : Nat) (i x : Int), i + t = m → 1 ≤ i → t + 6 ≤ k → 0 ≤ x → x ≤ 100 * i →
    qInto.l0 k x i ep cs y m d = some (x + sumS (leapB cs y) i t) := by
  intro t
  induction t with
  | zero =>
    intro k i x h1 _ hk _ _
    obtain ⟨k, rfl⟩ : ∃ j, k = j + 1 := ⟨k - 1, by omega⟩
    unfold qInto.l0
    rw [if_neg (by omega), sumS, Int.add_zero]
  | succ t ih =>
    intro k i x h1 h2 hk h3 h4
    obtain ⟨k, rfl⟩ : ∃ j, k = j + 1 := ⟨k - 1, by omega⟩
    have b := mlist_rd (leapB cs y) (i - 1)
    unfold qInto.l0
    rw [if_pos (by omega), rLeap_f h k y (by omega), Option.bind_some, rLength_f i _ (by omega), Option.bind_some, wrap_of (x + rd (mlist (leapB cs y)) (i - 1)) (by omega) (by omega), wrap_of (i + 1) (by omega) (by omega), ih k (i + 1) _ (by omega) (by omega) (by omega) (by omega) (by omega), sumS, Int.add_assoc]
theorem rDay_f {ep : Int} {cs : List Int} (h : calB ep cs = true) (k : Nat) (y m d : Int) (hd : dateB cs y m d = true) (hk : 4300 ≤ k) : qDay.f k ep cs y m d = some (dayOf ep cs y m d) := by
  obtain ⟨y0, y1, m0, m1, d0, d1⟩ := dateB_iff hd
  have md : mdays cs y m ≤ 31 := (mlist_rd (leapB cs y) (m - 1)).2
  have F := fday_b h y.toNat (by omega)
  have mb := mbefore_bd cs y m
  have e : mbefore cs y m = sumS (leapB cs y) 1 (m - 1).toNat := (sumS_of _ _ ⟨m0, m1⟩).symm
  unfold qDay.f qInto.f
  rw [rFirst_f h k y (by omega) (by omega), Option.bind_some, wrap_of (d - 1) (by omega) (by omega), rInto_l h y m d m1 (m - 1).toNat k 1 (d - 1) (by omega) (by omega) (by omega) (by omega) (by omega), Option.bind_some, ← e, wrap_of (fday ep cs y.toNat + (d - 1 + mbefore cs y m)) (by omega) (by omega)]
  congr 1
  show _ = fday ep cs y.toNat + mbefore cs y m + d - 1
  omega
def dateV : Option (Int × Int × Int) → Int × Int × Int × Bool
  | some p => (p.1, p.2.1, p.2.2, true)
  | none => (0, 0, 0, false)
theorem rDate_l1 {ep : Int} {cs : List Int} (h : calB ep cs = true) (y : Int) : ∀ (l : List Int) (k : Nat) (i : Nat) (left : Int) (p : Int × Int), (mlist (leapB cs y)).drop i = l → l.length + 6 ≤ k → 0 ≤ left → left ≤ 100000000 → mloop l left i = some p →
    qDate.l1 k left y ((i : Int) + 1) ep cs = some (y, p.1, p.2, true)
  | [], k, i, left, p, _, _, _, _, hp => by cases hp
  | n :: r, k, i, left, p, hl, hk, h0, h1, hp => by
    obtain ⟨k, rfl⟩ : ∃ j, k = j + 1 := ⟨k - 1, by omega⟩
    have hi : i < (mlist (leapB cs y)).length := by
      have := congrArg List.length hl
      simp at this
      omega
    have hdr := List.drop_eq_getElem_cons hi
    rw [hl] at hdr
    injection hdr with e1 e2
    have hr : rd (mlist (leapB cs y)) ((i : Int) + 1 - 1) = n := by
      rw [show (i : Int) + 1 - 1 = i by omega, rd_nat _ i hi, e1]
    have hn := mlist_rd (leapB cs y) ((i : Int) + 1 - 1)
    rw [hr] at hn
    rw [mlist_length] at hi
    unfold qDate.l1
    rw [if_pos (by omega), rLeap_f h k y (by simp at hk; omega), Option.bind_some, rLength_f _ _ (by omega), Option.bind_some, hr]
    unfold mloop at hp
    by_cases c : left < n
    · rw [if_pos c] at hp ⊢
      cases hp
      rw [wrap_of (left + 1) (by omega) (by omega)]
    · rw [if_neg c] at hp ⊢
      rw [wrap_of (left - n) (by omega) (by omega), wrap_of ((i : Int) + 1 + 1) (by omega) (by omega)]
      have := rDate_l1 h y r k (i + 1) (left - n) p e2.symm (by simp at hk; omega) (by omega) (by omega) (by simpa using hp)
      simpa using this
theorem rDate_l0 {ep : Int} {cs : List Int} (h : calB ep cs = true) (day : Int) (hd : day ≤ 10000000) (y : Nat) (hy : y ≤ 4001) (hle : fday ep cs y ≤ day) : ∀ (t k z : Nat), z + t = y → t + 5 ≤ k →
    qDate.l0 k (day - fday ep cs z) z ep cs = qDate.l0 (k - t) (day - fday ep cs y) y ep cs := by
  intro t
  induction t with
  | zero => intro k z hz hk; rw [show z = y by omega, Nat.sub_zero]
  | succ t ih =>
    intro k z hz hk
    obtain ⟨k, rfl⟩ : ∃ j, k = j + 1 := ⟨k - 1, by omega⟩
    have hs : fday ep cs (z + 1) = fday ep cs z + ylen cs z := rfl
    have mo := fday_mono ep cs (z + 1) y (by omega)
    have b := fday_b h z (by omega)
    have yl := ylen_range cs (z : Int)
    conv => lhs; unfold qDate.l0
    rw [if_pos (by omega), rLong_f h k _ (by omega), Option.bind_some, if_pos (by omega), wrap_of (day - fday ep cs z - ylen cs z) (by omega) (by omega), show wrap64 ((z : Int) + 1) = ((z + 1 : Nat) : Int) by rw [wrap_of _ (by omega) (by omega)]; rfl, show day - fday ep cs z - ylen cs z = day - fday ep cs (z + 1) by omega, ih k (z + 1) (by omega) (by omega), show k + 1 - (t + 1) = k - t by omega]
theorem rDate_f {ep : Int} {cs : List Int} (h : calB ep cs = true) (k : Nat) (day : Int) (hd : dayB day = true) (hk : 4300 ≤ k) : qDate.f k ep cs day = some (dateV (dateOf ep cs day)) := by
  have q := cal_nz h
  have hb : 0 ≤ day ∧ day ≤ 2000000 := by simpa [dayB] using hd
  obtain ⟨y1, y2, y3, y4⟩ := yearTo_spec ep cs day 4002
  have ez : fday ep cs 0 = ep := rfl
  unfold qDate.f
  rw [wrap_of (day - ep) (by omega) (by omega)]
  by_cases c : day < ep
  · rw [if_pos (by omega), (dateOf_none day).2 (.inl c)]
    rfl
  · rw [if_neg (by omega)]
    by_cases c2 : fday ep cs 4001 ≤ day
    · rw [(dateOf_none day).2 (.inr c2)]
      have := rDate_l0 h day (by omega) 4001 (by omega) c2 4001 k 0 (by omega) (by omega)
      rw [ez, show ((0 : Nat) : Int) = 0 from rfl] at this
      rw [this]
      obtain ⟨k, rfl⟩ : ∃ j, k = j + 4002 := ⟨k - 4002, by omega⟩
      rw [show k + 4002 - 4001 = k + 1 by omega]
      unfold qDate.l0
      rw [if_neg (by decide)]
      rfl
    · cases hdt : dateOf ep cs day with
      | none =>
        have := (dateOf_none day).1 hdt
        omega
      | some p =>
        obtain ⟨y, m, d⟩ := p
        unfold dateOf at hdt
        split at hdt
        · rename_i hy
          have by_ := yearB_iff hy
          have hle : fday ep cs (yearOf ep cs day).toNat ≤ day := y3 by_.1
          have hlt : day < fday ep cs ((yearOf ep cs day).toNat + 1) := y4 _ (by show yearOf ep cs day < _; omega) (by omega)
          generalize yearOf ep cs day = Y at hy by_ hle hlt hdt
          obtain ⟨n, rfl⟩ : ∃ n : Nat, Y = n := ⟨Y.toNat, by omega⟩
          rw [Int.toNat_natCast] at hle hlt hdt
          have hs : fday ep cs (n + 1) = fday ep cs n + ylen cs n := rfl
          have F := fday_b h n (by omega)
          have := rDate_l0 h day (by omega) n (by omega) hle n k 0 (by omega) (by omega)
          rw [ez, show ((0 : Nat) : Int) = 0 from rfl] at this
          rw [this]
          obtain ⟨k, rfl⟩ : ∃ j, k = j + (n + 1) := ⟨k - (n + 1), by omega⟩
          rw [show k + (n + 1) - n = k + 1 by omega]
          unfold qDate.l0
          rw [if_pos (by omega), rLong_f h k _ (by omega), Option.bind_some, if_neg (by omega)]
          cases hm : mloop (mlist (leapB cs (n : Int))) (day - fday ep cs n) 0 with
          | none => rw [hm] at hdt; cases hdt
          | some p =>
            rw [hm] at hdt
            simp only [Option.map_some, Option.some.injEq, Prod.mk.injEq] at hdt
            obtain ⟨e1, e2, e3⟩ := hdt
            have := rDate_l1 h (n : Int) (mlist (leapB cs (n : Int))) k 0 (day - fday ep cs n) p rfl (by rw [mlist_length]; omega) (by omega) (by omega) hm
            rw [show ((0 : Nat) : Int) + 1 = 1 from rfl] at this
            rw [this, ← e1, ← e2, ← e3]
            rfl
        · cases hdt
theorem Check_f (k : Nat) (ep : Int) (cs : List Int) (hk : 5 ≤ k) : dial_Check.f k ep cs = some (if calB ep cs = true then 0 else 2) := by
  unfold dial_Check.f
  rw [isCalendar_f k ep cs hk, Option.bind_some]
  cases calB ep cs <;> rfl
theorem DialDates_pure (ep : Int) (cs : List Int) (y m d day : Int) : ∃ k, qDialDates.f k ep cs y m d day = some true := by
  refine ⟨5000, ?_⟩
  unfold qDialDates.f
  rw [short_f, Option.bind_some]
  by_cases h5 : cs.length ≤ 5
  · rw [if_pos (decide_eq_true h5), Check_f _ ep cs (by omega), Option.bind_some]
    unfold dial_Day.f dial_Date.f
    rw [Option.bind_some, Option.bind_some, rCalendar_f _ ep cs h5 (by omega), Option.bind_some]
    cases hc : calB ep cs with
    | false =>
      show qDialDates.j0 5000 day 0 2 2 false ep cs y m d 0 0 0 = some true
      unfold qDialDates.j0
      dsimp only
      rw [if_neg (by decide), rCalendar_f _ ep cs h5 (by omega), Option.bind_some, hc]
      rfl
    | true =>
      simp only [Bool.true_and, if_true]
      have j1 : ∀ (k : Nat), 4400 ≤ k → qDialDates.j1 k day (if dayB day = true then dateR (dateOf ep cs day) else (0, 0, 0, 2)).2.2.2 false ep cs (if dayB day = true then dateR (dateOf ep cs day) else (0, 0, 0, 2)).1 (if dayB day = true then dateR (dateOf ep cs day) else (0, 0, 0, 2)).2.1 (if dayB day = true then dateR (dateOf ep cs day) else (0, 0, 0, 2)).2.2.1 = some true := by
        intro k hk
        obtain ⟨k, rfl⟩ : ∃ j, k = j + 1 := ⟨k - 1, by omega⟩
        unfold qDialDates.j1
        dsimp only
        rw [if_neg (by decide), rNumber_f, Option.bind_some]
        cases hd : dayB day with
        | false => rfl
        | true =>
          rw [if_pos rfl, if_pos rfl, rDate_f hc k day hd (by omega), Option.bind_some]
          cases dateOf ep cs day with
          | none => rfl
          | some p =>
            obtain ⟨a, b, c⟩ := p
            show (if (true : Bool) = true then (if (0 : Int) = 0 then (if (a == a && (b == b && c == c)) = true then _ else _) else _) else _) = _
            rw [if_pos rfl, if_pos rfl, beq_self_eq_true, beq_self_eq_true, beq_self_eq_true]
            rfl
      unfold qDialDates.j0
      dsimp only
      rw [if_neg (by decide), rCalendar_f _ ep cs h5 (by omega), Option.bind_some, hc, if_pos rfl, rReal_f hc _ y m d (by omega), Option.bind_some]
      cases hr : dateB cs y m d with
      | false =>
        show qDialDates.j1 4999 day _ ((0 : Int) != 0) ep cs _ _ _ = some true
        exact j1 4999 (by omega)
      | true =>
        simp only [if_true]
        rw [rDay_f hc _ y m d hr (by omega), Option.bind_some, if_pos rfl]
        exact j1 4999 (by omega)
  · rw [if_neg (by simpa using h5)]
    rfl
end Go.Proofs.YtnllidgonghckaaGreatDoor.X
namespace Go.Proofs.YtnllidgonghckaaGreatDoor.X
open Go.RowKit Go.Proofs.YtnllidgonghckaaGreatDoorW.PrintWords Go.Proofs.YtnllidgonghckaaGreatDoorW.PrintLast Go.Proofs.YtnllidgonghckaaGreatDoorW.PrintMore
attribute [local go_sem] max2_int min2_int max_two min_two max_three min_three max_four min_four
set_option linter.unusedVariables false
set_option linter.unusedSimpArgs false
attribute [local go_sem high] eqA38
set_option maxHeartbeats 8000000 in
set_option maxRecDepth 100000 in
theorem qDialDates.calls (k : Nat) (a0_0 : Int) (A0_1 : Option Addr) (c0_1 : Nat) (l0_1 : List Int) (a1_0 : Int) (a1_1 : Int) (a1_2 : Int) (a2 : Int) (r : Bool) (w : World) (hT : Tab w) (hr0_1 : Kd.C (Kd.int .i64) w A0_1 l0_1.length l0_1) (hc0_1 : l0_1.length ≤ c0_1) (h : qDialDates.f k a0_0 l0_1 a1_0 a1_1 a1_2 a2 = some r) :
    Calls Tryz.prog 9 #[.agg #[.int .i64 a0_0, .slice A0_1 l0_1.length c0_1], .agg #[.int .i64 a1_0, .int .i64 a1_1, .int .i64 a1_2], .int .i64 a2] w fun e w' => e = .returned (.bool r) ∧ Below w.heap.size w w' := by
  have HT := Aside0.mk hT
  clear hT
  have hu24 := Tryz.underlying24
  have hu38 := Tryz.underlying38
  have HR0_1 := Aside0.mk hr0_1
  have HC0_1 := Aside0.mk hc0_1
  clear hr0_1 hc0_1
  have HB := Aside0.mk (Below.refl w.heap.size w)
  have H : ((qshort.f a0_0 l0_1).bind fun t429 => (if t429 = true then ((dial_Check.f k a0_0 l0_1).bind fun t431 => ((dial_Day.f a0_0 l0_1 a1_0 a1_1 a1_2).bind fun bt432 => ((dial_Date.f a0_0 l0_1 a2).bind fun bt434 => ((qCalendar.f k a0_0 l0_1).bind fun t439 => (if t439 = true then (if t431 = 0 then (qDialDates.j0 k a2 bt432.1 bt432.2 bt434.2.2.2 false a0_0 l0_1 a1_0 a1_1 a1_2 bt434.1 bt434.2.1 bt434.2.2.1) else (qDialDates.j0 k a2 bt432.1 bt432.2 bt434.2.2.2 true a0_0 l0_1 a1_0 a1_1 a1_2 bt434.1 bt434.2.1 bt434.2.2.1)) else (qDialDates.j0 k a2 bt432.1 bt432.2 bt434.2.2.2 (t431 != 2) a0_0 l0_1 a1_0 a1_1 a1_2 bt434.1 bt434.2.1 bt434.2.2.1)))))) else ((tellurionlaw06_known.f).bind fun t430 => (some t430)))) = some r := h
  clear h
  replace H := Option.bind_eq_some_iff.mp H
  obtain ⟨t429, A40, H⟩ := H
  replace H : (if t429 = true then ((dial_Check.f k a0_0 l0_1).bind fun t431 => ((dial_Day.f a0_0 l0_1 a1_0 a1_1 a1_2).bind fun bt432 => ((dial_Date.f a0_0 l0_1 a2).bind fun bt434 => ((qCalendar.f k a0_0 l0_1).bind fun t439 => (if t439 = true then (if t431 = 0 then (qDialDates.j0 k a2 bt432.1 bt432.2 bt434.2.2.2 false a0_0 l0_1 a1_0 a1_1 a1_2 bt434.1 bt434.2.1 bt434.2.2.1) else (qDialDates.j0 k a2 bt432.1 bt432.2 bt434.2.2.2 true a0_0 l0_1 a1_0 a1_1 a1_2 bt434.1 bt434.2.1 bt434.2.2.1)) else (qDialDates.j0 k a2 bt432.1 bt432.2 bt434.2.2.2 (t431 != 2) a0_0 l0_1 a1_0 a1_1 a1_2 bt434.1 bt434.2.1 bt434.2.2.1)))))) else ((tellurionlaw06_known.f).bind fun t430 => (some t430))) = some r := H
  have A4 := Aside0.mk A40
  clear A40
  by_cases c5 : t429 = true
  · subst c5
    have H1 : ((dial_Check.f k a0_0 l0_1).bind fun t431 => ((dial_Day.f a0_0 l0_1 a1_0 a1_1 a1_2).bind fun bt432 => ((dial_Date.f a0_0 l0_1 a2).bind fun bt434 => ((qCalendar.f k a0_0 l0_1).bind fun t439 => (if t439 = true then (if t431 = 0 then (qDialDates.j0 k a2 bt432.1 bt432.2 bt434.2.2.2 false a0_0 l0_1 a1_0 a1_1 a1_2 bt434.1 bt434.2.1 bt434.2.2.1) else (qDialDates.j0 k a2 bt432.1 bt432.2 bt434.2.2.2 true a0_0 l0_1 a1_0 a1_1 a1_2 bt434.1 bt434.2.1 bt434.2.2.1)) else (qDialDates.j0 k a2 bt432.1 bt432.2 bt434.2.2.2 (t431 != 2) a0_0 l0_1 a1_0 a1_1 a1_2 bt434.1 bt434.2.1 bt434.2.2.1)))))) = some r := by rw [if_pos rfl] at H; exact H
    clear H
    have H := H1
    clear H1
    replace H := Option.bind_eq_some_iff.mp H
    obtain ⟨t431, A60, H⟩ := H
    replace H : ((dial_Day.f a0_0 l0_1 a1_0 a1_1 a1_2).bind fun bt432 => ((dial_Date.f a0_0 l0_1 a2).bind fun bt434 => ((qCalendar.f k a0_0 l0_1).bind fun t439 => (if t439 = true then (if t431 = 0 then (qDialDates.j0 k a2 bt432.1 bt432.2 bt434.2.2.2 false a0_0 l0_1 a1_0 a1_1 a1_2 bt434.1 bt434.2.1 bt434.2.2.1) else (qDialDates.j0 k a2 bt432.1 bt432.2 bt434.2.2.2 true a0_0 l0_1 a1_0 a1_1 a1_2 bt434.1 bt434.2.1 bt434.2.2.1)) else (qDialDates.j0 k a2 bt432.1 bt432.2 bt434.2.2.2 (t431 != 2) a0_0 l0_1 a1_0 a1_1 a1_2 bt434.1 bt434.2.1 bt434.2.2.1))))) = some r := H
    have A6 := Aside0.mk A60
    clear A60
    replace H := Option.bind_eq_some_iff.mp H
    obtain ⟨⟨t432, t433⟩, A70, H⟩ := H
    replace H : ((dial_Date.f a0_0 l0_1 a2).bind fun bt434 => ((qCalendar.f k a0_0 l0_1).bind fun t439 => (if t439 = true then (if t431 = 0 then (qDialDates.j0 k a2 t432 t433 bt434.2.2.2 false a0_0 l0_1 a1_0 a1_1 a1_2 bt434.1 bt434.2.1 bt434.2.2.1) else (qDialDates.j0 k a2 t432 t433 bt434.2.2.2 true a0_0 l0_1 a1_0 a1_1 a1_2 bt434.1 bt434.2.1 bt434.2.2.1)) else (qDialDates.j0 k a2 t432 t433 bt434.2.2.2 (t431 != 2) a0_0 l0_1 a1_0 a1_1 a1_2 bt434.1 bt434.2.1 bt434.2.2.1)))) = some r := H
    have A7 := Aside0.mk A70
    clear A70
    replace H := Option.bind_eq_some_iff.mp H
    obtain ⟨⟨t434, t435, t436, t437⟩, A80, H⟩ := H
    replace H : ((qCalendar.f k a0_0 l0_1).bind fun t439 => (if t439 = true then (if t431 = 0 then (qDialDates.j0 k a2 t432 t433 t437 false a0_0 l0_1 a1_0 a1_1 a1_2 t434 t435 t436) else (qDialDates.j0 k a2 t432 t433 t437 true a0_0 l0_1 a1_0 a1_1 a1_2 t434 t435 t436)) else (qDialDates.j0 k a2 t432 t433 t437 (t431 != 2) a0_0 l0_1 a1_0 a1_1 a1_2 t434 t435 t436))) = some r := H
    have A8 := Aside0.mk A80
    clear A80
    replace H := Option.bind_eq_some_iff.mp H
    obtain ⟨t439, A90, H⟩ := H
    replace H : (if t439 = true then (if t431 = 0 then (qDialDates.j0 k a2 t432 t433 t437 false a0_0 l0_1 a1_0 a1_1 a1_2 t434 t435 t436) else (qDialDates.j0 k a2 t432 t433 t437 true a0_0 l0_1 a1_0 a1_1 a1_2 t434 t435 t436)) else (qDialDates.j0 k a2 t432 t433 t437 (t431 != 2) a0_0 l0_1 a1_0 a1_1 a1_2 t434 t435 t436)) = some r := H
    have A9 := Aside0.mk A90
    clear A90
    have HC10 := Aside0.mk H
    clear H
    go_enter Tryz.func9, Tryz.ntmps9
    go_upto_region 7 with (first | ((with_reducible refine zG 3 rfl ?_); refine zBox 3 #[.int .i64 a0_0, .slice A0_1 l0_1.length c0_1] 24 ?_; intro gb427 hg w11 hbox hb; have BK427 := Aside0.mk (hbox); have GW427 := Aside0.mk ((by rw [hg]; exact (below_size zq) : w.heap.size ≤ gb427)); have GE427 := Aside0.mk ((by rw [hg]; exact (below_size zq) : w.heap.size ≤ gb427)); replace HB := Aside0.mk (below_step zq hb); clear hb hbox hg) | ((with_reducible refine zG 4 rfl ?_); refine zBox 4 #[.int .i64 a1_0, .int .i64 a1_1, .int .i64 a1_2] 38 ?_; intro gb428 hg w12 hbox hb; have BK428 := Aside0.mk (hbox); have GW428 := Aside0.mk ((by rw [hg]; exact (below_size zqs) : w.heap.size ≤ gb428)); have GE428 := Aside0.mk ((by rw [hg]; exact (below_size zqs) : w.heap.size ≤ gb428)); replace HB := Aside0.mk (below_step zqs hb); have NB427_428 := znU hg BK427; have NB428_427 := znV hg BK427; replace BK427 := zbN BK427 hb; clear hb hbox hg; have hnb13 := NB427_428.out; have hnc13 := NB428_427.out; have hcz14_0 := zC BK427; have hfz14_0 := zF BK427) | ((with_reducible refine gate_callee (f := 10) rfl ?_); refine zGl (some 17) Tryz.func10 #[.agg #[.int .i64 a0_0, .slice A0_1 l0_1.length c0_1]] ?_; (with_reducible refine (qshort.calls a0_0 _ _ l0_1 true _ ?side1 ?side2 A4.out).mono ?_); (case side1 => repeat (first | exact (Kd.C_below HR0_1.out HB.out) | (with_reducible refine Kd.C_alloc ?_ _) | (with_reducible refine Kd.C_drewN ?_ _) | (with_reducible refine Kd.C_drew ?_))); (case side2 => exact HC0_1.out); rintro e w15 ⟨rfl, hb⟩; refine ⟨_, rfl, ?_⟩; replace BK427 := zbN BK427 hb; replace BK428 := zbN BK428 hb; replace HB := Aside0.mk (below_step zqs hb); (try clear hb); (try clear hb2); (try clear hk); (try clear hi); have hcz16_0 := zC BK427; have hfz16_0 := zF BK427) | ((with_reducible refine gate_callee (f := 28) rfl ?_); refine zGl (some 21) Tryz.func28 #[.agg #[.int .i64 a0_0, .slice A0_1 l0_1.length c0_1]] ?_; (with_reducible refine (dial_Check.calls k a0_0 _ _ l0_1 t431 _ ?side1 ?side2 A6.out).mono ?_); (case side1 => repeat (first | exact (Kd.C_below HR0_1.out HB.out) | (with_reducible refine Kd.C_alloc ?_ _) | (with_reducible refine Kd.C_drewN ?_ _) | (with_reducible refine Kd.C_drew ?_))); (case side2 => exact HC0_1.out); rintro e w17 ⟨rfl, hb⟩; refine ⟨_, rfl, ?_⟩; replace BK427 := zbN BK427 hb; replace BK428 := zbN BK428 hb; replace HB := Aside0.mk (below_step zqs hb); (try clear hb); (try clear hb2); (try clear hk); (try clear hi); have hcz18_0 := zC BK427; have hfz18_0 := zF BK427; have hcz19_0 := zC BK428; have hfz19_0 := zF BK428) | ((with_reducible refine gate_callee (f := 19) rfl ?_); refine zGl (some 25) Tryz.func19 #[.agg #[.int .i64 a0_0, .slice A0_1 l0_1.length c0_1], .agg #[.int .i64 a1_0, .int .i64 a1_1, .int .i64 a1_2]] ?_; (with_reducible refine (dial_Day.calls a0_0 _ _ l0_1 a1_0 a1_1 a1_2 t432 t433 _ ?side1 ?side2 A7.out).mono ?_); (case side1 => repeat (first | exact (Kd.C_below HR0_1.out HB.out) | (with_reducible refine Kd.C_alloc ?_ _) | (with_reducible refine Kd.C_drewN ?_ _) | (with_reducible refine Kd.C_drew ?_))); (case side2 => exact HC0_1.out); rintro e w20 ⟨rfl, hb⟩; refine ⟨_, rfl, ?_⟩; replace BK427 := zbN BK427 hb; replace BK428 := zbN BK428 hb; replace HB := Aside0.mk (below_step zqs hb); (try clear hb); (try clear hb2); (try clear hk); (try clear hi); have hcz21_0 := zC BK427; have hfz21_0 := zF BK427) | ((with_reducible refine gate_callee (f := 26) rfl ?_); refine zGl (some 31) Tryz.func26 #[.agg #[.int .i64 a0_0, .slice A0_1 l0_1.length c0_1], .int .i64 a2] ?_; (with_reducible refine (dial_Date.calls a0_0 _ _ l0_1 a2 t434 t435 t436 t437 _ ?side1 ?side2 A8.out).mono ?_); (case side1 => repeat (first | exact (Kd.C_below HR0_1.out HB.out) | (with_reducible refine Kd.C_alloc ?_ _) | (with_reducible refine Kd.C_drewN ?_ _) | (with_reducible refine Kd.C_drew ?_))); (case side2 => exact HC0_1.out); rintro e w22 ⟨rfl, hb⟩; refine ⟨_, rfl, ?_⟩; replace BK427 := zbN BK427 hb; replace BK428 := zbN BK428 hb; replace HB := Aside0.mk (below_step zqs hb); (try clear hb); (try clear hb2); (try clear hk); (try clear hi)) | ((with_reducible refine zG 10 rfl ?_); refine zBox 10 #[.int .i64 0, .int .i64 0, .int .i64 0] 38 ?_; intro gb438 hg w23 hbox hb; have BK438 := Aside0.mk (hbox); have GW438 := Aside0.mk ((by rw [hg]; exact (below_size zqs) : w.heap.size ≤ gb438)); have GE438 := Aside0.mk ((by rw [hg]; exact (below_size zqs) : w.heap.size ≤ gb438)); replace HB := Aside0.mk (below_step zqs hb); have NB427_438 := znU hg BK427; have NB438_427 := znV hg BK427; replace BK427 := zbN BK427 hb; have NB428_438 := znU hg BK428; have NB438_428 := znV hg BK428; replace BK428 := zbN BK428 hb; clear hb hbox hg; have hnb24 := NB438_427.out; have hnc24 := NB427_438.out; have hnb25 := NB438_428.out; have hnc25 := NB428_438.out; have hcz26_0 := zC BK438; have hfz26_0 := zF BK438; have hcz27_0 := zC BK427; have hfz27_0 := zF BK427) | ((with_reducible refine gate_callee (f := 14) rfl ?_); refine zGl (some 35) Tryz.func14 #[.agg #[.int .i64 a0_0, .slice A0_1 l0_1.length c0_1]] ?_; (with_reducible refine (qCalendar.calls k a0_0 _ _ l0_1 t439 _ ?side1 ?side2 A9.out).mono ?_); (case side1 => exact Kd.C_below HR0_1.out zqs); (case side2 => exact HC0_1.out); rintro e w28 ⟨rfl, hb⟩; refine ⟨_, rfl, ?_⟩; replace BK427 := Aside0.mk (blk_below (g := gb427) (o := .cells #[.int .i64 a0_0, .slice A0_1 l0_1.length c0_1] 24 (0, 0)) (by (with_reducible repeat (first | refine blk_drewN ?_ _ | refine blk_drew ?_ | refine blk_alloc ?_ _)); refine blk_far ?_ NB427_438.out _; (with_reducible repeat (first | refine blk_drewN ?_ _ | refine blk_drew ?_ | refine blk_alloc ?_ _)); refine blk_far ?_ NB427_438.out _; (with_reducible repeat (first | refine blk_drewN ?_ _ | refine blk_drew ?_ | refine blk_alloc ?_ _)); refine blk_far ?_ NB427_438.out _; (with_reducible repeat (first | refine blk_drewN ?_ _ | refine blk_drew ?_ | refine blk_alloc ?_ _)); exact BK427.out) hb); replace BK428 := Aside0.mk (blk_below (g := gb428) (o := .cells #[.int .i64 a1_0, .int .i64 a1_1, .int .i64 a1_2] 38 (0, 0)) (by (with_reducible repeat (first | refine blk_drewN ?_ _ | refine blk_drew ?_ | refine blk_alloc ?_ _)); refine blk_far ?_ NB428_438.out _; (with_reducible repeat (first | refine blk_drewN ?_ _ | refine blk_drew ?_ | refine blk_alloc ?_ _)); refine blk_far ?_ NB428_438.out _; (with_reducible repeat (first | refine blk_drewN ?_ _ | refine blk_drew ?_ | refine blk_alloc ?_ _)); refine blk_far ?_ NB428_438.out _; (with_reducible repeat (first | refine blk_drewN ?_ _ | refine blk_drew ?_ | refine blk_alloc ?_ _)); exact BK428.out) hb); replace BK438 := Aside0.mk (blk_below (g := gb438) (o := .cells #[.int .i64 t434, .int .i64 t435, .int .i64 t436] 38 (0, 0)) (by (with_reducible repeat (first | refine blk_drewN ?_ _ | refine blk_drew ?_ | refine blk_alloc ?_ _)); refine blk_put (cs := #[.int .i64 t434, .int .i64 t435, .int .i64 0]) ?_ 2 _ rfl; (with_reducible repeat (first | refine blk_drewN ?_ _ | refine blk_drew ?_ | refine blk_alloc ?_ _)); refine blk_put (cs := #[.int .i64 t434, .int .i64 0, .int .i64 0]) ?_ 1 _ rfl; (with_reducible repeat (first | refine blk_drewN ?_ _ | refine blk_drew ?_ | refine blk_alloc ?_ _)); refine blk_put (cs := #[.int .i64 0, .int .i64 0, .int .i64 0]) ?_ 0 _ rfl; (with_reducible repeat (first | refine blk_drewN ?_ _ | refine blk_drew ?_ | refine blk_alloc ?_ _)); exact BK438.out) hb); replace HB := Aside0.mk (below_step zqs hb); (try clear hb); (try clear hb2); (try clear hk); (try clear hi)))
    (try simp only [Act.put, List.setIfInBounds_toArray, List.set_cons_zero, List.set_cons_succ])
    go_cut [48] (fun v48 wc => ∃ (kq : Nat) (x48_9 : Bool), v48 = .bool x48_9 ∧ Aside0 (qDialDates.j0 kq a2 t432 t433 t437 x48_9 a0_0 l0_1 a1_0 a1_1 a1_2 t434 t435 t436 = some r) ∧ Aside0 (kq ≤ k) ∧ Aside0 (wc.heap[gb427]? = some (.cells #[.int .i64 a0_0, (.slice A0_1 l0_1.length c0_1)] 24 (0, 0))) ∧ Aside0 (wc.heap[gb428]? = some (.cells #[.int .i64 a1_0, .int .i64 a1_1, .int .i64 a1_2] 38 (0, 0))) ∧ Aside0 (wc.heap[gb438]? = some (.cells #[.int .i64 t434, .int .i64 t435, .int .i64 t436] 38 (0, 0))) ∧ Aside0 (Below w.heap.size w wc))
    case first =>
      have H := HC10.out
      clear HC10
      by_cases c29 : t439 = true
      · subst c29
        have H1 : (if t431 = 0 then (qDialDates.j0 k a2 t432 t433 t437 false a0_0 l0_1 a1_0 a1_1 a1_2 t434 t435 t436) else (qDialDates.j0 k a2 t432 t433 t437 true a0_0 l0_1 a1_0 a1_1 a1_2 t434 t435 t436)) = some r := by rw [if_pos rfl] at H; exact H
        clear H
        have H := H1
        clear H1
        by_cases c30 : t431 = 0
        · rw [if_pos c30] at H
          have c30b0 : (t431 == 0) = true := beq_iff_eq.mpr c30
          have c30b1 : (t431 != 0) = false := bne_eq_false_iff_eq.mpr c30
          clear c30
          (first | rw [c30b0] | (simp only [i64_w]; rw [c30b0]) | skip)
          have H' := Aside0.mk H
          clear H
          go_wp2
          go_meet
          case rel => exact ⟨_, (false), zz, H', ⟨by first | omega | exact Nat.le_refl _⟩, ⟨zh BK427⟩, ⟨zh BK428⟩, ⟨zh BK438⟩, ⟨zqs⟩⟩
        · rw [if_neg c30] at H
          have c30b0 : (t431 == 0) = false := beq_eq_false_iff_ne.mpr c30
          have c30b1 : (t431 != 0) = true := bne_iff_ne.mpr c30
          (first | rw [c30b0] | (simp only [i64_w]; rw [c30b0]) | skip)
          have H' := Aside0.mk H
          clear H
          go_wp2
          go_meet
          case rel => exact ⟨_, (true), zz, H', ⟨by first | omega | exact Nat.le_refl _⟩, ⟨zh BK427⟩, ⟨zh BK428⟩, ⟨zh BK438⟩, ⟨zqs⟩⟩
      · replace c29 := Bool.eq_false_iff.mpr c29
        subst c29
        have H1 : (qDialDates.j0 k a2 t432 t433 t437 (t431 != 2) a0_0 l0_1 a1_0 a1_1 a1_2 t434 t435 t436) = some r := by rw [if_neg (show ¬ (false = true) by decide)] at H; exact H
        clear H
        have H := H1
        clear H1
        have H' := Aside0.mk H
        clear H
        go_wp2
        go_meet
        case rel => exact ⟨_, ((t431 != 2)), zz, H', ⟨by first | omega | exact Nat.le_refl _⟩, ⟨zh BK427⟩, ⟨zh BK428⟩, ⟨zh BK438⟩, ⟨zqs⟩⟩
    case rest =>
      clear HC10
      try clear c1
      try clear c2
      try clear p2
      try clear c3
      try clear c5
      try clear c9
      try clear c10
      try clear c13
      try clear c14
      try clear c19
      try clear c24
      try clear c25
      try clear c26
      try clear c28
      try clear c29
      try clear c30
      try clear c30b0
      try clear c30b1
      try clear hcz14_0
      try clear hcz16_0
      try clear hcz18_0
      try clear hcz19_0
      try clear hcz21_0
      try clear hcz26_0
      try clear hcz27_0
      try clear hfz14_0
      try clear hfz16_0
      try clear hfz18_0
      try clear hfz19_0
      try clear hfz21_0
      try clear hfz26_0
      try clear hfz27_0
      obtain ⟨kq, x48_9, rfl, HA, HJ9, BK427, BK428, BK438, HB⟩ := hcut
      cases kq with
      | zero => exact absurd HA.out (by simp [qDialDates.j0])
      | succ kj9 =>
        have H := HA.out
        clear HA
        simp only [qDialDates.j0] at H
        by_cases c31 : x48_9 = true
        · subst c31
          have H1 : (none) = some r := by rw [if_pos rfl] at H; exact H
          clear H
          have H := H1
          clear H1
          exact absurd H (by simp)
        · replace c31 := Bool.eq_false_iff.mpr c31
          subst c31
          have H1 : ((qCalendar.f kj9 a0_0 l0_1).bind fun t440 => (if t440 = true then ((qReal.f kj9 a0_0 l0_1 a1_0 a1_1 a1_2).bind fun t442 => (if t442 = true then (if t433 = 0 then ((qDay.f kj9 a0_0 l0_1 a1_0 a1_1 a1_2).bind fun t443 => (if t432 = t443 then (qDialDates.j1 kj9 a2 t437 false a0_0 l0_1 t434 t435 t436) else (qDialDates.j1 kj9 a2 t437 true a0_0 l0_1 t434 t435 t436))) else (qDialDates.j1 kj9 a2 t437 true a0_0 l0_1 t434 t435 t436)) else (if t433 = 2 then (qDialDates.j1 kj9 a2 t437 (t432 != 0) a0_0 l0_1 t434 t435 t436) else (qDialDates.j1 kj9 a2 t437 true a0_0 l0_1 t434 t435 t436)))) else (if t433 = 2 then (if t432 = 0 then (if t437 = 2 then (if (t434 == 0 && (t435 == 0 && (t436 == 0))) = true then ((tellurionlaw06_known.f).bind fun t441 => (some t441)) else (none)) else (none)) else (none)) else (none)))) = some r := by rw [if_neg (show ¬ (false = true) by decide)] at H; exact H
          clear H
          have H := H1
          clear H1
          replace H := Option.bind_eq_some_iff.mp H
          obtain ⟨t440, A320, H⟩ := H
          replace H : (if t440 = true then ((qReal.f kj9 a0_0 l0_1 a1_0 a1_1 a1_2).bind fun t442 => (if t442 = true then (if t433 = 0 then ((qDay.f kj9 a0_0 l0_1 a1_0 a1_1 a1_2).bind fun t443 => (if t432 = t443 then (qDialDates.j1 kj9 a2 t437 false a0_0 l0_1 t434 t435 t436) else (qDialDates.j1 kj9 a2 t437 true a0_0 l0_1 t434 t435 t436))) else (qDialDates.j1 kj9 a2 t437 true a0_0 l0_1 t434 t435 t436)) else (if t433 = 2 then (qDialDates.j1 kj9 a2 t437 (t432 != 0) a0_0 l0_1 t434 t435 t436) else (qDialDates.j1 kj9 a2 t437 true a0_0 l0_1 t434 t435 t436)))) else (if t433 = 2 then (if t432 = 0 then (if t437 = 2 then (if (t434 == 0 && (t435 == 0 && (t436 == 0))) = true then ((tellurionlaw06_known.f).bind fun t441 => (some t441)) else (none)) else (none)) else (none)) else (none))) = some r := H
          have A32 := Aside0.mk A320
          clear A320
          by_cases c33 : t440 = true
          · subst c33
            have H1 : ((qReal.f kj9 a0_0 l0_1 a1_0 a1_1 a1_2).bind fun t442 => (if t442 = true then (if t433 = 0 then ((qDay.f kj9 a0_0 l0_1 a1_0 a1_1 a1_2).bind fun t443 => (if t432 = t443 then (qDialDates.j1 kj9 a2 t437 false a0_0 l0_1 t434 t435 t436) else (qDialDates.j1 kj9 a2 t437 true a0_0 l0_1 t434 t435 t436))) else (qDialDates.j1 kj9 a2 t437 true a0_0 l0_1 t434 t435 t436)) else (if t433 = 2 then (qDialDates.j1 kj9 a2 t437 (t432 != 0) a0_0 l0_1 t434 t435 t436) else (qDialDates.j1 kj9 a2 t437 true a0_0 l0_1 t434 t435 t436)))) = some r := by rw [if_pos rfl] at H; exact H
            clear H
            have H := H1
            clear H1
            replace H := Option.bind_eq_some_iff.mp H
            obtain ⟨t442, A340, H⟩ := H
            replace H : (if t442 = true then (if t433 = 0 then ((qDay.f kj9 a0_0 l0_1 a1_0 a1_1 a1_2).bind fun t443 => (if t432 = t443 then (qDialDates.j1 kj9 a2 t437 false a0_0 l0_1 t434 t435 t436) else (qDialDates.j1 kj9 a2 t437 true a0_0 l0_1 t434 t435 t436))) else (qDialDates.j1 kj9 a2 t437 true a0_0 l0_1 t434 t435 t436)) else (if t433 = 2 then (qDialDates.j1 kj9 a2 t437 (t432 != 0) a0_0 l0_1 t434 t435 t436) else (qDialDates.j1 kj9 a2 t437 true a0_0 l0_1 t434 t435 t436))) = some r := H
            have A34 := Aside0.mk A340
            clear A340
            have HC35 := Aside0.mk H
            clear H
            have hnb36 := NB427_428.out
            have hnc36 := NB428_427.out
            have hnb37 := NB427_438.out
            have hnc37 := NB438_427.out
            have hcz38_0 := zC BK427
            have hfz38_0 := zF BK427
            go_upto_region 12 with (first | ((with_reducible refine gate_callee (f := 14) rfl ?_); refine zGl (some 50) Tryz.func14 #[.agg #[.int .i64 a0_0, .slice A0_1 l0_1.length c0_1]] ?_; (with_reducible refine (qCalendar.calls kj9 a0_0 _ _ l0_1 true _ ?side1 ?side2 A32.out).mono ?_); (case side1 => repeat (first | exact (Kd.C_below HR0_1.out HB.out) | (with_reducible refine Kd.C_alloc ?_ _) | (with_reducible refine Kd.C_drewN ?_ _) | (with_reducible refine Kd.C_drew ?_))); (case side2 => exact HC0_1.out); rintro e w39 ⟨rfl, hb⟩; refine ⟨_, rfl, ?_⟩; replace BK427 := zbN BK427 hb; replace BK428 := zbN BK428 hb; replace BK438 := zbN BK438 hb; replace HB := Aside0.mk (below_step zqs hb); (try clear hb); (try clear hb2); (try clear hk); (try clear hi); have hcz40_0 := zC BK427; have hfz40_0 := zF BK427; have hnb41 := NB428_438.out; have hnc41 := NB438_428.out; have hcz42_0 := zC BK428; have hfz42_0 := zF BK428) | ((with_reducible refine gate_callee (f := 18) rfl ?_); refine zGl (some 72) Tryz.func18 #[.agg #[.int .i64 a0_0, .slice A0_1 l0_1.length c0_1], .agg #[.int .i64 a1_0, .int .i64 a1_1, .int .i64 a1_2]] ?_; (with_reducible refine (qReal.calls kj9 a0_0 _ _ l0_1 a1_0 a1_1 a1_2 t442 _ ?side1 ?side2 A34.out).mono ?_); (case side1 => repeat (first | exact (Kd.C_below HR0_1.out HB.out) | (with_reducible refine Kd.C_alloc ?_ _) | (with_reducible refine Kd.C_drewN ?_ _) | (with_reducible refine Kd.C_drew ?_))); (case side2 => exact HC0_1.out); rintro e w43 ⟨rfl, hb⟩; refine ⟨_, rfl, ?_⟩; replace BK427 := zbN BK427 hb; replace BK428 := zbN BK428 hb; replace BK438 := zbN BK438 hb; replace HB := Aside0.mk (below_step zqs hb); (try clear hb); (try clear hb2); (try clear hk); (try clear hi)))
            (try simp only [Act.put, List.setIfInBounds_toArray, List.set_cons_zero, List.set_cons_succ])
            go_cut [96] (fun v96 wc => ∃ (kq : Nat) (x96_34 : Bool), v96 = .bool x96_34 ∧ Aside0 (qDialDates.j1 kq a2 t437 x96_34 a0_0 l0_1 t434 t435 t436 = some r) ∧ Aside0 (kq ≤ kj9) ∧ Aside0 (wc.heap[gb427]? = some (.cells #[.int .i64 a0_0, (.slice A0_1 l0_1.length c0_1)] 24 (0, 0))) ∧ Aside0 (wc.heap[gb428]? = some (.cells #[.int .i64 a1_0, .int .i64 a1_1, .int .i64 a1_2] 38 (0, 0))) ∧ Aside0 (wc.heap[gb438]? = some (.cells #[.int .i64 t434, .int .i64 t435, .int .i64 t436] 38 (0, 0))) ∧ Aside0 (Below w.heap.size w wc))
            case first =>
              have H := HC35.out
              clear HC35
              by_cases c44 : t442 = true
              · subst c44
                have H1 : (if t433 = 0 then ((qDay.f kj9 a0_0 l0_1 a1_0 a1_1 a1_2).bind fun t443 => (if t432 = t443 then (qDialDates.j1 kj9 a2 t437 false a0_0 l0_1 t434 t435 t436) else (qDialDates.j1 kj9 a2 t437 true a0_0 l0_1 t434 t435 t436))) else (qDialDates.j1 kj9 a2 t437 true a0_0 l0_1 t434 t435 t436)) = some r := by rw [if_pos rfl] at H; exact H
                clear H
                have H := H1
                clear H1
                by_cases c45 : t433 = 0
                · rw [if_pos c45] at H
                  have c45b0 : (t433 == 0) = true := beq_iff_eq.mpr c45
                  have c45b1 : (t433 != 0) = false := bne_eq_false_iff_eq.mpr c45
                  clear c45
                  (first | rw [c45b0] | (simp only [i64_w]; rw [c45b0]) | skip)
                  replace H := Option.bind_eq_some_iff.mp H
                  obtain ⟨t443, A460, H⟩ := H
                  replace H : (if t432 = t443 then (qDialDates.j1 kj9 a2 t437 false a0_0 l0_1 t434 t435 t436) else (qDialDates.j1 kj9 a2 t437 true a0_0 l0_1 t434 t435 t436)) = some r := H
                  have A46 := Aside0.mk A460
                  clear A460
                  by_cases c47 : t432 = t443
                  · rw [if_pos c47] at H
                    have c47b0 : (t432 == t443) = true := beq_iff_eq.mpr c47
                    have c47b1 : (t432 != t443) = false := bne_eq_false_iff_eq.mpr c47
                    clear c47
                    have H' := Aside0.mk H
                    clear H
                    have hnb48 := NB427_428.out
                    have hnc48 := NB428_427.out
                    have hnb49 := NB427_438.out
                    have hnc49 := NB438_427.out
                    have hcz50_0 := zC BK427
                    have hfz50_0 := zF BK427
                    have hnb51 := NB428_438.out
                    have hnc51 := NB438_428.out
                    have hcz52_0 := zC BK428
                    have hfz52_0 := zF BK428
                    go_wp2_with (first | (go_at_call 29; (with_reducible refine (qDay.calls kj9 a0_0 _ _ l0_1 a1_0 a1_1 a1_2 t443 _ ?side1 ?side2 A46.out).mono ?_); (case side1 => repeat (first | exact (Kd.C_below HR0_1.out HB.out) | (with_reducible refine Kd.C_alloc ?_ _) | (with_reducible refine Kd.C_drewN ?_ _) | (with_reducible refine Kd.C_drew ?_))); (case side2 => exact HC0_1.out); rintro e w53 ⟨rfl, hb⟩; replace BK427 := zbN BK427 hb; replace BK428 := zbN BK428 hb; replace BK438 := zbN BK438 hb; replace HB := Aside0.mk (below_step zqs hb); (try clear hb); (try clear hb2); (try clear hk); (try clear hi)))
                    go_meet
                    case rel => exact ⟨_, (false), zz, H', ⟨by have := HJ9.out; first | omega | exact Nat.le_refl _⟩, ⟨zh BK427⟩, ⟨zh BK428⟩, ⟨zh BK438⟩, ⟨zqs⟩⟩
                  · rw [if_neg c47] at H
                    have c47b0 : (t432 == t443) = false := beq_eq_false_iff_ne.mpr c47
                    have c47b1 : (t432 != t443) = true := bne_iff_ne.mpr c47
                    have H' := Aside0.mk H
                    clear H
                    have hnb54 := NB427_428.out
                    have hnc54 := NB428_427.out
                    have hnb55 := NB427_438.out
                    have hnc55 := NB438_427.out
                    have hcz56_0 := zC BK427
                    have hfz56_0 := zF BK427
                    have hnb57 := NB428_438.out
                    have hnc57 := NB438_428.out
                    have hcz58_0 := zC BK428
                    have hfz58_0 := zF BK428
                    go_wp2_with (first | (go_at_call 29; (with_reducible refine (qDay.calls kj9 a0_0 _ _ l0_1 a1_0 a1_1 a1_2 t443 _ ?side1 ?side2 A46.out).mono ?_); (case side1 => repeat (first | exact (Kd.C_below HR0_1.out HB.out) | (with_reducible refine Kd.C_alloc ?_ _) | (with_reducible refine Kd.C_drewN ?_ _) | (with_reducible refine Kd.C_drew ?_))); (case side2 => exact HC0_1.out); rintro e w59 ⟨rfl, hb⟩; replace BK427 := zbN BK427 hb; replace BK428 := zbN BK428 hb; replace BK438 := zbN BK438 hb; replace HB := Aside0.mk (below_step zqs hb); (try clear hb); (try clear hb2); (try clear hk); (try clear hi)))
                    go_meet
                    case rel => exact ⟨_, (true), zz, H', ⟨by have := HJ9.out; first | omega | exact Nat.le_refl _⟩, ⟨zh BK427⟩, ⟨zh BK428⟩, ⟨zh BK438⟩, ⟨zqs⟩⟩
                · rw [if_neg c45] at H
                  have c45b0 : (t433 == 0) = false := beq_eq_false_iff_ne.mpr c45
                  have c45b1 : (t433 != 0) = true := bne_iff_ne.mpr c45
                  (first | rw [c45b0] | (simp only [i64_w]; rw [c45b0]) | skip)
                  have H' := Aside0.mk H
                  clear H
                  go_wp2
                  go_meet
                  case rel => exact ⟨_, (true), zz, H', ⟨by have := HJ9.out; first | omega | exact Nat.le_refl _⟩, ⟨zh BK427⟩, ⟨zh BK428⟩, ⟨zh BK438⟩, ⟨zqs⟩⟩
              · replace c44 := Bool.eq_false_iff.mpr c44
                subst c44
                have H1 : (if t433 = 2 then (qDialDates.j1 kj9 a2 t437 (t432 != 0) a0_0 l0_1 t434 t435 t436) else (qDialDates.j1 kj9 a2 t437 true a0_0 l0_1 t434 t435 t436)) = some r := by rw [if_neg (show ¬ (false = true) by decide)] at H; exact H
                clear H
                have H := H1
                clear H1
                by_cases c60 : t433 = 2
                · rw [if_pos c60] at H
                  have c60b0 : (t433 == 2) = true := beq_iff_eq.mpr c60
                  have c60b1 : (t433 != 2) = false := bne_eq_false_iff_eq.mpr c60
                  clear c60
                  have H' := Aside0.mk H
                  clear H
                  go_wp2
                  go_meet
                  case rel => exact ⟨_, ((t432 != 0)), zz, H', ⟨by have := HJ9.out; first | omega | exact Nat.le_refl _⟩, ⟨zh BK427⟩, ⟨zh BK428⟩, ⟨zh BK438⟩, ⟨zqs⟩⟩
                · rw [if_neg c60] at H
                  have c60b0 : (t433 == 2) = false := beq_eq_false_iff_ne.mpr c60
                  have c60b1 : (t433 != 2) = true := bne_iff_ne.mpr c60
                  have H' := Aside0.mk H
                  clear H
                  go_wp2
                  go_meet
                  case rel => exact ⟨_, (true), zz, H', ⟨by have := HJ9.out; first | omega | exact Nat.le_refl _⟩, ⟨zh BK427⟩, ⟨zh BK428⟩, ⟨zh BK438⟩, ⟨zqs⟩⟩
            case rest =>
              clear HC35
              try clear c1
              try clear c2
              try clear p2
              try clear c3
              try clear c4
              try clear c5
              try clear c6
              try clear c9
              try clear c10
              try clear c13
              try clear c14
              try clear c18
              try clear c19
              try clear c24
              try clear c25
              try clear c26
              try clear c28
              try clear c29
              try clear c30
              try clear c30b0
              try clear c30b1
              try clear c31
              try clear c33
              try clear c36
              try clear c37
              try clear c41
              try clear c44
              try clear c45
              try clear c45b0
              try clear c45b1
              try clear c47
              try clear c47b0
              try clear c47b1
              try clear c48
              try clear c49
              try clear c51
              try clear c54
              try clear c55
              try clear c57
              try clear c60
              try clear c60b0
              try clear c60b1
              try clear hcz14_0
              try clear hcz16_0
              try clear hcz18_0
              try clear hcz19_0
              try clear hcz21_0
              try clear hcz26_0
              try clear hcz27_0
              try clear hcz38_0
              try clear hcz40_0
              try clear hcz42_0
              try clear hcz50_0
              try clear hcz52_0
              try clear hcz56_0
              try clear hcz58_0
              try clear hfz14_0
              try clear hfz16_0
              try clear hfz18_0
              try clear hfz19_0
              try clear hfz21_0
              try clear hfz26_0
              try clear hfz27_0
              try clear hfz38_0
              try clear hfz40_0
              try clear hfz42_0
              try clear hfz50_0
              try clear hfz52_0
              try clear hfz56_0
              try clear hfz58_0
              try clear p2
              obtain ⟨kq, x96_34, rfl, HA, HJ34, BK427, BK428, BK438, HB⟩ := hcut
              cases kq with
              | zero => exact absurd HA.out (by simp [qDialDates.j1])
              | succ kj34 =>
                have H := HA.out
                clear HA
                simp only [qDialDates.j1] at H
                by_cases c61 : x96_34 = true
                · subst c61
                  have H1 : (none) = some r := by rw [if_pos rfl] at H; exact H
                  clear H
                  have H := H1
                  clear H1
                  exact absurd H (by simp)
                · replace c61 := Bool.eq_false_iff.mpr c61
                  subst c61
                  have H1 : ((qNumber.f a2).bind fun t444 => (if t444 = true then ((qDate.f kj34 a0_0 l0_1 a2).bind fun bt446 => (if bt446.2.2.2 = true then (if t437 = 0 then (if (t434 == bt446.1 && (t435 == bt446.2.1 && (t436 == bt446.2.2.1))) = true then ((tellurionlaw06_known.f).bind fun t451 => (some t451)) else (none)) else (none)) else (if t437 = 5 then (if (t434 == 0 && (t435 == 0 && (t436 == 0))) = true then ((tellurionlaw06_known.f).bind fun t452 => (some t452)) else (none)) else (none)))) else (if t437 = 2 then (if (t434 == 0 && (t435 == 0 && (t436 == 0))) = true then ((tellurionlaw06_known.f).bind fun t445 => (some t445)) else (none)) else (none)))) = some r := by rw [if_neg (show ¬ (false = true) by decide)] at H; exact H
                  clear H
                  have H := H1
                  clear H1
                  replace H := Option.bind_eq_some_iff.mp H
                  obtain ⟨t444, A620, H⟩ := H
                  replace H : (if t444 = true then ((qDate.f kj34 a0_0 l0_1 a2).bind fun bt446 => (if bt446.2.2.2 = true then (if t437 = 0 then (if (t434 == bt446.1 && (t435 == bt446.2.1 && (t436 == bt446.2.2.1))) = true then ((tellurionlaw06_known.f).bind fun t451 => (some t451)) else (none)) else (none)) else (if t437 = 5 then (if (t434 == 0 && (t435 == 0 && (t436 == 0))) = true then ((tellurionlaw06_known.f).bind fun t452 => (some t452)) else (none)) else (none)))) else (if t437 = 2 then (if (t434 == 0 && (t435 == 0 && (t436 == 0))) = true then ((tellurionlaw06_known.f).bind fun t445 => (some t445)) else (none)) else (none))) = some r := H
                  have A62 := Aside0.mk A620
                  clear A620
                  by_cases c63 : t444 = true
                  · subst c63
                    have H1 : ((qDate.f kj34 a0_0 l0_1 a2).bind fun bt446 => (if bt446.2.2.2 = true then (if t437 = 0 then (if (t434 == bt446.1 && (t435 == bt446.2.1 && (t436 == bt446.2.2.1))) = true then ((tellurionlaw06_known.f).bind fun t451 => (some t451)) else (none)) else (none)) else (if t437 = 5 then (if (t434 == 0 && (t435 == 0 && (t436 == 0))) = true then ((tellurionlaw06_known.f).bind fun t452 => (some t452)) else (none)) else (none)))) = some r := by rw [if_pos rfl] at H; exact H
                    clear H
                    have H := H1
                    clear H1
                    replace H := Option.bind_eq_some_iff.mp H
                    obtain ⟨⟨t446, t447, t448, t449⟩, A640, H⟩ := H
                    replace H : (if t449 = true then (if t437 = 0 then (if (t434 == t446 && (t435 == t447 && (t436 == t448))) = true then ((tellurionlaw06_known.f).bind fun t451 => (some t451)) else (none)) else (none)) else (if t437 = 5 then (if (t434 == 0 && (t435 == 0 && (t436 == 0))) = true then ((tellurionlaw06_known.f).bind fun t452 => (some t452)) else (none)) else (none))) = some r := H
                    have A64 := Aside0.mk A640
                    clear A640
                    by_cases c65 : t449 = true
                    · subst c65
                      have H1 : (if t437 = 0 then (if (t434 == t446 && (t435 == t447 && (t436 == t448))) = true then ((tellurionlaw06_known.f).bind fun t451 => (some t451)) else (none)) else (none)) = some r := by rw [if_pos rfl] at H; exact H
                      clear H
                      have H := H1
                      clear H1
                      by_cases c66 : t437 = 0
                      · rw [if_pos c66] at H
                        have c66b0 : (t437 == 0) = true := beq_iff_eq.mpr c66
                        have c66b1 : (t437 != 0) = false := bne_eq_false_iff_eq.mpr c66
                        clear c66
                        by_cases c67 : (t434 == t446 && (t435 == t447 && (t436 == t448))) = true
                        · rw [if_pos c67] at H
                          have c67b0 : (t434 == t446 && (t435 == t447 && (t436 == t448))) = true := c67
                          (try (have c67b1 : decide (t434 = t446 && (t435 == t447 && (t436 == t448))) = true := by simpa using c67))
                          (try (have c67b2 : (t434 == t446 && (t435 == t447 && (t436 == t448))) = true := by simpa using c67))
                          clear c67
                          replace H := Option.bind_eq_some_iff.mp H
                          obtain ⟨t451, A680, H⟩ := H
                          replace H : (some t451) = some r := H
                          have A68 := Aside0.mk A680
                          clear A680
                          obtain rfl := Option.some.inj H
                          go_wp2_with (first | ((with_reducible refine gate_callee (f := 24) rfl ?_); refine zGl (some 98) Tryz.func24 #[.int .i64 a2] ?_; (with_reducible refine (qNumber.calls a2 true _ A62.out).mono ?_); rintro e w' ⟨rfl, ⟨nd, rfl⟩⟩; refine ⟨_, rfl, ?_⟩; (try (rw [drewN_self wc]; generalize hq_ : World.drewN wc _ = wc; have n0_ : Aside0 (wc.heap[gb427]? = some (.cells #[.int .i64 a0_0, .slice A0_1 l0_1.length c0_1] 24 (0, 0))) := ⟨by rw [← hq_]; exact (zh BK427)⟩; have n1_ : Aside0 (wc.heap[gb428]? = some (.cells #[.int .i64 a1_0, .int .i64 a1_1, .int .i64 a1_2] 38 (0, 0))) := ⟨by rw [← hq_]; exact (zh BK428)⟩; have n2_ : Aside0 (wc.heap[gb438]? = some (.cells #[.int .i64 t434, .int .i64 t435, .int .i64 t436] 38 (0, 0))) := ⟨by rw [← hq_]; exact (zh BK438)⟩; have n3_ : Aside0 (Below w.heap.size w wc) := ⟨by rw [← hq_]; exact zqs⟩; clear BK427 BK428 BK438 HB hq_; have BK427 := n0_; have BK428 := n1_; have BK438 := n2_; have HB := n3_; clear n0_ n1_ n2_ n3_)); have hnb69 := NB427_428.out; have hnc69 := NB428_427.out; have hnb70 := NB427_438.out; have hnc70 := NB438_427.out; have hcz71_0 := zC BK427; have hfz71_0 := zF BK427) | ((with_reducible refine gate_callee (f := 30) rfl ?_); refine zGl (some 113) Tryz.func30 #[.agg #[.int .i64 a0_0, .slice A0_1 l0_1.length c0_1], .int .i64 a2] ?_; (with_reducible refine (qDate.calls kj34 a0_0 _ _ l0_1 a2 t446 t447 t448 true _ ?side1 ?side2 A64.out).mono ?_); (case side1 => repeat (first | exact (Kd.C_below HR0_1.out HB.out) | (with_reducible refine Kd.C_alloc ?_ _) | (with_reducible refine Kd.C_drewN ?_ _) | (with_reducible refine Kd.C_drew ?_))); (case side2 => exact HC0_1.out); rintro e w72 ⟨rfl, hb⟩; refine ⟨_, rfl, ?_⟩; replace BK427 := zbN BK427 hb; replace BK428 := zbN BK428 hb; replace BK438 := zbN BK438 hb; replace HB := Aside0.mk (below_step zqs hb); (try clear hb); (try clear hb2); (try clear hk); (try clear hi)) | ((with_reducible refine zG 14 rfl ?_); refine zBox 14 #[.int .i64 0, .int .i64 0, .int .i64 0] 38 ?_; intro gb450 hg w73 hbox hb; have BK450 := Aside0.mk (hbox); have GW450 := Aside0.mk ((by rw [hg]; exact (below_size zqs) : w.heap.size ≤ gb450)); have GE450 := Aside0.mk ((by rw [hg]; exact (below_size zqs) : w.heap.size ≤ gb450)); replace HB := Aside0.mk (below_step zqs hb); have NB427_450 := znU hg BK427; have NB450_427 := znV hg BK427; replace BK427 := zbN BK427 hb; have NB428_450 := znU hg BK428; have NB450_428 := znV hg BK428; replace BK428 := zbN BK428 hb; have NB438_450 := znU hg BK438; have NB450_438 := znV hg BK438; replace BK438 := zbN BK438 hb; clear hb hbox hg; have hnb74 := NB450_427.out; have hnc74 := NB427_450.out; have hnb75 := NB450_428.out; have hnc75 := NB428_450.out; have hnb76 := NB450_438.out; have hnc76 := NB438_450.out; have hcz77_0 := zC BK450; have hfz77_0 := zF BK450; have hnb78 := NB438_428.out; have hnc78 := NB428_438.out; have hcz79_0 := zC BK438; have hfz79_0 := zF BK438) | (go_at_call 11; (with_reducible refine (tellurionlaw06_known.calls  t451 _ A68.out (Tab.below HT.out zqs)).mono ?_); rintro e w80 ⟨rfl, hb⟩; replace BK427 := Aside0.mk (blk_below (g := gb427) (o := .cells #[.int .i64 a0_0, .slice A0_1 l0_1.length c0_1] 24 (0, 0)) (by (with_reducible repeat (first | refine blk_drewN ?_ _ | refine blk_drew ?_ | refine blk_alloc ?_ _)); refine blk_far ?_ NB427_450.out _; (with_reducible repeat (first | refine blk_drewN ?_ _ | refine blk_drew ?_ | refine blk_alloc ?_ _)); refine blk_far ?_ NB427_450.out _; (with_reducible repeat (first | refine blk_drewN ?_ _ | refine blk_drew ?_ | refine blk_alloc ?_ _)); refine blk_far ?_ NB427_450.out _; (with_reducible repeat (first | refine blk_drewN ?_ _ | refine blk_drew ?_ | refine blk_alloc ?_ _)); exact BK427.out) hb); replace BK428 := Aside0.mk (blk_below (g := gb428) (o := .cells #[.int .i64 a1_0, .int .i64 a1_1, .int .i64 a1_2] 38 (0, 0)) (by (with_reducible repeat (first | refine blk_drewN ?_ _ | refine blk_drew ?_ | refine blk_alloc ?_ _)); refine blk_far ?_ NB428_450.out _; (with_reducible repeat (first | refine blk_drewN ?_ _ | refine blk_drew ?_ | refine blk_alloc ?_ _)); refine blk_far ?_ NB428_450.out _; (with_reducible repeat (first | refine blk_drewN ?_ _ | refine blk_drew ?_ | refine blk_alloc ?_ _)); refine blk_far ?_ NB428_450.out _; (with_reducible repeat (first | refine blk_drewN ?_ _ | refine blk_drew ?_ | refine blk_alloc ?_ _)); exact BK428.out) hb); replace BK438 := Aside0.mk (blk_below (g := gb438) (o := .cells #[.int .i64 t434, .int .i64 t435, .int .i64 t436] 38 (0, 0)) (by (with_reducible repeat (first | refine blk_drewN ?_ _ | refine blk_drew ?_ | refine blk_alloc ?_ _)); refine blk_far ?_ NB438_450.out _; (with_reducible repeat (first | refine blk_drewN ?_ _ | refine blk_drew ?_ | refine blk_alloc ?_ _)); refine blk_far ?_ NB438_450.out _; (with_reducible repeat (first | refine blk_drewN ?_ _ | refine blk_drew ?_ | refine blk_alloc ?_ _)); refine blk_far ?_ NB438_450.out _; (with_reducible repeat (first | refine blk_drewN ?_ _ | refine blk_drew ?_ | refine blk_alloc ?_ _)); exact BK438.out) hb); replace BK450 := Aside0.mk (blk_below (g := gb450) (o := .cells #[.int .i64 t446, .int .i64 t447, .int .i64 t448] 38 (0, 0)) (by (with_reducible repeat (first | refine blk_drewN ?_ _ | refine blk_drew ?_ | refine blk_alloc ?_ _)); refine blk_put (cs := #[.int .i64 t446, .int .i64 t447, .int .i64 0]) ?_ 2 _ rfl; (with_reducible repeat (first | refine blk_drewN ?_ _ | refine blk_drew ?_ | refine blk_alloc ?_ _)); refine blk_put (cs := #[.int .i64 t446, .int .i64 0, .int .i64 0]) ?_ 1 _ rfl; (with_reducible repeat (first | refine blk_drewN ?_ _ | refine blk_drew ?_ | refine blk_alloc ?_ _)); refine blk_put (cs := #[.int .i64 0, .int .i64 0, .int .i64 0]) ?_ 0 _ rfl; (with_reducible repeat (first | refine blk_drewN ?_ _ | refine blk_drew ?_ | refine blk_alloc ?_ _)); exact BK450.out) hb); replace HB := Aside0.mk (below_step zqs hb); (try clear hb); (try clear hb2); (try clear hk); (try clear hi)))
                          go_ret
                          exact ⟨zE, zqs⟩
                        · rw [if_neg c67] at H
                          exact absurd H (by simp)
                      · rw [if_neg c66] at H
                        exact absurd H (by simp)
                    · replace c65 := Bool.eq_false_iff.mpr c65
                      subst c65
                      have H1 : (if t437 = 5 then (if (t434 == 0 && (t435 == 0 && (t436 == 0))) = true then ((tellurionlaw06_known.f).bind fun t452 => (some t452)) else (none)) else (none)) = some r := by rw [if_neg (show ¬ (false = true) by decide)] at H; exact H
                      clear H
                      have H := H1
                      clear H1
                      by_cases c81 : t437 = 5
                      · rw [if_pos c81] at H
                        have c81b0 : (t437 == 5) = true := beq_iff_eq.mpr c81
                        have c81b1 : (t437 != 5) = false := bne_eq_false_iff_eq.mpr c81
                        clear c81
                        by_cases c82 : (t434 == 0 && (t435 == 0 && (t436 == 0))) = true
                        · rw [if_pos c82] at H
                          have c82b0 : (t434 == 0 && (t435 == 0 && (t436 == 0))) = true := c82
                          (try (have c82b1 : decide (t434 = 0 && (t435 == 0 && (t436 == 0))) = true := by simpa using c82))
                          (try (have c82b2 : (t434 == 0 && (t435 == 0 && (t436 == 0))) = true := by simpa using c82))
                          clear c82
                          replace H := Option.bind_eq_some_iff.mp H
                          obtain ⟨t452, A830, H⟩ := H
                          replace H : (some t452) = some r := H
                          have A83 := Aside0.mk A830
                          clear A830
                          obtain rfl := Option.some.inj H
                          go_wp2_with (first | ((with_reducible refine gate_callee (f := 24) rfl ?_); refine zGl (some 98) Tryz.func24 #[.int .i64 a2] ?_; (with_reducible refine (qNumber.calls a2 true _ A62.out).mono ?_); rintro e w' ⟨rfl, ⟨nd, rfl⟩⟩; refine ⟨_, rfl, ?_⟩; (try (rw [drewN_self wc]; generalize hq_ : World.drewN wc _ = wc; have n0_ : Aside0 (wc.heap[gb427]? = some (.cells #[.int .i64 a0_0, .slice A0_1 l0_1.length c0_1] 24 (0, 0))) := ⟨by rw [← hq_]; exact (zh BK427)⟩; have n1_ : Aside0 (wc.heap[gb428]? = some (.cells #[.int .i64 a1_0, .int .i64 a1_1, .int .i64 a1_2] 38 (0, 0))) := ⟨by rw [← hq_]; exact (zh BK428)⟩; have n2_ : Aside0 (wc.heap[gb438]? = some (.cells #[.int .i64 t434, .int .i64 t435, .int .i64 t436] 38 (0, 0))) := ⟨by rw [← hq_]; exact (zh BK438)⟩; have n3_ : Aside0 (Below w.heap.size w wc) := ⟨by rw [← hq_]; exact zqs⟩; clear BK427 BK428 BK438 HB hq_; have BK427 := n0_; have BK428 := n1_; have BK438 := n2_; have HB := n3_; clear n0_ n1_ n2_ n3_)); have hnb84 := NB427_428.out; have hnc84 := NB428_427.out; have hnb85 := NB427_438.out; have hnc85 := NB438_427.out; have hcz86_0 := zC BK427; have hfz86_0 := zF BK427) | ((with_reducible refine gate_callee (f := 30) rfl ?_); refine zGl (some 113) Tryz.func30 #[.agg #[.int .i64 a0_0, .slice A0_1 l0_1.length c0_1], .int .i64 a2] ?_; (with_reducible refine (qDate.calls kj34 a0_0 _ _ l0_1 a2 t446 t447 t448 false _ ?side1 ?side2 A64.out).mono ?_); (case side1 => repeat (first | exact (Kd.C_below HR0_1.out HB.out) | (with_reducible refine Kd.C_alloc ?_ _) | (with_reducible refine Kd.C_drewN ?_ _) | (with_reducible refine Kd.C_drew ?_))); (case side2 => exact HC0_1.out); rintro e w87 ⟨rfl, hb⟩; refine ⟨_, rfl, ?_⟩; replace BK427 := zbN BK427 hb; replace BK428 := zbN BK428 hb; replace BK438 := zbN BK438 hb; replace HB := Aside0.mk (below_step zqs hb); (try clear hb); (try clear hb2); (try clear hk); (try clear hi)) | ((with_reducible refine zG 14 rfl ?_); refine zBox 14 #[.int .i64 0, .int .i64 0, .int .i64 0] 38 ?_; intro gb450 hg w88 hbox hb; have BK450 := Aside0.mk (hbox); have GW450 := Aside0.mk ((by rw [hg]; exact (below_size zqs) : w.heap.size ≤ gb450)); have GE450 := Aside0.mk ((by rw [hg]; exact (below_size zqs) : w.heap.size ≤ gb450)); replace HB := Aside0.mk (below_step zqs hb); have NB427_450 := znU hg BK427; have NB450_427 := znV hg BK427; replace BK427 := zbN BK427 hb; have NB428_450 := znU hg BK428; have NB450_428 := znV hg BK428; replace BK428 := zbN BK428 hb; have NB438_450 := znU hg BK438; have NB450_438 := znV hg BK438; replace BK438 := zbN BK438 hb; clear hb hbox hg; have hnb89 := NB450_427.out; have hnc89 := NB427_450.out; have hnb90 := NB450_428.out; have hnc90 := NB428_450.out; have hnb91 := NB450_438.out; have hnc91 := NB438_450.out; have hcz92_0 := zC BK450; have hfz92_0 := zF BK450; have hnb93 := NB438_428.out; have hnc93 := NB428_438.out; have hcz94_0 := zC BK438; have hfz94_0 := zF BK438) | (go_at_call 11; (with_reducible refine (tellurionlaw06_known.calls  t452 _ A83.out (Tab.below HT.out zqs)).mono ?_); rintro e w95 ⟨rfl, hb⟩; replace BK427 := Aside0.mk (blk_below (g := gb427) (o := .cells #[.int .i64 a0_0, .slice A0_1 l0_1.length c0_1] 24 (0, 0)) (by (with_reducible repeat (first | refine blk_drewN ?_ _ | refine blk_drew ?_ | refine blk_alloc ?_ _)); refine blk_far ?_ NB427_450.out _; (with_reducible repeat (first | refine blk_drewN ?_ _ | refine blk_drew ?_ | refine blk_alloc ?_ _)); refine blk_far ?_ NB427_450.out _; (with_reducible repeat (first | refine blk_drewN ?_ _ | refine blk_drew ?_ | refine blk_alloc ?_ _)); refine blk_far ?_ NB427_450.out _; (with_reducible repeat (first | refine blk_drewN ?_ _ | refine blk_drew ?_ | refine blk_alloc ?_ _)); exact BK427.out) hb); replace BK428 := Aside0.mk (blk_below (g := gb428) (o := .cells #[.int .i64 a1_0, .int .i64 a1_1, .int .i64 a1_2] 38 (0, 0)) (by (with_reducible repeat (first | refine blk_drewN ?_ _ | refine blk_drew ?_ | refine blk_alloc ?_ _)); refine blk_far ?_ NB428_450.out _; (with_reducible repeat (first | refine blk_drewN ?_ _ | refine blk_drew ?_ | refine blk_alloc ?_ _)); refine blk_far ?_ NB428_450.out _; (with_reducible repeat (first | refine blk_drewN ?_ _ | refine blk_drew ?_ | refine blk_alloc ?_ _)); refine blk_far ?_ NB428_450.out _; (with_reducible repeat (first | refine blk_drewN ?_ _ | refine blk_drew ?_ | refine blk_alloc ?_ _)); exact BK428.out) hb); replace BK438 := Aside0.mk (blk_below (g := gb438) (o := .cells #[.int .i64 t434, .int .i64 t435, .int .i64 t436] 38 (0, 0)) (by (with_reducible repeat (first | refine blk_drewN ?_ _ | refine blk_drew ?_ | refine blk_alloc ?_ _)); refine blk_far ?_ NB438_450.out _; (with_reducible repeat (first | refine blk_drewN ?_ _ | refine blk_drew ?_ | refine blk_alloc ?_ _)); refine blk_far ?_ NB438_450.out _; (with_reducible repeat (first | refine blk_drewN ?_ _ | refine blk_drew ?_ | refine blk_alloc ?_ _)); refine blk_far ?_ NB438_450.out _; (with_reducible repeat (first | refine blk_drewN ?_ _ | refine blk_drew ?_ | refine blk_alloc ?_ _)); exact BK438.out) hb); replace BK450 := Aside0.mk (blk_below (g := gb450) (o := .cells #[.int .i64 t446, .int .i64 t447, .int .i64 t448] 38 (0, 0)) (by (with_reducible repeat (first | refine blk_drewN ?_ _ | refine blk_drew ?_ | refine blk_alloc ?_ _)); refine blk_put (cs := #[.int .i64 t446, .int .i64 t447, .int .i64 0]) ?_ 2 _ rfl; (with_reducible repeat (first | refine blk_drewN ?_ _ | refine blk_drew ?_ | refine blk_alloc ?_ _)); refine blk_put (cs := #[.int .i64 t446, .int .i64 0, .int .i64 0]) ?_ 1 _ rfl; (with_reducible repeat (first | refine blk_drewN ?_ _ | refine blk_drew ?_ | refine blk_alloc ?_ _)); refine blk_put (cs := #[.int .i64 0, .int .i64 0, .int .i64 0]) ?_ 0 _ rfl; (with_reducible repeat (first | refine blk_drewN ?_ _ | refine blk_drew ?_ | refine blk_alloc ?_ _)); exact BK450.out) hb); replace HB := Aside0.mk (below_step zqs hb); (try clear hb); (try clear hb2); (try clear hk); (try clear hi)))
                          go_ret
                          exact ⟨zE, zqs⟩
                        · rw [if_neg c82] at H
                          exact absurd H (by simp)
                      · rw [if_neg c81] at H
                        exact absurd H (by simp)
                  · replace c63 := Bool.eq_false_iff.mpr c63
                    subst c63
                    have H1 : (if t437 = 2 then (if (t434 == 0 && (t435 == 0 && (t436 == 0))) = true then ((tellurionlaw06_known.f).bind fun t445 => (some t445)) else (none)) else (none)) = some r := by rw [if_neg (show ¬ (false = true) by decide)] at H; exact H
                    clear H
                    have H := H1
                    clear H1
                    by_cases c96 : t437 = 2
                    · rw [if_pos c96] at H
                      have c96b0 : (t437 == 2) = true := beq_iff_eq.mpr c96
                      have c96b1 : (t437 != 2) = false := bne_eq_false_iff_eq.mpr c96
                      clear c96
                      by_cases c97 : (t434 == 0 && (t435 == 0 && (t436 == 0))) = true
                      · rw [if_pos c97] at H
                        have c97b0 : (t434 == 0 && (t435 == 0 && (t436 == 0))) = true := c97
                        (try (have c97b1 : decide (t434 = 0 && (t435 == 0 && (t436 == 0))) = true := by simpa using c97))
                        (try (have c97b2 : (t434 == 0 && (t435 == 0 && (t436 == 0))) = true := by simpa using c97))
                        clear c97
                        replace H := Option.bind_eq_some_iff.mp H
                        obtain ⟨t445, A980, H⟩ := H
                        replace H : (some t445) = some r := H
                        have A98 := Aside0.mk A980
                        clear A980
                        obtain rfl := Option.some.inj H
                        go_wp2_with (first | ((with_reducible refine gate_callee (f := 24) rfl ?_); refine zGl (some 98) Tryz.func24 #[.int .i64 a2] ?_; (with_reducible refine (qNumber.calls a2 false _ A62.out).mono ?_); rintro e w' ⟨rfl, ⟨nd, rfl⟩⟩; refine ⟨_, rfl, ?_⟩; have hnb99 := NB438_427.out; have hnc99 := NB427_438.out; have hnb100 := NB438_428.out; have hnc100 := NB428_438.out; have hcz101_0 := zC BK438; have hfz101_0 := zF BK438) | (go_at_call 11; (with_reducible refine (tellurionlaw06_known.calls  t445 _ A98.out (Tab.below HT.out zqs)).mono ?_); rintro e w102 ⟨rfl, hb⟩; replace BK427 := zbN BK427 hb; replace BK428 := zbN BK428 hb; replace BK438 := zbN BK438 hb; replace HB := Aside0.mk (below_step zqs hb); (try clear hb); (try clear hb2); (try clear hk); (try clear hi)))
                        go_ret
                        exact ⟨zE, zqs⟩
                      · rw [if_neg c97] at H
                        exact absurd H (by simp)
                    · rw [if_neg c96] at H
                      exact absurd H (by simp)
          · replace c33 := Bool.eq_false_iff.mpr c33
            subst c33
            have H1 : (if t433 = 2 then (if t432 = 0 then (if t437 = 2 then (if (t434 == 0 && (t435 == 0 && (t436 == 0))) = true then ((tellurionlaw06_known.f).bind fun t441 => (some t441)) else (none)) else (none)) else (none)) else (none)) = some r := by rw [if_neg (show ¬ (false = true) by decide)] at H; exact H
            clear H
            have H := H1
            clear H1
            by_cases c103 : t433 = 2
            · rw [if_pos c103] at H
              have c103b0 : (t433 == 2) = true := beq_iff_eq.mpr c103
              have c103b1 : (t433 != 2) = false := bne_eq_false_iff_eq.mpr c103
              clear c103
              by_cases c104 : t432 = 0
              · rw [if_pos c104] at H
                have c104b0 : (t432 == 0) = true := beq_iff_eq.mpr c104
                have c104b1 : (t432 != 0) = false := bne_eq_false_iff_eq.mpr c104
                clear c104
                by_cases c105 : t437 = 2
                · rw [if_pos c105] at H
                  have c105b0 : (t437 == 2) = true := beq_iff_eq.mpr c105
                  have c105b1 : (t437 != 2) = false := bne_eq_false_iff_eq.mpr c105
                  clear c105
                  by_cases c106 : (t434 == 0 && (t435 == 0 && (t436 == 0))) = true
                  · rw [if_pos c106] at H
                    have c106b0 : (t434 == 0 && (t435 == 0 && (t436 == 0))) = true := c106
                    (try (have c106b1 : decide (t434 = 0 && (t435 == 0 && (t436 == 0))) = true := by simpa using c106))
                    (try (have c106b2 : (t434 == 0 && (t435 == 0 && (t436 == 0))) = true := by simpa using c106))
                    clear c106
                    replace H := Option.bind_eq_some_iff.mp H
                    obtain ⟨t441, A1070, H⟩ := H
                    replace H : (some t441) = some r := H
                    have A107 := Aside0.mk A1070
                    clear A1070
                    obtain rfl := Option.some.inj H
                    have hnb108 := NB427_428.out
                    have hnc108 := NB428_427.out
                    have hnb109 := NB427_438.out
                    have hnc109 := NB438_427.out
                    have hcz110_0 := zC BK427
                    have hfz110_0 := zF BK427
                    go_wp2_with (first | ((with_reducible refine gate_callee (f := 14) rfl ?_); refine zGl (some 50) Tryz.func14 #[.agg #[.int .i64 a0_0, .slice A0_1 l0_1.length c0_1]] ?_; (with_reducible refine (qCalendar.calls kj9 a0_0 _ _ l0_1 false _ ?side1 ?side2 A32.out).mono ?_); (case side1 => repeat (first | exact (Kd.C_below HR0_1.out HB.out) | (with_reducible refine Kd.C_alloc ?_ _) | (with_reducible refine Kd.C_drewN ?_ _) | (with_reducible refine Kd.C_drew ?_))); (case side2 => exact HC0_1.out); rintro e w111 ⟨rfl, hb⟩; refine ⟨_, rfl, ?_⟩; replace BK427 := zbN BK427 hb; replace BK428 := zbN BK428 hb; replace BK438 := zbN BK438 hb; replace HB := Aside0.mk (below_step zqs hb); (try clear hb); (try clear hb2); (try clear hk); (try clear hi); have hnb112 := NB438_428.out; have hnc112 := NB428_438.out; have hcz113_0 := zC BK438; have hfz113_0 := zF BK438) | (go_at_call 11; (with_reducible refine (tellurionlaw06_known.calls  t441 _ A107.out (Tab.below HT.out zqs)).mono ?_); rintro e w114 ⟨rfl, hb⟩; replace BK427 := zbN BK427 hb; replace BK428 := zbN BK428 hb; replace BK438 := zbN BK438 hb; replace HB := Aside0.mk (below_step zqs hb); (try clear hb); (try clear hb2); (try clear hk); (try clear hi)))
                    go_ret
                    exact ⟨zE, zqs⟩
                  · rw [if_neg c106] at H
                    exact absurd H (by simp)
                · rw [if_neg c105] at H
                  exact absurd H (by simp)
              · rw [if_neg c104] at H
                exact absurd H (by simp)
            · rw [if_neg c103] at H
              exact absurd H (by simp)
  · replace c5 := Bool.eq_false_iff.mpr c5
    subst c5
    have H1 : ((tellurionlaw06_known.f).bind fun t430 => (some t430)) = some r := by rw [if_neg (show ¬ (false = true) by decide)] at H; exact H
    clear H
    have H := H1
    clear H1
    replace H := Option.bind_eq_some_iff.mp H
    obtain ⟨t430, A1150, H⟩ := H
    replace H : (some t430) = some r := H
    have A115 := Aside0.mk A1150
    clear A1150
    obtain rfl := Option.some.inj H
    go_enter Tryz.func9, Tryz.ntmps9
    go_wp2_with (first | ((with_reducible refine zG 3 rfl ?_); refine zBox 3 #[.int .i64 a0_0, .slice A0_1 l0_1.length c0_1] 24 ?_; intro gb427 hg w116 hbox hb; have BK427 := Aside0.mk (hbox); have GW427 := Aside0.mk ((by rw [hg]; exact (below_size zq) : w.heap.size ≤ gb427)); have GE427 := Aside0.mk ((by rw [hg]; exact (below_size zq) : w.heap.size ≤ gb427)); replace HB := Aside0.mk (below_step zq hb); clear hb hbox hg) | ((with_reducible refine zG 4 rfl ?_); refine zBox 4 #[.int .i64 a1_0, .int .i64 a1_1, .int .i64 a1_2] 38 ?_; intro gb428 hg w117 hbox hb; have BK428 := Aside0.mk (hbox); have GW428 := Aside0.mk ((by rw [hg]; exact (below_size zqs) : w.heap.size ≤ gb428)); have GE428 := Aside0.mk ((by rw [hg]; exact (below_size zqs) : w.heap.size ≤ gb428)); replace HB := Aside0.mk (below_step zqs hb); have NB427_428 := znU hg BK427; have NB428_427 := znV hg BK427; replace BK427 := zbN BK427 hb; clear hb hbox hg; have hnb118 := NB427_428.out; have hnc118 := NB428_427.out; have hcz119_0 := zC BK427; have hfz119_0 := zF BK427) | ((with_reducible refine gate_callee (f := 10) rfl ?_); refine zGl (some 17) Tryz.func10 #[.agg #[.int .i64 a0_0, .slice A0_1 l0_1.length c0_1]] ?_; (with_reducible refine (qshort.calls a0_0 _ _ l0_1 false _ ?side1 ?side2 A4.out).mono ?_); (case side1 => repeat (first | exact (Kd.C_below HR0_1.out HB.out) | (with_reducible refine Kd.C_alloc ?_ _) | (with_reducible refine Kd.C_drewN ?_ _) | (with_reducible refine Kd.C_drew ?_))); (case side2 => exact HC0_1.out); rintro e w120 ⟨rfl, hb⟩; refine ⟨_, rfl, ?_⟩; replace BK427 := zbN BK427 hb; replace BK428 := zbN BK428 hb; replace HB := Aside0.mk (below_step zqs hb); (try clear hb); (try clear hb2); (try clear hk); (try clear hi)) | ((with_reducible refine gate_callee (f := 11) rfl ?_); refine zGl (some 19) Tryz.func11 #[] ?_; (with_reducible refine (tellurionlaw06_known.calls  t430 _ A115.out (Tab.below HT.out zqs)).mono ?_); rintro e w121 ⟨rfl, hb⟩; refine ⟨_, rfl, ?_⟩; replace BK427 := zbN BK427 hb; replace BK428 := zbN BK428 hb; replace HB := Aside0.mk (below_step zqs hb); (try clear hb); (try clear hb2); (try clear hk); (try clear hi)))
    go_ret
    exact ⟨zE, zqs⟩
end Go.Proofs.YtnllidgonghckaaGreatDoor.X
