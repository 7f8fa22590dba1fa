/- The law DialRound returns true for every input: its walk, its pure law and its tied card. Conditions: the library's tables that the row lists read as their source says (part 1 of 2). -/
import Derived.ArgAppend
import Derived.Below
import Derived.BigQuiet
import Derived.Deep.AppendLies
import Derived.Deep.CutBlock
import Derived.Deep.DeepCutAuto
import Derived.Deep.Draws
import Derived.Deep.LoopGhost
import Derived.Deep.OwnRows
import Derived.Deep.QuietTactic
import Derived.Deep.RegionHeld3
import Derived.DeepKeys5
import Derived.Defers
import Derived.KernelRfl
import Derived.Laws.BitsLemmas
import Derived.Laws.BytesArg
import Derived.Laws.CopyOwn
import Derived.Laws.IdiomCopy
import Derived.Laws.MakeOwn
import Derived.Laws.OwnMore
import Derived.Laws.Rows
import Derived.Laws.Slices
import Derived.Laws.StructEq
import Derived.Laws.Tables
import Derived.Lib.AppendStr
import Derived.Lib.ConvBytes
import Derived.Lib.ItoaLen
import Derived.Maps.AppendAt
import Derived.Maps.OwnOps
import Derived.OrdersHeld
import Derived.OwnWalk
import Derived.OwnWalkIn
import Derived.RangeFuncCalls
import Derived.RangeFuncKeeps
import Derived.RangeFuncLeaves
import Derived.Recover
import Derived.RowKit
import Derived.RowKit3
import Derived.Shelf.LaysM
import Derived.Shelf.Small.Wraps
import Derived.Shelf.Strconv.Itoa0
import Derived.Shelf.Strconv.Itoa1
import Derived.Shelf.Strconv.Itoa2
import Derived.Shelf.Strconv.Itoa3
import Derived.Shelf.Strings.Builder1
import Derived.Shelf.Strings.Builder2
import Derived.Shelf.Strings.Builder2Cap
import Derived.Shelf.Strings.BuilderCap
import Derived.Shelf.Strings.BuilderF
import Derived.Shelf.Strings.BuilderK
import Derived.Shelf.Strings.OnBuilder
import Derived.Tactics
import Derived.Tactics2
import Derived.TacticsInMore
import Derived.Test.YtnllidgonghckaaGreatDoorProg
import Derived.WalkKit
import Derived.WalkLawsBesides
import Derived.WideKeyEntry
import Derived.WideLaws
import Derived.Test.YtnllidgonghckaaGreatDoorC11
namespace Go.Proofs.YtnllidgonghckaaGreatDoor.X
open Go.RowKit Go.Proofs.YtnllidgonghckaaGreatDoorW.PrintWords Go.Proofs.YtnllidgonghckaaGreatDoorW.PrintLast
theorem zq {B : Nat} {w W : World} (h : Below B w W := by repeat (first | (with_reducible first | exact HB.out | apply below_alloc | apply pw_below_drewN | apply below_drew1) | exact HB.out)) : Below B w W := h
theorem zqs {B : Nat} {w W : World} (h : Below B w W := by repeat (first | (with_reducible first | exact HB.out | apply below_alloc | apply pw_below_drewN | apply below_drew1 | refine below_set ?_ (Aside0.out (by assumption))) | exact HB.out)) : Below B w W := h
theorem zz {p : Prop} (h : p := by first | rfl | (simp; done) | (simp [*]; done)) : p := h
theorem zh {V U : World} {g : Nat} {o : Obj} (h : Aside0 (V.heap[g]? = some o)) (e : V.heap[g]? = some o → U.heap[g]? = some o := by (intro hx; (with_reducible repeat (first | refine blk_drewN ?_ _ | refine blk_drew ?_ | refine blk_alloc ?_ _)); exact hx)) : U.heap[g]? = some o := e h.out
theorem zE {p : Prop} (h : p := by first | rfl | (simp [errW_none, errW_some] <;> rfl) | (simp [*, errW_none, errW_some] <;> rfl)) : p := h
theorem znU {V U : World} {g k : Nat} {o : Obj} (hg : g = U.heap.size) (h : Aside0 (V.heap[k]? = some o)) (e : V.heap[k]? = some o → U.heap[k]? = some o := by (intro hx; (with_reducible repeat (first | refine blk_drewN ?_ _ | refine blk_drew ?_ | refine blk_alloc ?_ _)); exact hx)) : Aside0 (k ≠ g) := ⟨by rw [hg]; exact Nat.ne_of_lt (blk_lt (e h.out))⟩
theorem znV {V U : World} {g k : Nat} {o : Obj} (hg : g = U.heap.size) (h : Aside0 (V.heap[k]? = some o)) (e : V.heap[k]? = some o → U.heap[k]? = some o := by (intro hx; (with_reducible repeat (first | refine blk_drewN ?_ _ | refine blk_drew ?_ | refine blk_alloc ?_ _)); exact hx)) : Aside0 (g ≠ k) := ⟨by rw [hg]; exact Nat.ne_of_gt (blk_lt (e h.out))⟩
theorem zbN {V U W1 : World} {g : Nat} {o : Obj} (h : Aside0 (V.heap[g]? = some o)) (hb : Below U.heap.size U W1) (e : V.heap[g]? = some o → U.heap[g]? = some o := by (intro hx; (with_reducible repeat (first | refine blk_drewN ?_ _ | refine blk_drew ?_ | refine blk_alloc ?_ _)); exact hx)) : Aside0 (W1.heap[g]? = some o) := ⟨blk_below (e h.out) hb⟩
section
variable {P : Program} {opsX : Array Oper} {Q : Exit → Act → World → Prop} {rest : List Oper} {a : Act}
theorem zGl {oi : Oper} (N : Option Tmp) {f : FuncId} {fn : Func} (hf : P.funcs[f]? = some fn) (args : Array Value) {w : World} {as_ : Array Operand} {ts : Array TypeId} (h : Calls P f args w fun e w' => ∃ v, e = .returned v ∧ wpList P opsX Q rest (a.put N v) w')
    (hd : oi.dst = N := by rfl) (hg : oi.guard = none := by rfl) (hname : (fn.name == "runtime.NumGoroutine") = false := by kernel_rfl) (hb : fn.body.isSome = true := by rfl) (hop : oi.op = .call { callee := .value (.func f), args := as_, argTypes := ts } := by rfl)
    (hargs : as_.map a.eval = args := by (try simp only [List.map_toArray, List.map_cons, List.map_nil]); first | done | rfl | (simp only [List.length_drop, List.length_take]; rfl)) : wpList P opsX Q (oi :: rest) a w := goesL_ N hd hg hf hname hb args hop hargs h
end
end Go.Proofs.YtnllidgonghckaaGreatDoor.X
set_option linter.unusedVariables false
set_option linter.unusedSimpArgs false
namespace Go.Proofs.YtnllidgonghckaaGreatDoorW.PrintWords
open Go.RowKit
namespace Kd
theorem C_of_reads {α : Type} {enc : α → Value} {d : α} {h1 : ∀ x, (enc x).oneCell' = true} {w : World} {A : Option Addr} {n : Nat} {xs : List α} (h : ReadsOf enc d w A n xs) : (scalar enc h1).C w A n xs := by
  refine ⟨h.1, h.2.1, fun hn => ?_⟩
  obtain ⟨ad, e, hc⟩ := h.2.2 hn
  refine ⟨ad, e, fun j p hj => ⟨[enc p], rfl, rfl, fun i u hu => ?_⟩⟩
  obtain ⟨hl, hp⟩ := List.getElem?_eq_some_iff.1 hj
  have h2 := hc j (by have := h.1; omega)
  rw [List.getD_eq_getElem?_getD, hj] at h2
  cases i with
  | zero =>
    have : enc p = u := by simpa using hu
    subst this
    simpa [scalar] using h2
  | succ i => simp at hu
end Kd
theorem ReadsInt.nil (W : World) (k : IntKind) : ReadsInt W k none ([] : List Int).length [] := ⟨rfl, by simp, fun h => absurd h (Nat.lt_irrefl 0)⟩
theorem ReadsInt.ofRow {k : IntKind} {w : World} {a : Option Addr} {len cap : Nat} {zs : List Int} (h : (a = none ∧ len = 0 ∧ cap = 0 ∧ zs = []) ∨ ∃ x, a = some x ∧ len ≤ cap ∧ cap ≤ maxLen ∧ zs.length = cap ∧ (∀ i, i < zs.length → w.cell? (x.add i) = some (.int k (zs.getD i 0))) ∧ ∀ n ∈ zs, (Lit.int k n).wf = true) :
    ∃ l : List Int, len = l.length ∧ ReadsInt w k a l.length l ∧ l.length ≤ maxLen ∧ ∀ x ∈ l, (Lit.int k x).wf = true := by
  rcases h with ⟨rfl, rfl, rfl, rfl⟩ | ⟨x, rfl, hl, hm, hz, hc, hw⟩
  · exact ⟨[], rfl, ReadsInt.nil _ _, Nat.zero_le _, fun x hx => by simp at hx⟩
  · have e : (zs.take len).length = len := by simp; omega
    have hm' : len ≤ maxLen := Nat.le_trans hl hm
    refine ⟨zs.take len, e.symm, ⟨rfl, by rw [e]; simpa [maxLen] using hm', fun _ => ⟨x, rfl, fun j hj => ?_⟩⟩, by rw [e]; exact hm', fun y hy => hw y (List.mem_of_mem_take hy)⟩
    rw [e] at hj
    rw [hc j (by omega)]
    simp [List.getD, List.getElem?_take, hj]
theorem ReadsInt.ofRowC {k : IntKind} {w : World} {a : Option Addr} {len cap : Nat} {zs : List Int} (h : (a = none ∧ len = 0 ∧ cap = 0 ∧ zs = []) ∨ ∃ x, a = some x ∧ len ≤ cap ∧ cap ≤ maxLen ∧ zs.length = cap ∧ (∀ i, i < zs.length → w.cell? (x.add i) = some (.int k (zs.getD i 0))) ∧ ∀ n ∈ zs, (Lit.int k n).wf = true) :
    ∃ l : List Int, len = l.length ∧ ReadsInt w k a l.length l ∧ l.length ≤ maxLen ∧ (∀ x ∈ l, (Lit.int k x).wf = true) ∧ l.length ≤ cap := by
  have hl : len ≤ cap := by
    rcases h with ⟨_, rfl, rfl, _⟩ | ⟨_, _, h, _⟩
    · exact Nat.le_refl _
    · exact h
  obtain ⟨l, e, h1, h2, h3⟩ := ReadsInt.ofRow h
  exact ⟨l, e, h1, h2, h3, e ▸ hl⟩
end Go.Proofs.YtnllidgonghckaaGreatDoorW.PrintWords
namespace Go.Proofs.YtnllidgonghckaaGreatDoorW.PrintWords
open Go.RowKit
section
variable {P : Program} {d : Nat} {xs ys : Array Value} {f : Field} {fs : List Field} {a b : Value} {r s : Bool} {w : World}
theorem eqf_last (hn : (f.name == "_") = false) (ha : (part f.type xs f.offset).run P w = .ok a w) (hb : (part f.type ys f.offset).run P w = .ok b w) (he : (Op.equalIn d f.type a b).run P w = .ok r w) : (Op.eqFields d xs ys [f]).run P w = .ok r w := by
  have hn' : f.name ≠ "_" := by simpa using hn
  simp only [Op.eqFields, if_pos hn', Sem.run_bind, ha, hb, he, Result.andThen_ok]
  cases r <;> simp
theorem eqf_cons (hn : (f.name == "_") = false) (ha : (part f.type xs f.offset).run P w = .ok a w) (hb : (part f.type ys f.offset).run P w = .ok b w) (he : (Op.equalIn d f.type a b).run P w = .ok r w) (hr : (Op.eqFields d xs ys fs).run P w = .ok s w) : (Op.eqFields d xs ys (f :: fs)).run P w = .ok (r && s) w := by
  have hn' : f.name ≠ "_" := by simpa using hn
  rw [Op.eqFields]
  simp only [if_pos hn', Sem.run_bind, ha, hb, he, Result.andThen_ok]
  cases r
  · simp
  · simpa using hr
theorem eqA_of {t : TypeId} {fs : Array Field} (hu : P.underlying t = some (.struct fs)) (hp : P.stoodInHeld t = false) (h : (Op.eqFields d xs ys fs.toList).run P w = .ok r w) : (Op.equalIn (d + 1) t (.agg xs) (.agg ys)).run P w = .ok r w := by
  have hf : P.fieldsOf t = fs := by simp [Program.fieldsOf, hu]
  rw [run_equalIn_struct (P := P) w d t xs ys (by rw [hf]; exact hu) hp, hf]
  exact h
end
theorem drewN_self (w : World) (n : Nat) : w.drewN n = w.drewN n := rfl
end Go.Proofs.YtnllidgonghckaaGreatDoorW.PrintWords
namespace Go.Proofs.YtnllidgonghckaaGreatDoor.X
open Go.RowKit Go.Proofs.YtnllidgonghckaaGreatDoorW.PrintWords Go.Proofs.YtnllidgonghckaaGreatDoorW.PrintLast Go.Proofs.YtnllidgonghckaaGreatDoorW.PrintMore
attribute [local go_sem] max2_int min2_int max_two min_two max_three min_three max_four min_four
set_option linter.unusedVariables false
set_option linter.unusedSimpArgs false
theorem eqA38 (d : Nat) (w : World) (x0 y0 : Int) (x1 y1 : Int) (x2 y2 : Int) :
    (Op.equalIn (d + 2) 38 (.agg #[.int .i64 x0, .int .i64 x1, .int .i64 x2]) (.agg #[.int .i64 y0, .int .i64 y1, .int .i64 y2])).run Tryz.prog w = .ok (x0 == y0 && (x1 == y1 && (x2 == y2))) w := by
  refine eqA_of Tryz.underlying38 (by kernel_rfl) ?_
  refine eqf_cons (by rfl) (by go_simp; rfl) (by go_simp; rfl) (by go_simp) ?_
  refine eqf_cons (by rfl) (by go_simp; rfl) (by go_simp; rfl) (by go_simp) ?_
  exact eqf_last (by rfl) (by go_simp; rfl) (by go_simp; rfl) (by go_simp)
def qshort.f (a0_0 : Int) (l0_1 : List Int) : Option (Bool) := some (decide ((l0_1.length : Int) ≤ 5))
set_option maxHeartbeats 8000000 in
set_option maxRecDepth 100000 in
theorem qshort.calls (a0_0 : Int) (A0_1 : Option Addr) (c0_1 : Nat) (l0_1 : List Int) (r : Bool) (w : World) (hr0_1 : Kd.C (Kd.int .i64) w A0_1 l0_1.length l0_1) (hc0_1 : l0_1.length ≤ c0_1) (h : qshort.f a0_0 l0_1 = some r) :
    Calls Tryz.prog 10 #[.agg #[.int .i64 a0_0, .slice A0_1 l0_1.length c0_1]] w fun e w' => e = .returned (.bool r) ∧ Below w.heap.size w w' := by
  have hu24 := Tryz.underlying24
  have HR0_1 := Aside0.mk hr0_1
  have HC0_1 := Aside0.mk hc0_1
  clear hr0_1 hc0_1
  have HB := Aside0.mk (Below.refl w.heap.size w)
  have H : (some (decide ((l0_1.length : Int) ≤ 5))) = some r := h
  clear h
  obtain rfl := Option.some.inj H
  go_enter Tryz.func10, Tryz.ntmps10
  go_wp2_with (first | ((with_reducible refine zG 1 rfl ?_); refine zBox 1 #[.int .i64 a0_0, .slice A0_1 l0_1.length c0_1] 24 ?_; intro gb101 hg w2 hbox hb; have BK101 := Aside0.mk (hbox); have GW101 := Aside0.mk ((by rw [hg]; exact (below_size zq) : w.heap.size ≤ gb101)); have GE101 := Aside0.mk ((by rw [hg]; exact (below_size zq) : w.heap.size ≤ gb101)); replace HB := Aside0.mk (below_step zq hb); clear hb hbox hg; have hcz3_0 := zC BK101; have hfz3_0 := zF BK101))
  go_ret
  exact ⟨zE, zqs⟩
def qCalendar.l0 : Nat → Int → Int → List Int → Option (Bool)
  | 0, _, _, _ => none
  | k + 1, x3, x237000, x237001 => if x3 < (x237001.length : Int) then (if 0 ≤ x3 then ((tellurionref06_in.f (rd x237001 x3) 2 1000).bind fun t238 => (if t238 = true then (if x3 > 0 then (if 0 ≤ (wrap64 (x3 - 1)) then (if (wrap64 (x3 - 1)) < (x237001.length : Int) then (if (rd x237001 x3) ≤ (rd x237001 (wrap64 (x3 - 1))) then (some false) else (qCalendar.l0 k (wrap64 (x3 + 1)) x237000 x237001)) else (none)) else (none)) else (qCalendar.l0 k (wrap64 (x3 + 1)) x237000 x237001)) else (some false))) else (none)) else ((tellurionref06_in.f x237000 0 1000).bind fun t241 => (if t241 = true then ((tellurionref06_in.f (x237001.length : Int) 1 3).bind fun t242 => (some t242)) else (some false)))
def qCalendar.f (k : Nat) (a0_0 : Int) (l0_1 : List Int) : Option (Bool) := qCalendar.l0 k 0 a0_0 l0_1
set_option maxHeartbeats 8000000 in
set_option maxRecDepth 100000 in
theorem qCalendar.calls (k : Nat) (a0_0 : Int) (A0_1 : Option Addr) (c0_1 : Nat) (l0_1 : List Int) (r : Bool) (w : World) (hr0_1 : Kd.C (Kd.int .i64) w A0_1 l0_1.length l0_1) (hc0_1 : l0_1.length ≤ c0_1) (h : qCalendar.f k a0_0 l0_1 = some r) :
    Calls Tryz.prog 14 #[.agg #[.int .i64 a0_0, .slice A0_1 l0_1.length c0_1]] w fun e w' => e = .returned (.bool r) ∧ Below w.heap.size w w' := by
  have hu24 := Tryz.underlying24
  have HR0_1 := Aside0.mk hr0_1
  have HC0_1 := Aside0.mk hc0_1
  clear hr0_1 hc0_1
  have HB := Aside0.mk (Below.refl w.heap.size w)
  have H : (qCalendar.l0 k 0 a0_0 l0_1) = some r := h
  clear h
  have H' := Aside0.mk H
  clear H
  go_enter Tryz.func14, Tryz.ntmps14
  go_wp2_with (first | ((with_reducible refine zG 1 rfl ?_); (try (refine gate_guard (by rfl) ?_; dsimp only)); refine box_event ?hg (N := 1) ?hd (cs := #[.int .i64 a0_0, .slice A0_1 l0_1.length c0_1]) (t := 24) ?hr ?_; (case hd => rfl); (case hg => rfl); (case hr => first | (go_simp; done) | (go_simp; rfl)); intro gb236 hg w2 hbox hb; have BK236 := Aside0.mk (hbox); have GW236 := Aside0.mk ((by rw [hg]; exact (below_size zq) : w.heap.size ≤ gb236)); have GE236 := Aside0.mk ((by rw [hg]; exact (below_size zq) : w.heap.size ≤ gb236)); replace HB := Aside0.mk (below_step zq hb); clear hb hbox hg))
  repeat (go_quiet (first | ((with_reducible refine zG 1 rfl ?_); (try (refine gate_guard (by rfl) ?_; dsimp only)); refine box_event ?hg (N := 1) ?hd (cs := #[.int .i64 a0_0, .slice A0_1 l0_1.length c0_1]) (t := 24) ?hr ?_; (case hd => rfl); (case hg => rfl); (case hr => first | (go_simp; done) | (go_simp; rfl)); intro gb236 hg w2 hbox hb; have BK236 := Aside0.mk (hbox); have GW236 := Aside0.mk ((by rw [hg]; exact (below_size zq) : w.heap.size ≤ gb236)); have GE236 := Aside0.mk ((by rw [hg]; exact (below_size zq) : w.heap.size ≤ gb236)); replace HB := Aside0.mk (below_step zq hb); clear hb hbox hg)); try go_wp2_with (first | ((with_reducible refine zG 1 rfl ?_); (try (refine gate_guard (by rfl) ?_; dsimp only)); refine box_event ?hg (N := 1) ?hd (cs := #[.int .i64 a0_0, .slice A0_1 l0_1.length c0_1]) (t := 24) ?hr ?_; (case hd => rfl); (case hg => rfl); (case hr => first | (go_simp; done) | (go_simp; rfl)); intro gb236 hg w2 hbox hb; have BK236 := Aside0.mk (hbox); have GW236 := Aside0.mk ((by rw [hg]; exact (below_size zq) : w.heap.size ≤ gb236)); have GE236 := Aside0.mk ((by rw [hg]; exact (below_size zq) : w.heap.size ≤ gb236)); replace HB := Aside0.mk (below_step zq hb); clear hb hbox hg)))
  go_loopg [3] k (fun kq v3 w' => ∃ (x3_1 : Int), v3 = .int .i64 x3_1 ∧ Aside0 (qCalendar.l0 kq x3_1 a0_0 l0_1 = some r) ∧ Aside0 (kq ≤ k) ∧ Aside0 (w'.heap[gb236]? = some (.cells #[.int .i64 a0_0, (.slice A0_1 l0_1.length c0_1)] 24 (0, 0))) ∧ Aside0 (Below w.heap.size w w'))
  case atStart => exact ⟨(0), zz, H', ⟨Nat.le_refl _⟩, ⟨zh BK236⟩, ⟨zqs⟩⟩
  case round =>
    clear H'
    try clear c1
    try clear p2
    obtain ⟨x3_1, rfl, HA, HK1, BK236, HB⟩ := hrel
    cases gk with
    | zero => exact absurd HA.out (by simp [qCalendar.l0])
    | succ k1 =>
      have H := HA.out
      clear HA
      simp only [qCalendar.l0] at H
      by_cases c3 : x3_1 < (l0_1.length : Int)
      · rw [if_pos c3] at H
        have c3b0 : decide (x3_1 < (l0_1.length : Int)) = true := decide_eq_true c3
        clear c3
        by_cases c4 : 0 ≤ x3_1
        · rw [if_pos c4] at H
          have c4b0 : decide (0 ≤ x3_1) = true := decide_eq_true c4
          clear c4
          replace H := Option.bind_eq_some_iff.mp H
          obtain ⟨t238, A50, H⟩ := H
          replace H : (if t238 = true then (if x3_1 > 0 then (if 0 ≤ (wrap64 (x3_1 - 1)) then (if (wrap64 (x3_1 - 1)) < (l0_1.length : Int) then (if (rd l0_1 x3_1) ≤ (rd l0_1 (wrap64 (x3_1 - 1))) then (some false) else (qCalendar.l0 k1 (wrap64 (x3_1 + 1)) a0_0 l0_1)) else (none)) else (none)) else (qCalendar.l0 k1 (wrap64 (x3_1 + 1)) a0_0 l0_1)) else (some false)) = some r := H
          have A5 := Aside0.mk A50
          clear A50
          by_cases c6 : t238 = true
          · subst c6
            have H1 : (if x3_1 > 0 then (if 0 ≤ (wrap64 (x3_1 - 1)) then (if (wrap64 (x3_1 - 1)) < (l0_1.length : Int) then (if (rd l0_1 x3_1) ≤ (rd l0_1 (wrap64 (x3_1 - 1))) then (some false) else (qCalendar.l0 k1 (wrap64 (x3_1 + 1)) a0_0 l0_1)) else (none)) else (none)) else (qCalendar.l0 k1 (wrap64 (x3_1 + 1)) a0_0 l0_1)) = some r := by rw [if_pos rfl] at H; exact H
            clear H
            have H := H1
            clear H1
            by_cases c7 : x3_1 > 0
            · rw [if_pos c7] at H
              have c7b0 : decide (0 < x3_1) = true := decide_eq_true c7
              clear c7
              obtain ⟨ji8, hji8⟩ : ∃ j_ : Int, (wrap64 (x3_1 - 1)) = j_ := ⟨_, rfl⟩
              replace H : (if 0 ≤ (ji8) then (if (ji8) < (l0_1.length : Int) then (if (rd l0_1 x3_1) ≤ (rd l0_1 (ji8)) then (some false) else (qCalendar.l0 k1 (wrap64 (x3_1 + 1)) a0_0 l0_1)) else (none)) else (none)) = some r := by first | (rw [hji8] at H; exact H) | (simp only [hji8] at H ⊢; exact H)
              (try rw [hji8] at A5)
              have hji8w : (IntKind.i64.wrap (x3_1 - 1)) = ji8 := (i64_w _).trans hji8
              by_cases c9 : 0 ≤ (ji8)
              · rw [if_pos c9] at H
                have c9b0 : decide (0 ≤ (ji8)) = true := decide_eq_true c9
                clear c9
                by_cases c10 : (ji8) < (l0_1.length : Int)
                · rw [if_pos c10] at H
                  have c10b0 : decide ((ji8) < (l0_1.length : Int)) = true := decide_eq_true c10
                  clear c10
                  by_cases c11 : (rd l0_1 x3_1) ≤ (rd l0_1 (ji8))
                  · rw [if_pos c11] at H
                    have c11b0 : decide ((rd l0_1 x3_1) ≤ (rd l0_1 (ji8))) = true := decide_eq_true c11
                    clear c11
                    obtain rfl := Option.some.inj H
                    have hcz12_0 := zC BK236
                    have hfz12_0 := zF BK236
                    have p237 : 0 ≤ (x3_1 : Int) := of_decide_eq_true (by first | (with_reducible assumption) | assumption)
                    have q237 : x3_1 < (l0_1.length : Int) := of_decide_eq_true (by first | (with_reducible assumption) | assumption)
                    obtain ⟨ad237, e237, hx237_0⟩ := Kd.at_int HR0_1.out x3_1 p237 q237
                    cases e237
                    replace hx237_0 := (HB.out.cell (World.block_lt_of_cell? w _ hx237_0)).trans hx237_0
                    replace p237 := eq_true p237
                    replace q237 := eq_true q237
                    go_wp2_with (first | (go_at_call 51; (with_reducible refine (tellurionref06_in.calls (rd l0_1 x3_1) 2 1000 true _ A5.out).mono ?_); rintro e w' ⟨rfl, ⟨nd, rfl⟩⟩; (try first | exact ⟨rfl, _, World.drewN_drewN _ _ _⟩ | exact ⟨rfl, _, Eq.trans (World.drewN_drewN _ _ _) (congrArg (World.drewN _) (Nat.add_assoc _ _ _))⟩); have p239 : 0 ≤ (x3_1 : Int) := of_decide_eq_true (by first | (with_reducible assumption) | assumption); have q239 : x3_1 < (l0_1.length : Int) := of_decide_eq_true (by first | (with_reducible assumption) | assumption); obtain ⟨ad239, e239, hx239_0⟩ := Kd.at_int HR0_1.out x3_1 p239 q239; obtain rfl : ad237 = ad239 := (by injection e239); replace hx239_0 := (HB.out.cell (World.block_lt_of_cell? w _ hx239_0)).trans hx239_0; replace p239 := eq_true p239; replace q239 := eq_true q239; have p240 : 0 ≤ ((ji8) : Int) := of_decide_eq_true (by first | (with_reducible assumption) | assumption); have q240 : (ji8) < (l0_1.length : Int) := of_decide_eq_true (by first | (with_reducible assumption) | assumption); obtain ⟨ad240, e240, hx240_0⟩ := Kd.at_int HR0_1.out (ji8) p240 q240; obtain rfl : ad237 = ad240 := (by injection e240); replace hx240_0 := (HB.out.cell (World.block_lt_of_cell? w _ hx240_0)).trans hx240_0; replace p240 := eq_true p240; replace q240 := eq_true q240))
                    repeat (go_quiet (first | (go_at_call 51; (with_reducible refine (tellurionref06_in.calls (rd l0_1 x3_1) 2 1000 true _ A5.out).mono ?_); rintro e w' ⟨rfl, ⟨nd, rfl⟩⟩; (try first | exact ⟨rfl, _, World.drewN_drewN _ _ _⟩ | exact ⟨rfl, _, Eq.trans (World.drewN_drewN _ _ _) (congrArg (World.drewN _) (Nat.add_assoc _ _ _))⟩); have p239 : 0 ≤ (x3_1 : Int) := of_decide_eq_true (by first | (with_reducible assumption) | assumption); have q239 : x3_1 < (l0_1.length : Int) := of_decide_eq_true (by first | (with_reducible assumption) | assumption); obtain ⟨ad239, e239, hx239_0⟩ := Kd.at_int HR0_1.out x3_1 p239 q239; obtain rfl : ad237 = ad239 := (by injection e239); replace hx239_0 := (HB.out.cell (World.block_lt_of_cell? w _ hx239_0)).trans hx239_0; replace p239 := eq_true p239; replace q239 := eq_true q239; have p240 : 0 ≤ ((ji8) : Int) := of_decide_eq_true (by first | (with_reducible assumption) | assumption); have q240 : (ji8) < (l0_1.length : Int) := of_decide_eq_true (by first | (with_reducible assumption) | assumption); obtain ⟨ad240, e240, hx240_0⟩ := Kd.at_int HR0_1.out (ji8) p240 q240; obtain rfl : ad237 = ad240 := (by injection e240); replace hx240_0 := (HB.out.cell (World.block_lt_of_cell? w _ hx240_0)).trans hx240_0; replace p240 := eq_true p240; replace q240 := eq_true q240)); try go_wp2_with (first | (go_at_call 51; (with_reducible refine (tellurionref06_in.calls (rd l0_1 x3_1) 2 1000 true _ A5.out).mono ?_); rintro e w' ⟨rfl, ⟨nd, rfl⟩⟩; (try first | exact ⟨rfl, _, World.drewN_drewN _ _ _⟩ | exact ⟨rfl, _, Eq.trans (World.drewN_drewN _ _ _) (congrArg (World.drewN _) (Nat.add_assoc _ _ _))⟩); have p239 : 0 ≤ (x3_1 : Int) := of_decide_eq_true (by first | (with_reducible assumption) | assumption); have q239 : x3_1 < (l0_1.length : Int) := of_decide_eq_true (by first | (with_reducible assumption) | assumption); obtain ⟨ad239, e239, hx239_0⟩ := Kd.at_int HR0_1.out x3_1 p239 q239; obtain rfl : ad237 = ad239 := (by injection e239); replace hx239_0 := (HB.out.cell (World.block_lt_of_cell? w _ hx239_0)).trans hx239_0; replace p239 := eq_true p239; replace q239 := eq_true q239; have p240 : 0 ≤ ((ji8) : Int) := of_decide_eq_true (by first | (with_reducible assumption) | assumption); have q240 : (ji8) < (l0_1.length : Int) := of_decide_eq_true (by first | (with_reducible assumption) | assumption); obtain ⟨ad240, e240, hx240_0⟩ := Kd.at_int HR0_1.out (ji8) p240 q240; obtain rfl : ad237 = ad240 := (by injection e240); replace hx240_0 := (HB.out.cell (World.block_lt_of_cell? w _ hx240_0)).trans hx240_0; replace p240 := eq_true p240; replace q240 := eq_true q240)))
                    go_ret
                    exact ⟨by first | rfl | (simp [errW_none, errW_some] <;> rfl) | (simp only [← hji8]; first | rfl | (simp [errW_none, errW_some] <;> rfl)) | (simp [*, errW_none, errW_some] <;> rfl), by repeat (first | (with_reducible first | exact HB.out | apply below_alloc | apply pw_below_drewN | apply below_drew1 | refine below_set ?_ GE236.out) | exact HB.out)⟩
                  · rw [if_neg c11] at H
                    have c11b0 : decide ((rd l0_1 x3_1) ≤ (rd l0_1 (ji8))) = false := decide_eq_false c11
                    clear c11
                    have H' := Aside0.mk H
                    clear H
                    have hcz13_0 := zC BK236
                    have hfz13_0 := zF BK236
                    have p237 : 0 ≤ (x3_1 : Int) := of_decide_eq_true (by first | (with_reducible assumption) | assumption)
                    have q237 : x3_1 < (l0_1.length : Int) := of_decide_eq_true (by first | (with_reducible assumption) | assumption)
                    obtain ⟨ad237, e237, hx237_0⟩ := Kd.at_int HR0_1.out x3_1 p237 q237
                    cases e237
                    replace hx237_0 := (HB.out.cell (World.block_lt_of_cell? w _ hx237_0)).trans hx237_0
                    replace p237 := eq_true p237
                    replace q237 := eq_true q237
                    go_wp2_with (first | (go_at_call 51; (with_reducible refine (tellurionref06_in.calls (rd l0_1 x3_1) 2 1000 true _ A5.out).mono ?_); rintro e w' ⟨rfl, ⟨nd, rfl⟩⟩; (try first | exact ⟨rfl, _, World.drewN_drewN _ _ _⟩ | exact ⟨rfl, _, Eq.trans (World.drewN_drewN _ _ _) (congrArg (World.drewN _) (Nat.add_assoc _ _ _))⟩); have p239 : 0 ≤ (x3_1 : Int) := of_decide_eq_true (by first | (with_reducible assumption) | assumption); have q239 : x3_1 < (l0_1.length : Int) := of_decide_eq_true (by first | (with_reducible assumption) | assumption); obtain ⟨ad239, e239, hx239_0⟩ := Kd.at_int HR0_1.out x3_1 p239 q239; obtain rfl : ad237 = ad239 := (by injection e239); replace hx239_0 := (HB.out.cell (World.block_lt_of_cell? w _ hx239_0)).trans hx239_0; replace p239 := eq_true p239; replace q239 := eq_true q239; have p240 : 0 ≤ ((ji8) : Int) := of_decide_eq_true (by first | (with_reducible assumption) | assumption); have q240 : (ji8) < (l0_1.length : Int) := of_decide_eq_true (by first | (with_reducible assumption) | assumption); obtain ⟨ad240, e240, hx240_0⟩ := Kd.at_int HR0_1.out (ji8) p240 q240; obtain rfl : ad237 = ad240 := (by injection e240); replace hx240_0 := (HB.out.cell (World.block_lt_of_cell? w _ hx240_0)).trans hx240_0; replace p240 := eq_true p240; replace q240 := eq_true q240))
                    repeat (go_quiet (first | (go_at_call 51; (with_reducible refine (tellurionref06_in.calls (rd l0_1 x3_1) 2 1000 true _ A5.out).mono ?_); rintro e w' ⟨rfl, ⟨nd, rfl⟩⟩; (try first | exact ⟨rfl, _, World.drewN_drewN _ _ _⟩ | exact ⟨rfl, _, Eq.trans (World.drewN_drewN _ _ _) (congrArg (World.drewN _) (Nat.add_assoc _ _ _))⟩); have p239 : 0 ≤ (x3_1 : Int) := of_decide_eq_true (by first | (with_reducible assumption) | assumption); have q239 : x3_1 < (l0_1.length : Int) := of_decide_eq_true (by first | (with_reducible assumption) | assumption); obtain ⟨ad239, e239, hx239_0⟩ := Kd.at_int HR0_1.out x3_1 p239 q239; obtain rfl : ad237 = ad239 := (by injection e239); replace hx239_0 := (HB.out.cell (World.block_lt_of_cell? w _ hx239_0)).trans hx239_0; replace p239 := eq_true p239; replace q239 := eq_true q239; have p240 : 0 ≤ ((ji8) : Int) := of_decide_eq_true (by first | (with_reducible assumption) | assumption); have q240 : (ji8) < (l0_1.length : Int) := of_decide_eq_true (by first | (with_reducible assumption) | assumption); obtain ⟨ad240, e240, hx240_0⟩ := Kd.at_int HR0_1.out (ji8) p240 q240; obtain rfl : ad237 = ad240 := (by injection e240); replace hx240_0 := (HB.out.cell (World.block_lt_of_cell? w _ hx240_0)).trans hx240_0; replace p240 := eq_true p240; replace q240 := eq_true q240)); try go_wp2_with (first | (go_at_call 51; (with_reducible refine (tellurionref06_in.calls (rd l0_1 x3_1) 2 1000 true _ A5.out).mono ?_); rintro e w' ⟨rfl, ⟨nd, rfl⟩⟩; (try first | exact ⟨rfl, _, World.drewN_drewN _ _ _⟩ | exact ⟨rfl, _, Eq.trans (World.drewN_drewN _ _ _) (congrArg (World.drewN _) (Nat.add_assoc _ _ _))⟩); have p239 : 0 ≤ (x3_1 : Int) := of_decide_eq_true (by first | (with_reducible assumption) | assumption); have q239 : x3_1 < (l0_1.length : Int) := of_decide_eq_true (by first | (with_reducible assumption) | assumption); obtain ⟨ad239, e239, hx239_0⟩ := Kd.at_int HR0_1.out x3_1 p239 q239; obtain rfl : ad237 = ad239 := (by injection e239); replace hx239_0 := (HB.out.cell (World.block_lt_of_cell? w _ hx239_0)).trans hx239_0; replace p239 := eq_true p239; replace q239 := eq_true q239; have p240 : 0 ≤ ((ji8) : Int) := of_decide_eq_true (by first | (with_reducible assumption) | assumption); have q240 : (ji8) < (l0_1.length : Int) := of_decide_eq_true (by first | (with_reducible assumption) | assumption); obtain ⟨ad240, e240, hx240_0⟩ := Kd.at_int HR0_1.out (ji8) p240 q240; obtain rfl : ad237 = ad240 := (by injection e240); replace hx240_0 := (HB.out.cell (World.block_lt_of_cell? w _ hx240_0)).trans hx240_0; replace p240 := eq_true p240; replace q240 := eq_true q240)))
                    go_roundg k1
                    case measure => have := HK1.out; omega
                    case rel => exact ⟨(wrap64 (x3_1 + 1)), zz, H', ⟨by have := HK1.out; omega⟩, ⟨zh BK236⟩, ⟨zqs⟩⟩
                · rw [if_neg c10] at H
                  exact absurd H (by simp)
              · rw [if_neg c9] at H
                exact absurd H (by simp)
            · rw [if_neg c7] at H
              have c7b0 : decide (0 < x3_1) = false := decide_eq_false c7
              clear c7
              have H' := Aside0.mk H
              clear H
              have hcz14_0 := zC BK236
              have hfz14_0 := zF BK236
              have p237 : 0 ≤ (x3_1 : Int) := of_decide_eq_true (by first | (with_reducible assumption) | assumption)
              have q237 : x3_1 < (l0_1.length : Int) := of_decide_eq_true (by first | (with_reducible assumption) | assumption)
              obtain ⟨ad237, e237, hx237_0⟩ := Kd.at_int HR0_1.out x3_1 p237 q237
              cases e237
              replace hx237_0 := (HB.out.cell (World.block_lt_of_cell? w _ hx237_0)).trans hx237_0
              replace p237 := eq_true p237
              replace q237 := eq_true q237
              go_wp2_with (first | (go_at_call 51; (with_reducible refine (tellurionref06_in.calls (rd l0_1 x3_1) 2 1000 true _ A5.out).mono ?_); rintro e w' ⟨rfl, ⟨nd, rfl⟩⟩; (try first | exact ⟨rfl, _, World.drewN_drewN _ _ _⟩ | exact ⟨rfl, _, Eq.trans (World.drewN_drewN _ _ _) (congrArg (World.drewN _) (Nat.add_assoc _ _ _))⟩)))
              repeat (go_quiet (first | (go_at_call 51; (with_reducible refine (tellurionref06_in.calls (rd l0_1 x3_1) 2 1000 true _ A5.out).mono ?_); rintro e w' ⟨rfl, ⟨nd, rfl⟩⟩; (try first | exact ⟨rfl, _, World.drewN_drewN _ _ _⟩ | exact ⟨rfl, _, Eq.trans (World.drewN_drewN _ _ _) (congrArg (World.drewN _) (Nat.add_assoc _ _ _))⟩))); try go_wp2_with (first | (go_at_call 51; (with_reducible refine (tellurionref06_in.calls (rd l0_1 x3_1) 2 1000 true _ A5.out).mono ?_); rintro e w' ⟨rfl, ⟨nd, rfl⟩⟩; (try first | exact ⟨rfl, _, World.drewN_drewN _ _ _⟩ | exact ⟨rfl, _, Eq.trans (World.drewN_drewN _ _ _) (congrArg (World.drewN _) (Nat.add_assoc _ _ _))⟩))))
              go_roundg k1
              case measure => have := HK1.out; omega
              case rel => exact ⟨(wrap64 (x3_1 + 1)), zz, H', ⟨by have := HK1.out; omega⟩, ⟨zh BK236⟩, ⟨zqs⟩⟩
          · replace c6 := Bool.eq_false_iff.mpr c6
            subst c6
            have H1 : (some false) = some r := by rw [if_neg (show ¬ (false = true) by decide)] at H; exact H
            clear H
            have H := H1
            clear H1
            obtain rfl := Option.some.inj H
            have hcz15_0 := zC BK236
            have hfz15_0 := zF BK236
            have p237 : 0 ≤ (x3_1 : Int) := of_decide_eq_true (by first | (with_reducible assumption) | assumption)
            have q237 : x3_1 < (l0_1.length : Int) := of_decide_eq_true (by first | (with_reducible assumption) | assumption)
            obtain ⟨ad237, e237, hx237_0⟩ := Kd.at_int HR0_1.out x3_1 p237 q237
            cases e237
            replace hx237_0 := (HB.out.cell (World.block_lt_of_cell? w _ hx237_0)).trans hx237_0
            replace p237 := eq_true p237
            replace q237 := eq_true q237
            go_wp2_with (first | (go_at_call 51; (with_reducible refine (tellurionref06_in.calls (rd l0_1 x3_1) 2 1000 false _ A5.out).mono ?_); rintro e w' ⟨rfl, ⟨nd, rfl⟩⟩; (try first | exact ⟨rfl, _, World.drewN_drewN _ _ _⟩ | exact ⟨rfl, _, Eq.trans (World.drewN_drewN _ _ _) (congrArg (World.drewN _) (Nat.add_assoc _ _ _))⟩)))
            repeat (go_quiet (first | (go_at_call 51; (with_reducible refine (tellurionref06_in.calls (rd l0_1 x3_1) 2 1000 false _ A5.out).mono ?_); rintro e w' ⟨rfl, ⟨nd, rfl⟩⟩; (try first | exact ⟨rfl, _, World.drewN_drewN _ _ _⟩ | exact ⟨rfl, _, Eq.trans (World.drewN_drewN _ _ _) (congrArg (World.drewN _) (Nat.add_assoc _ _ _))⟩))); try go_wp2_with (first | (go_at_call 51; (with_reducible refine (tellurionref06_in.calls (rd l0_1 x3_1) 2 1000 false _ A5.out).mono ?_); rintro e w' ⟨rfl, ⟨nd, rfl⟩⟩; (try first | exact ⟨rfl, _, World.drewN_drewN _ _ _⟩ | exact ⟨rfl, _, Eq.trans (World.drewN_drewN _ _ _) (congrArg (World.drewN _) (Nat.add_assoc _ _ _))⟩))))
            go_ret
            exact ⟨zE, zqs⟩
        · rw [if_neg c4] at H
          exact absurd H (by simp)
      · rw [if_neg c3] at H
        have c3b0 : decide (x3_1 < (l0_1.length : Int)) = false := decide_eq_false c3
        clear c3
        replace H := Option.bind_eq_some_iff.mp H
        obtain ⟨t241, A160, H⟩ := H
        replace H : (if t241 = true then ((tellurionref06_in.f (l0_1.length : Int) 1 3).bind fun t242 => (some t242)) else (some false)) = some r := H
        have A16 := Aside0.mk A160
        clear A160
        by_cases c17 : t241 = true
        · subst c17
          have H1 : ((tellurionref06_in.f (l0_1.length : Int) 1 3).bind fun t242 => (some t242)) = some r := by rw [if_pos rfl] at H; exact H
          clear H
          have H := H1
          clear H1
          replace H := Option.bind_eq_some_iff.mp H
          obtain ⟨t242, A180, H⟩ := H
          replace H : (some t242) = some r := H
          have A18 := Aside0.mk A180
          clear A180
          obtain rfl := Option.some.inj H
          have hcz19_0 := zC BK236
          have hfz19_0 := zF BK236
          go_wp2_with (first | (go_at_call 51; (with_reducible refine (tellurionref06_in.calls a0_0 0 1000 true _ A16.out).mono ?_); rintro e w' ⟨rfl, ⟨nd, rfl⟩⟩; (try first | exact ⟨rfl, _, World.drewN_drewN _ _ _⟩ | exact ⟨rfl, _, Eq.trans (World.drewN_drewN _ _ _) (congrArg (World.drewN _) (Nat.add_assoc _ _ _))⟩)) | (go_at_call 51; (with_reducible refine (tellurionref06_in.calls (l0_1.length : Int) 1 3 t242 _ A18.out).mono ?_); rintro e w' ⟨rfl, ⟨nd, rfl⟩⟩; (try first | exact ⟨rfl, _, World.drewN_drewN _ _ _⟩ | exact ⟨rfl, _, Eq.trans (World.drewN_drewN _ _ _) (congrArg (World.drewN _) (Nat.add_assoc _ _ _))⟩)))
          repeat (go_quiet (first | (go_at_call 51; (with_reducible refine (tellurionref06_in.calls a0_0 0 1000 true _ A16.out).mono ?_); rintro e w' ⟨rfl, ⟨nd, rfl⟩⟩; (try first | exact ⟨rfl, _, World.drewN_drewN _ _ _⟩ | exact ⟨rfl, _, Eq.trans (World.drewN_drewN _ _ _) (congrArg (World.drewN _) (Nat.add_assoc _ _ _))⟩)) | (go_at_call 51; (with_reducible refine (tellurionref06_in.calls (l0_1.length : Int) 1 3 t242 _ A18.out).mono ?_); rintro e w' ⟨rfl, ⟨nd, rfl⟩⟩; (try first | exact ⟨rfl, _, World.drewN_drewN _ _ _⟩ | exact ⟨rfl, _, Eq.trans (World.drewN_drewN _ _ _) (congrArg (World.drewN _) (Nat.add_assoc _ _ _))⟩))); try go_wp2_with (first | (go_at_call 51; (with_reducible refine (tellurionref06_in.calls a0_0 0 1000 true _ A16.out).mono ?_); rintro e w' ⟨rfl, ⟨nd, rfl⟩⟩; (try first | exact ⟨rfl, _, World.drewN_drewN _ _ _⟩ | exact ⟨rfl, _, Eq.trans (World.drewN_drewN _ _ _) (congrArg (World.drewN _) (Nat.add_assoc _ _ _))⟩)) | (go_at_call 51; (with_reducible refine (tellurionref06_in.calls (l0_1.length : Int) 1 3 t242 _ A18.out).mono ?_); rintro e w' ⟨rfl, ⟨nd, rfl⟩⟩; (try first | exact ⟨rfl, _, World.drewN_drewN _ _ _⟩ | exact ⟨rfl, _, Eq.trans (World.drewN_drewN _ _ _) (congrArg (World.drewN _) (Nat.add_assoc _ _ _))⟩))))
          go_ret
          exact ⟨zE, zqs⟩
        · replace c17 := Bool.eq_false_iff.mpr c17
          subst c17
          have H1 : (some false) = some r := by rw [if_neg (show ¬ (false = true) by decide)] at H; exact H
          clear H
          have H := H1
          clear H1
          obtain rfl := Option.some.inj H
          have hcz20_0 := zC BK236
          have hfz20_0 := zF BK236
          go_wp2_with (first | (go_at_call 51; (with_reducible refine (tellurionref06_in.calls a0_0 0 1000 false _ A16.out).mono ?_); rintro e w' ⟨rfl, ⟨nd, rfl⟩⟩; (try first | exact ⟨rfl, _, World.drewN_drewN _ _ _⟩ | exact ⟨rfl, _, Eq.trans (World.drewN_drewN _ _ _) (congrArg (World.drewN _) (Nat.add_assoc _ _ _))⟩)))
          repeat (go_quiet (first | (go_at_call 51; (with_reducible refine (tellurionref06_in.calls a0_0 0 1000 false _ A16.out).mono ?_); rintro e w' ⟨rfl, ⟨nd, rfl⟩⟩; (try first | exact ⟨rfl, _, World.drewN_drewN _ _ _⟩ | exact ⟨rfl, _, Eq.trans (World.drewN_drewN _ _ _) (congrArg (World.drewN _) (Nat.add_assoc _ _ _))⟩))); try go_wp2_with (first | (go_at_call 51; (with_reducible refine (tellurionref06_in.calls a0_0 0 1000 false _ A16.out).mono ?_); rintro e w' ⟨rfl, ⟨nd, rfl⟩⟩; (try first | exact ⟨rfl, _, World.drewN_drewN _ _ _⟩ | exact ⟨rfl, _, Eq.trans (World.drewN_drewN _ _ _) (congrArg (World.drewN _) (Nat.add_assoc _ _ _))⟩))))
          go_ret
          exact ⟨zE, zqs⟩
def qYear.f (a0 : Int) : Option (Bool) := (tellurionref06_in.f a0 0 4000).bind fun t243 => (some t243)
set_option maxHeartbeats 8000000 in
set_option maxRecDepth 100000 in
theorem qYear.calls (a0 : Int) (r : Bool) (w : World) (h : qYear.f a0 = some r) :
    Calls Tryz.prog 15 #[.int .i64 a0] w fun e w' => e = .returned (.bool r) ∧ Drawn0 w w' := by
  have H : ((tellurionref06_in.f a0 0 4000).bind fun t243 => (some t243)) = some r := h
  clear h
  replace H := Option.bind_eq_some_iff.mp H
  obtain ⟨t243, A20, H⟩ := H
  replace H : (some t243) = some r := H
  have A2 := Aside0.mk A20
  clear A20
  obtain rfl := Option.some.inj H
  go_enter Tryz.func15, Tryz.ntmps15
  go_wp2_with (first | ((with_reducible refine gate_callee (f := 51) rfl ?_); refine zGl (some 4) Tryz.func51 #[.int .i64 a0, .int .i64 0, .int .i64 4000] ?_; (with_reducible refine (tellurionref06_in.calls a0 0 4000 t243 _ A2.out).mono ?_); rintro e w' ⟨rfl, ⟨nd, rfl⟩⟩; refine ⟨_, rfl, ?_⟩))
  go_ret
  exact ⟨by first | rfl | (simp; done) | (simp [*]; done), by repeat (first | exact Drawn0.refl _ | apply Drawn0.step)⟩
def qLeap.l0 : Nat → Int → Int → Int → Int → List Int → Option (Bool)
  | 0, _, _, _, _, _ => none
  | k + 1, x1, x5, x6, x245000, x245001 => if x6 < (x245001.length : Int) then (if 0 ≤ x6 then (if (rd x245001 x6) = 0 then (none) else (if (Int.tmod x1 (rd x245001 x6)) = 0 then (qLeap.l0 k x1 (wrap64 (x5 + 1)) (wrap64 (x6 + 1)) x245000 x245001) else (qLeap.l0 k x1 x5 (wrap64 (x6 + 1)) x245000 x245001))) else (none)) else (some ((Int.tmod x5 2) == 1))
def qLeap.f (k : Nat) (a0_0 : Int) (l0_1 : List Int) (a1 : Int) : Option (Bool) := qLeap.l0 k a1 0 0 a0_0 l0_1
set_option maxHeartbeats 8000000 in
set_option maxRecDepth 100000 in
theorem qLeap.calls (k : Nat) (a0_0 : Int) (A0_1 : Option Addr) (c0_1 : Nat) (l0_1 : List Int) (a1 : Int) (r : Bool) (w : World) (hr0_1 : Kd.C (Kd.int .i64) w A0_1 l0_1.length l0_1) (hc0_1 : l0_1.length ≤ c0_1) (h : qLeap.f k a0_0 l0_1 a1 = some r) :
    Calls Tryz.prog 53 #[.agg #[.int .i64 a0_0, .slice A0_1 l0_1.length c0_1], .int .i64 a1] w fun e w' => e = .returned (.bool r) ∧ Below w.heap.size w w' := by
  have hu24 := Tryz.underlying24
  have HR0_1 := Aside0.mk hr0_1
  have HC0_1 := Aside0.mk hc0_1
  clear hr0_1 hc0_1
  have HB := Aside0.mk (Below.refl w.heap.size w)
  have H : (qLeap.l0 k a1 0 0 a0_0 l0_1) = some r := h
  clear h
  have H' := Aside0.mk H
  clear H
  go_enter Tryz.func53, Tryz.ntmps53
  go_wp2_with (first | ((with_reducible refine zG 2 rfl ?_); refine zBox 2 #[.int .i64 a0_0, .slice A0_1 l0_1.length c0_1] 24 ?_; intro gb244 hg w3 hbox hb; have BK244 := Aside0.mk (hbox); have GW244 := Aside0.mk ((by rw [hg]; exact (below_size zq) : w.heap.size ≤ gb244)); have GE244 := Aside0.mk ((by rw [hg]; exact (below_size zq) : w.heap.size ≤ gb244)); replace HB := Aside0.mk (below_step zq hb); clear hb hbox hg))
  go_loopg [5, 6] k (fun kq v5 v6 w' => ∃ (x5_1 : Int) (x6_1 : Int), v5 = .int .i64 x5_1 ∧ v6 = .int .i64 x6_1 ∧ Aside0 (qLeap.l0 kq a1 x5_1 x6_1 a0_0 l0_1 = some r) ∧ Aside0 (kq ≤ k) ∧ Aside0 (w'.heap[gb244]? = some (.cells #[.int .i64 a0_0, (.slice A0_1 l0_1.length c0_1)] 24 (0, 0))) ∧ Aside0 (Below w.heap.size w w'))
  case atStart => exact ⟨(0), (0), zz, zz, H', ⟨Nat.le_refl _⟩, ⟨zh BK244⟩, ⟨zqs⟩⟩
  case round =>
    clear H'
    try clear p2
    obtain ⟨x5_1, x6_1, rfl, rfl, HA, HK1, BK244, HB⟩ := hrel
    cases gk with
    | zero => exact absurd HA.out (by simp [qLeap.l0])
    | succ k1 =>
      have H := HA.out
      clear HA
      simp only [qLeap.l0] at H
      by_cases c4 : x6_1 < (l0_1.length : Int)
      · rw [if_pos c4] at H
        have c4b0 : decide (x6_1 < (l0_1.length : Int)) = true := decide_eq_true c4
        clear c4
        by_cases c5 : 0 ≤ x6_1
        · rw [if_pos c5] at H
          have c5b0 : decide (0 ≤ x6_1) = true := decide_eq_true c5
          clear c5
          by_cases c6 : (rd l0_1 x6_1) = 0
          · rw [if_pos c6] at H
            exact absurd H (by simp)
          · rw [if_neg c6] at H
            have c6b0 : ((rd l0_1 x6_1) == 0) = false := beq_eq_false_iff_ne.mpr c6
            have c6b1 : ((rd l0_1 x6_1) != 0) = true := bne_iff_ne.mpr c6
            by_cases c7 : (Int.tmod a1 (rd l0_1 x6_1)) = 0
            · rw [if_pos c7] at H
              have c7b0 : ((Int.tmod a1 (rd l0_1 x6_1)) == 0) = true := beq_iff_eq.mpr c7
              have c7b1 : ((Int.tmod a1 (rd l0_1 x6_1)) != 0) = false := bne_eq_false_iff_eq.mpr c7
              clear c7
              have H' := Aside0.mk H
              clear H
              have hcz8_0 := zC BK244
              have hfz8_0 := zF BK244
              have p245 : 0 ≤ (x6_1 : Int) := of_decide_eq_true (by first | (with_reducible assumption) | assumption)
              have q245 : x6_1 < (l0_1.length : Int) := of_decide_eq_true (by first | (with_reducible assumption) | assumption)
              obtain ⟨ad245, e245, hx245_0⟩ := Kd.at_int HR0_1.out x6_1 p245 q245
              cases e245
              replace hx245_0 := (HB.out.cell (World.block_lt_of_cell? w _ hx245_0)).trans hx245_0
              replace p245 := eq_true p245
              replace q245 := eq_true q245
              go_wp2
              go_roundg k1
              case measure => have := HK1.out; omega
              case rel => exact ⟨(wrap64 (x5_1 + 1)), (wrap64 (x6_1 + 1)), zz, zz, H', ⟨by have := HK1.out; omega⟩, ⟨zh BK244⟩, ⟨zqs⟩⟩
            · rw [if_neg c7] at H
              have c7b0 : ((Int.tmod a1 (rd l0_1 x6_1)) == 0) = false := beq_eq_false_iff_ne.mpr c7
              have c7b1 : ((Int.tmod a1 (rd l0_1 x6_1)) != 0) = true := bne_iff_ne.mpr c7
              have H' := Aside0.mk H
              clear H
              have hcz9_0 := zC BK244
              have hfz9_0 := zF BK244
              have p245 : 0 ≤ (x6_1 : Int) := of_decide_eq_true (by first | (with_reducible assumption) | assumption)
              have q245 : x6_1 < (l0_1.length : Int) := of_decide_eq_true (by first | (with_reducible assumption) | assumption)
              obtain ⟨ad245, e245, hx245_0⟩ := Kd.at_int HR0_1.out x6_1 p245 q245
              cases e245
              replace hx245_0 := (HB.out.cell (World.block_lt_of_cell? w _ hx245_0)).trans hx245_0
              replace p245 := eq_true p245
              replace q245 := eq_true q245
              go_wp2
              go_roundg k1
              case measure => have := HK1.out; omega
              case rel => exact ⟨(x5_1), (wrap64 (x6_1 + 1)), zz, zz, H', ⟨by have := HK1.out; omega⟩, ⟨zh BK244⟩, ⟨zqs⟩⟩
        · rw [if_neg c5] at H
          exact absurd H (by simp)
      · rw [if_neg c4] at H
        have c4b0 : decide (x6_1 < (l0_1.length : Int)) = false := decide_eq_false c4
        clear c4
        obtain rfl := Option.some.inj H
        have hcz10_0 := zC BK244
        have hfz10_0 := zF BK244
        go_wp2
        go_ret
        exact ⟨zE, zqs⟩
def qLength.f (a0 : Int) (a1 : Bool) : Option (Int) := if a0 = 2 then (if a1 = true then (some 29) else ((some (([31, 28, 31, 30, 31, 30, 31, 31, 30, 31, 30, 31] : List Int) : List Int)).bind fun y278 => (if 0 ≤ (wrap64 (a0 - 1)) then (if (wrap64 (a0 - 1)) < (y278.length : Int) then (some (rd y278 (wrap64 (a0 - 1)))) else (none)) else (none)))) else ((some (([31, 28, 31, 30, 31, 30, 31, 31, 30, 31, 30, 31] : List Int) : List Int)).bind fun y282 => (if 0 ≤ (wrap64 (a0 - 1)) then (if (wrap64 (a0 - 1)) < (y282.length : Int) then (some (rd y282 (wrap64 (a0 - 1)))) else (none)) else (none)))
set_option maxHeartbeats 8000000 in
set_option maxRecDepth 100000 in
theorem qLength.calls (a0 : Int) (a1 : Bool) (r : Int) (w : World) (h : qLength.f a0 a1 = some r) :
    Calls Tryz.prog 20 #[.int .i64 a0, .bool a1] w fun e w' => e = .returned (.int .i64 r) ∧ Below w.heap.size w w' := by
  have HB := Aside0.mk (Below.refl w.heap.size w)
  have H : (if a0 = 2 then (if a1 = true then (some 29) else ((some (([31, 28, 31, 30, 31, 30, 31, 31, 30, 31, 30, 31] : List Int) : List Int)).bind fun y278 => (if 0 ≤ (wrap64 (a0 - 1)) then (if (wrap64 (a0 - 1)) < (y278.length : Int) then (some (rd y278 (wrap64 (a0 - 1)))) else (none)) else (none)))) else ((some (([31, 28, 31, 30, 31, 30, 31, 31, 30, 31, 30, 31] : List Int) : List Int)).bind fun y282 => (if 0 ≤ (wrap64 (a0 - 1)) then (if (wrap64 (a0 - 1)) < (y282.length : Int) then (some (rd y282 (wrap64 (a0 - 1)))) else (none)) else (none)))) = some r := h
  clear h
  by_cases c3 : a0 = 2
  · rw [if_pos c3] at H
    have c3b0 : (a0 == 2) = true := beq_iff_eq.mpr c3
    have c3b1 : (a0 != 2) = false := bne_eq_false_iff_eq.mpr c3
    clear c3
    by_cases c4 : a1 = true
    · subst c4
      have H1 : (some 29) = some r := by rw [if_pos rfl] at H; exact H
      clear H
      have H := H1
      clear H1
      obtain rfl := Option.some.inj H
      go_enter Tryz.func20, Tryz.ntmps20
      go_wp2
      go_ret
      exact ⟨zE, zq⟩
    · replace c4 := Bool.eq_false_iff.mpr c4
      subst c4
      have H1 : ((some (([31, 28, 31, 30, 31, 30, 31, 31, 30, 31, 30, 31] : List Int) : List Int)).bind fun y278 => (if 0 ≤ (wrap64 (a0 - 1)) then (if (wrap64 (a0 - 1)) < (y278.length : Int) then (some (rd y278 (wrap64 (a0 - 1)))) else (none)) else (none))) = some r := by rw [if_neg (show ¬ (false = true) by decide)] at H; exact H
      clear H
      have H := H1
      clear H1
      obtain ⟨y278, hy278⟩ : ∃ y_ : List Int, y_ = (([31, 28, 31, 30, 31, 30, 31, 31, 30, 31, 30, 31] : List Int)) := ⟨_, rfl⟩
      replace H : (if 0 ≤ (wrap64 (a0 - 1)) then (if (wrap64 (a0 - 1)) < (y278.length : Int) then (some (rd y278 (wrap64 (a0 - 1)))) else (none)) else (none)) = some r := by first | (rw [hy278]; with_reducible exact H) | (have H2_ := (Option.bind_some _ _).symm.trans H; rw [hy278]; with_reducible exact H2_) | (have H2_ := (Option.bind_some _ _).symm.trans H; with_reducible exact H2_) | with_reducible exact H | (rw [hy278]; exact H) | exact H
      have Ny278 := Aside0.mk hy278
      clear hy278
      obtain ⟨ji5, hji5⟩ : ∃ j_ : Int, (wrap64 (a0 - 1)) = j_ := ⟨_, rfl⟩
      replace H : (if 0 ≤ (ji5) then (if (ji5) < (y278.length : Int) then (some (rd y278 (ji5))) else (none)) else (none)) = some r := by first | (rw [hji5] at H; exact H) | (simp only [hji5] at H ⊢; exact H)
      have hji5w : (IntKind.i64.wrap (a0 - 1)) = ji5 := (i64_w _).trans hji5
      by_cases c6 : 0 ≤ (ji5)
      · rw [if_pos c6] at H
        have c6b0 : decide (0 ≤ (ji5)) = true := decide_eq_true c6
        clear c6
        by_cases c7 : (ji5) < (y278.length : Int)
        · rw [if_pos c7] at H
          have c7b0 : decide ((ji5) < (y278.length : Int)) = true := decide_eq_true c7
          clear c7
          obtain rfl := Option.some.inj H
          go_enter Tryz.func20, Tryz.ntmps20
          go_wp2_with (first | ((with_reducible refine zG 10 rfl ?_); refine Kd.R_lit (Kd.int .i64) _ 3 ?hg (N := 10) ?hd (xs := ([31, 28, 31, 30, 31, 30, 31, 31, 30, 31, 30, 31] : List Int)) (inner := [.int .i64 31, .int .i64 28, .int .i64 31, .int .i64 30, .int .i64 31, .int .i64 30, .int .i64 31, .int .i64 31, .int .i64 30, .int .i64 31, .int .i64 30, .int .i64 31]) (ok := fun _ => True) (okp := fun _ => True) ?hr ?hp (fun _ hk => hk) trivial (Below.refl _ _) (Nat.le_refl _) (by simp) ?_; (case hd => rfl); (case hg => rfl); (case hr => first | (go_simp; done) | (go_simp; rfl)); (case hp => exact (Reps.one (show Kd.M (Kd.int .i64) _ _ _ 31 [.int .i64 31] from rfl) (Reps.one (show Kd.M (Kd.int .i64) _ _ _ 28 [.int .i64 28] from rfl) (Reps.one (show Kd.M (Kd.int .i64) _ _ _ 31 [.int .i64 31] from rfl) (Reps.one (show Kd.M (Kd.int .i64) _ _ _ 30 [.int .i64 30] from rfl) (Reps.one (show Kd.M (Kd.int .i64) _ _ _ 31 [.int .i64 31] from rfl) (Reps.one (show Kd.M (Kd.int .i64) _ _ _ 30 [.int .i64 30] from rfl) (Reps.one (show Kd.M (Kd.int .i64) _ _ _ 31 [.int .i64 31] from rfl) (Reps.one (show Kd.M (Kd.int .i64) _ _ _ 31 [.int .i64 31] from rfl) (Reps.one (show Kd.M (Kd.int .i64) _ _ _ 30 [.int .i64 30] from rfl) (Reps.one (show Kd.M (Kd.int .i64) _ _ _ 31 [.int .i64 31] from rfl) (Reps.one (show Kd.M (Kd.int .i64) _ _ _ 30 [.int .i64 30] from rfl) (Reps.one (show Kd.M (Kd.int .i64) _ _ _ 31 [.int .i64 31] from rfl) (Reps.none _ _)))))))))))))); intro v279 w8 ho9 hb hg_ hnew_; clear hg_ hnew_; (first | rw [← Ny278.out] at ho9 | (simp only [Int.reduceToNat] at ho9; rw [← Ny278.out] at ho9)); have HO280 := Aside0.mk (Kd.R_lower ho9 (below_size zq)); replace HB := Aside0.mk (below_step zq hb); clear hb ho9; obtain ⟨Ao10, co10, eo10⟩ := Kd.R_slice HO280.out; subst eo10; have p281 : 0 ≤ ((ji5) : Int) := of_decide_eq_true (by first | (with_reducible assumption) | assumption); have q281 : (ji5) < (y278.length : Int) := of_decide_eq_true (by first | (with_reducible assumption) | assumption); obtain ⟨ad281, e281, hx281_0⟩ := Kd.at_int (Kd.R_reads' HO280.out).2.2 (ji5) p281 q281; cases e281; replace p281 := eq_true p281; replace q281 := eq_true q281))
          go_ret
          exact ⟨by first | rfl | (simp [errW_none, errW_some] <;> rfl) | (simp only [← hji5]; first | rfl | (simp [errW_none, errW_some] <;> rfl)) | (simp [*, errW_none, errW_some] <;> rfl), by repeat (first | (with_reducible first | exact HB.out | apply below_alloc | apply pw_below_drewN | apply below_drew1) | exact HB.out)⟩
        · rw [if_neg c7] at H
          exact absurd H (by simp)
      · rw [if_neg c6] at H
        exact absurd H (by simp)
  · rw [if_neg c3] at H
    have c3b0 : (a0 == 2) = false := beq_eq_false_iff_ne.mpr c3
    have c3b1 : (a0 != 2) = true := bne_iff_ne.mpr c3
    obtain ⟨y282, hy282⟩ : ∃ y_ : List Int, y_ = (([31, 28, 31, 30, 31, 30, 31, 31, 30, 31, 30, 31] : List Int)) := ⟨_, rfl⟩
    replace H : (if 0 ≤ (wrap64 (a0 - 1)) then (if (wrap64 (a0 - 1)) < (y282.length : Int) then (some (rd y282 (wrap64 (a0 - 1)))) else (none)) else (none)) = some r := by first | (rw [hy282]; with_reducible exact H) | (have H2_ := (Option.bind_some _ _).symm.trans H; rw [hy282]; with_reducible exact H2_) | (have H2_ := (Option.bind_some _ _).symm.trans H; with_reducible exact H2_) | with_reducible exact H | (rw [hy282]; exact H) | exact H
    have Ny282 := Aside0.mk hy282
    clear hy282
    obtain ⟨ji11, hji11⟩ : ∃ j_ : Int, (wrap64 (a0 - 1)) = j_ := ⟨_, rfl⟩
    replace H : (if 0 ≤ (ji11) then (if (ji11) < (y282.length : Int) then (some (rd y282 (ji11))) else (none)) else (none)) = some r := by first | (rw [hji11] at H; exact H) | (simp only [hji11] at H ⊢; exact H)
    have hji11w : (IntKind.i64.wrap (a0 - 1)) = ji11 := (i64_w _).trans hji11
    by_cases c12 : 0 ≤ (ji11)
    · rw [if_pos c12] at H
      have c12b0 : decide (0 ≤ (ji11)) = true := decide_eq_true c12
      clear c12
      by_cases c13 : (ji11) < (y282.length : Int)
      · rw [if_pos c13] at H
        have c13b0 : decide ((ji11) < (y282.length : Int)) = true := decide_eq_true c13
        clear c13
        obtain rfl := Option.some.inj H
        go_enter Tryz.func20, Tryz.ntmps20
        go_wp2_with (first | ((with_reducible refine zG 10 rfl ?_); refine Kd.R_lit (Kd.int .i64) _ 3 ?hg (N := 10) ?hd (xs := ([31, 28, 31, 30, 31, 30, 31, 31, 30, 31, 30, 31] : List Int)) (inner := [.int .i64 31, .int .i64 28, .int .i64 31, .int .i64 30, .int .i64 31, .int .i64 30, .int .i64 31, .int .i64 31, .int .i64 30, .int .i64 31, .int .i64 30, .int .i64 31]) (ok := fun _ => True) (okp := fun _ => True) ?hr ?hp (fun _ hk => hk) trivial (Below.refl _ _) (Nat.le_refl _) (by simp) ?_; (case hd => rfl); (case hg => rfl); (case hr => first | (go_simp; done) | (go_simp; rfl)); (case hp => exact (Reps.one (show Kd.M (Kd.int .i64) _ _ _ 31 [.int .i64 31] from rfl) (Reps.one (show Kd.M (Kd.int .i64) _ _ _ 28 [.int .i64 28] from rfl) (Reps.one (show Kd.M (Kd.int .i64) _ _ _ 31 [.int .i64 31] from rfl) (Reps.one (show Kd.M (Kd.int .i64) _ _ _ 30 [.int .i64 30] from rfl) (Reps.one (show Kd.M (Kd.int .i64) _ _ _ 31 [.int .i64 31] from rfl) (Reps.one (show Kd.M (Kd.int .i64) _ _ _ 30 [.int .i64 30] from rfl) (Reps.one (show Kd.M (Kd.int .i64) _ _ _ 31 [.int .i64 31] from rfl) (Reps.one (show Kd.M (Kd.int .i64) _ _ _ 31 [.int .i64 31] from rfl) (Reps.one (show Kd.M (Kd.int .i64) _ _ _ 30 [.int .i64 30] from rfl) (Reps.one (show Kd.M (Kd.int .i64) _ _ _ 31 [.int .i64 31] from rfl) (Reps.one (show Kd.M (Kd.int .i64) _ _ _ 30 [.int .i64 30] from rfl) (Reps.one (show Kd.M (Kd.int .i64) _ _ _ 31 [.int .i64 31] from rfl) (Reps.none _ _)))))))))))))); intro v283 w14 ho15 hb hg_ hnew_; clear hg_ hnew_; (first | rw [← Ny282.out] at ho15 | (simp only [Int.reduceToNat] at ho15; rw [← Ny282.out] at ho15)); have HO284 := Aside0.mk (Kd.R_lower ho15 (below_size zq)); replace HB := Aside0.mk (below_step zq hb); clear hb ho15; obtain ⟨Ao16, co16, eo16⟩ := Kd.R_slice HO284.out; subst eo16; have p285 : 0 ≤ ((ji11) : Int) := of_decide_eq_true (by first | (with_reducible assumption) | assumption); have q285 : (ji11) < (y282.length : Int) := of_decide_eq_true (by first | (with_reducible assumption) | assumption); obtain ⟨ad285, e285, hx285_0⟩ := Kd.at_int (Kd.R_reads' HO284.out).2.2 (ji11) p285 q285; cases e285; replace p285 := eq_true p285; replace q285 := eq_true q285))
        go_ret
        exact ⟨by first | rfl | (simp [errW_none, errW_some] <;> rfl) | (simp only [← hji11]; first | rfl | (simp [errW_none, errW_some] <;> rfl)) | (simp [*, errW_none, errW_some] <;> rfl), by repeat (first | (with_reducible first | exact HB.out | apply below_alloc | apply pw_below_drewN | apply below_drew1) | exact HB.out)⟩
      · rw [if_neg c13] at H
        exact absurd H (by simp)
    · rw [if_neg c12] at H
      exact absurd H (by simp)
def qWritten.f (a0_0 : Int) (a0_1 : Int) (a0_2 : Int) : Option (Bool) := (qYear.f a0_0).bind fun t287 => (if t287 = true then ((tellurionref06_in.f a0_1 1 12).bind fun t288 => (if t288 = true then ((tellurionref06_in.f a0_2 1 31).bind fun t289 => (some t289)) else (some false))) else (some false))
set_option maxHeartbeats 8000000 in
set_option maxRecDepth 100000 in
theorem qWritten.calls (a0_0 : Int) (a0_1 : Int) (a0_2 : Int) (r : Bool) (w : World) (h : qWritten.f a0_0 a0_1 a0_2 = some r) :
    Calls Tryz.prog 55 #[.agg #[.int .i64 a0_0, .int .i64 a0_1, .int .i64 a0_2]] w fun e w' => e = .returned (.bool r) ∧ Below w.heap.size w w' := by
  have hu38 := Tryz.underlying38
  have HB := Aside0.mk (Below.refl w.heap.size w)
  have H : ((qYear.f a0_0).bind fun t287 => (if t287 = true then ((tellurionref06_in.f a0_1 1 12).bind fun t288 => (if t288 = true then ((tellurionref06_in.f a0_2 1 31).bind fun t289 => (some t289)) else (some false))) else (some false))) = some r := h
  clear h
  replace H := Option.bind_eq_some_iff.mp H
  obtain ⟨t287, A20, H⟩ := H
  replace H : (if t287 = true then ((tellurionref06_in.f a0_1 1 12).bind fun t288 => (if t288 = true then ((tellurionref06_in.f a0_2 1 31).bind fun t289 => (some t289)) else (some false))) else (some false)) = some r := H
  have A2 := Aside0.mk A20
  clear A20
  by_cases c3 : t287 = true
  · subst c3
    have H1 : ((tellurionref06_in.f a0_1 1 12).bind fun t288 => (if t288 = true then ((tellurionref06_in.f a0_2 1 31).bind fun t289 => (some t289)) else (some false))) = some r := by rw [if_pos rfl] at H; exact H
    clear H
    have H := H1
    clear H1
    replace H := Option.bind_eq_some_iff.mp H
    obtain ⟨t288, A40, H⟩ := H
    replace H : (if t288 = true then ((tellurionref06_in.f a0_2 1 31).bind fun t289 => (some t289)) else (some false)) = some r := H
    have A4 := Aside0.mk A40
    clear A40
    by_cases c5 : t288 = true
    · subst c5
      have H1 : ((tellurionref06_in.f a0_2 1 31).bind fun t289 => (some t289)) = some r := by rw [if_pos rfl] at H; exact H
      clear H
      have H := H1
      clear H1
      replace H := Option.bind_eq_some_iff.mp H
      obtain ⟨t289, A60, H⟩ := H
      replace H : (some t289) = some r := H
      have A6 := Aside0.mk A60
      clear A60
      obtain rfl := Option.some.inj H
      go_enter Tryz.func55, Tryz.ntmps55
      go_wp2_with (first | ((with_reducible refine zG 1 rfl ?_); refine zBox 1 #[.int .i64 a0_0, .int .i64 a0_1, .int .i64 a0_2] 38 ?_; intro gb286 hg w7 hbox hb; have BK286 := Aside0.mk (hbox); have GW286 := Aside0.mk ((by rw [hg]; exact (below_size zq) : w.heap.size ≤ gb286)); have GE286 := Aside0.mk ((by rw [hg]; exact (below_size zq) : w.heap.size ≤ gb286)); replace HB := Aside0.mk (below_step zq hb); clear hb hbox hg; have hcz8_0 := zC BK286; have hfz8_0 := zF BK286) | ((with_reducible refine gate_callee (f := 15) rfl ?_); refine zGl (some 5) Tryz.func15 #[.int .i64 a0_0] ?_; (with_reducible refine (qYear.calls a0_0 true _ A2.out).mono ?_); rintro e w' ⟨rfl, ⟨nd, rfl⟩⟩; refine ⟨_, rfl, ?_⟩) | (go_at_call 51; (with_reducible refine (tellurionref06_in.calls a0_1 1 12 true _ A4.out).mono ?_); rintro e w' ⟨rfl, ⟨nd, rfl⟩⟩) | (go_at_call 51; (with_reducible refine (tellurionref06_in.calls a0_2 1 31 t289 _ A6.out).mono ?_); rintro e w' ⟨rfl, ⟨nd, rfl⟩⟩))
      go_ret
      exact ⟨zE, zqs⟩
    · replace c5 := Bool.eq_false_iff.mpr c5
      subst c5
      have H1 : (some false) = some r := by rw [if_neg (show ¬ (false = true) by decide)] at H; exact H
      clear H
      have H := H1
      clear H1
      obtain rfl := Option.some.inj H
      go_enter Tryz.func55, Tryz.ntmps55
      go_wp2_with (first | ((with_reducible refine zG 1 rfl ?_); refine zBox 1 #[.int .i64 a0_0, .int .i64 a0_1, .int .i64 a0_2] 38 ?_; intro gb286 hg w9 hbox hb; have BK286 := Aside0.mk (hbox); have GW286 := Aside0.mk ((by rw [hg]; exact (below_size zq) : w.heap.size ≤ gb286)); have GE286 := Aside0.mk ((by rw [hg]; exact (below_size zq) : w.heap.size ≤ gb286)); replace HB := Aside0.mk (below_step zq hb); clear hb hbox hg; have hcz10_0 := zC BK286; have hfz10_0 := zF BK286) | ((with_reducible refine gate_callee (f := 15) rfl ?_); refine zGl (some 5) Tryz.func15 #[.int .i64 a0_0] ?_; (with_reducible refine (qYear.calls a0_0 true _ A2.out).mono ?_); rintro e w' ⟨rfl, ⟨nd, rfl⟩⟩; refine ⟨_, rfl, ?_⟩) | (go_at_call 51; (with_reducible refine (tellurionref06_in.calls a0_1 1 12 false _ A4.out).mono ?_); rintro e w' ⟨rfl, ⟨nd, rfl⟩⟩))
      go_ret
      exact ⟨zE, zqs⟩
  · replace c3 := Bool.eq_false_iff.mpr c3
    subst c3
    have H1 : (some false) = some r := by rw [if_neg (show ¬ (false = true) by decide)] at H; exact H
    clear H
    have H := H1
    clear H1
    obtain rfl := Option.some.inj H
    go_enter Tryz.func55, Tryz.ntmps55
    go_wp2_with (first | ((with_reducible refine zG 1 rfl ?_); refine zBox 1 #[.int .i64 a0_0, .int .i64 a0_1, .int .i64 a0_2] 38 ?_; intro gb286 hg w11 hbox hb; have BK286 := Aside0.mk (hbox); have GW286 := Aside0.mk ((by rw [hg]; exact (below_size zq) : w.heap.size ≤ gb286)); have GE286 := Aside0.mk ((by rw [hg]; exact (below_size zq) : w.heap.size ≤ gb286)); replace HB := Aside0.mk (below_step zq hb); clear hb hbox hg; have hcz12_0 := zC BK286; have hfz12_0 := zF BK286) | ((with_reducible refine gate_callee (f := 15) rfl ?_); refine zGl (some 5) Tryz.func15 #[.int .i64 a0_0] ?_; (with_reducible refine (qYear.calls a0_0 false _ A2.out).mono ?_); rintro e w' ⟨rfl, ⟨nd, rfl⟩⟩; refine ⟨_, rfl, ?_⟩))
    go_ret
    exact ⟨zE, zqs⟩
def qReal.f (k : Nat) (a0_0 : Int) (l0_1 : List Int) (a1_0 : Int) (a1_1 : Int) (a1_2 : Int) : Option (Bool) := (qWritten.f a1_0 a1_1 a1_2).bind fun t292 => (if t292 = true then ((qLeap.f k a0_0 l0_1 a1_0).bind fun t293 => ((qLength.f a1_1 t293).bind fun t294 => (some (decide (a1_2 ≤ t294))))) else (some false))
def qReal.T1 : Bool × List (List Nat × List Nat) := (true, [([], []), ([0], [0]), ([1, 1], [1]), ([2], [2]), ([3, 2], [2, 3]), ([2], [2]), ([5, 2], [2, 5]), ([2], [2]), ([2], [2]), ([8, 2], [2, 8]), ([7, 9, 2, 2], [2, 7, 9]), ([6, 10, 10, 2], [2, 6, 10]), ([4, 11, 2], [2, 4, 11]), ([2, 12], [2, 12]), ([13, 11, 0, 1, 2, 3, 4, 5, 6, 7, 8, 9, 10, 11, 12, 13], [13])])
def qReal.B1 : List Nat := [0, 1, 3, 7, 15, 7, 39, 7, 7, 263, 903, 2023, 4095, 8191, 16383]
theorem qReal.tab1 : rtab .any (opsOf Tryz.f18 1) = qReal.T1 := by kernel_rfl
theorem qReal.bits1 : waitsOk qReal.T1.2 qReal.B1 = true := by kernel_rfl
set_option maxHeartbeats 8000000 in
set_option maxRecDepth 100000 in
theorem qReal.calls (k : Nat) (a0_0 : Int) (A0_1 : Option Addr) (c0_1 : Nat) (l0_1 : List Int) (a1_0 : Int) (a1_1 : Int) (a1_2 : Int) (r : Bool) (w : World) (hr0_1 : Kd.C (Kd.int .i64) w A0_1 l0_1.length l0_1) (hc0_1 : l0_1.length ≤ c0_1) (h : qReal.f k a0_0 l0_1 a1_0 a1_1 a1_2 = some r) :
    Calls Tryz.prog 18 #[.agg #[.int .i64 a0_0, .slice A0_1 l0_1.length c0_1], .agg #[.int .i64 a1_0, .int .i64 a1_1, .int .i64 a1_2]] w fun e w' => e = .returned (.bool r) ∧ Below w.heap.size w w' := by
  have hu24 := Tryz.underlying24
  have hu38 := Tryz.underlying38
  have HR0_1 := Aside0.mk hr0_1
  have HC0_1 := Aside0.mk hc0_1
  clear hr0_1 hc0_1
  have HB := Aside0.mk (Below.refl w.heap.size w)
  have H : ((qWritten.f a1_0 a1_1 a1_2).bind fun t292 => (if t292 = true then ((qLeap.f k a0_0 l0_1 a1_0).bind fun t293 => ((qLength.f a1_1 t293).bind fun t294 => (some (decide (a1_2 ≤ t294))))) else (some false))) = some r := h
  clear h
  replace H := Option.bind_eq_some_iff.mp H
  obtain ⟨t292, A30, H⟩ := H
  replace H : (if t292 = true then ((qLeap.f k a0_0 l0_1 a1_0).bind fun t293 => ((qLength.f a1_1 t293).bind fun t294 => (some (decide (a1_2 ≤ t294))))) else (some false)) = some r := H
  have A3 := Aside0.mk A30
  clear A30
  by_cases c4 : t292 = true
  · subst c4
    have H1 : ((qLeap.f k a0_0 l0_1 a1_0).bind fun t293 => ((qLength.f a1_1 t293).bind fun t294 => (some (decide (a1_2 ≤ t294))))) = some r := by rw [if_pos rfl] at H; exact H
    clear H
    have H := H1
    clear H1
    replace H := Option.bind_eq_some_iff.mp H
    obtain ⟨t293, A50, H⟩ := H
    replace H : ((qLength.f a1_1 t293).bind fun t294 => (some (decide (a1_2 ≤ t294)))) = some r := H
    have A5 := Aside0.mk A50
    clear A50
    replace H := Option.bind_eq_some_iff.mp H
    obtain ⟨t294, A60, H⟩ := H
    replace H : (some (decide (a1_2 ≤ t294))) = some r := H
    have A6 := Aside0.mk A60
    clear A60
    obtain rfl := Option.some.inj H
    go_enter Tryz.func18, Tryz.ntmps18
    try go_wp2_with (first | ((with_reducible refine zG 2 rfl ?_); refine zBox 2 #[.int .i64 a0_0, .slice A0_1 l0_1.length c0_1] 24 ?_; intro gb290 hg w7 hbox hb; have BK290 := Aside0.mk (hbox); have GW290 := Aside0.mk ((by rw [hg]; exact (below_size zq) : w.heap.size ≤ gb290)); have GE290 := Aside0.mk ((by rw [hg]; exact (below_size zq) : w.heap.size ≤ gb290)); replace HB := Aside0.mk (below_step zq hb); clear hb hbox hg) | ((with_reducible refine zG 3 rfl ?_); refine zBox 3 #[.int .i64 a1_0, .int .i64 a1_1, .int .i64 a1_2] 38 ?_; intro gb291 hg w8 hbox hb; have BK291 := Aside0.mk (hbox); have GW291 := Aside0.mk ((by rw [hg]; exact (below_size zqs) : w.heap.size ≤ gb291)); have GE291 := Aside0.mk ((by rw [hg]; exact (below_size zqs) : w.heap.size ≤ gb291)); replace HB := Aside0.mk (below_step zqs hb); have NB290_291 := znU hg BK290; have NB291_290 := znV hg BK290; replace BK290 := zbN BK290 hb; clear hb hbox hg))
    have n0_ := Aside0.mk (blk_drew BK290.out)
    have n1_ := Aside0.mk (blk_drew BK291.out)
    have n2_ := Aside0.mk (below_drew1 HB.out)
    clear BK290
    clear BK291
    clear HB
    have BK290 := n0_
    have BK291 := n1_
    have HB := n2_
    clear n0_ n1_ n2_
    refine zStart 15 (fun w' => zCells w' gb291 0 [.int .i64 a1_0, .int .i64 a1_1, .int .i64 a1_2] ∧ zCells w' gb290 0 [.int .i64 a0_0, .slice A0_1 l0_1.length c0_1]) #[false, false, false, false, false, false, false, false, false, false, false, false, false, false, false] qReal.tab1 qReal.bits1 ⟨zS BK291, zS BK290⟩ (fun hHeld HT_ HW_ => ?_)
    generalize w8.drew = w9 at BK290 BK291 HB hHeld ⊢
    refine zT 0 (some 5) HT_ HW_ hHeld ?_
    refine zGo 1 (some 6) HT_ Tryz.func55 #[.agg #[.int .i64 a1_0, .int .i64 a1_1, .int .i64 a1_2]] ?_
    with_reducible refine (qWritten.calls a1_0 a1_1 a1_2 true _ A3.out).mono ?_
    rintro e w10 ⟨rfl, hb⟩
    have n0_ := zbN BK290 hb
    have n1_ := zbN BK291 hb
    have n2_ := Aside0.mk (below_step zqs hb)
    clear BK290
    clear BK291
    clear HB
    have BK290 := n0_
    have BK291 := n1_
    have HB := n2_
    clear n0_ n1_ n2_
    (try clear hb)
    (try clear hb2)
    (try clear hk)
    (try clear hi)
    refine zV ⟨zS BK291, zS BK290⟩ (fun hHeld => ?_)
    refine zP 2 (some 7) HT_ ?_
    refine zP 3 (some 8) HT_ ?_
    refine zP 5 (some 10) HT_ ?_
    refine zP 8 (some 13) HT_ ?_
    refine zT 4 (some 9) HT_ HW_ hHeld ?_
    refine zT 6 (some 11) HT_ HW_ hHeld ?_
    refine zT 7 (some 12) HT_ HW_ hHeld ?_
    refine zT 9 (some 14) HT_ HW_ hHeld ?_
    refine zGo 10 (some 15) HT_ Tryz.func53 #[.agg #[.int .i64 a0_0, .slice A0_1 l0_1.length c0_1], .int .i64 a1_0] ?_
    with_reducible refine (qLeap.calls k a0_0 _ _ l0_1 a1_0 t293 _ ?side1 ?side2 A5.out).mono ?_
    (case side1 => repeat (first | exact (Kd.C_below HR0_1.out HB.out) | (with_reducible refine Kd.C_alloc ?_ _) | (with_reducible refine Kd.C_drewN ?_ _) | (with_reducible refine Kd.C_drew ?_)))
    (case side2 => exact HC0_1.out)
    rintro e w11 ⟨rfl, hb⟩
    have n0_ := zbN BK290 hb
    have n1_ := zbN BK291 hb
    have n2_ := Aside0.mk (below_step zqs hb)
    clear BK290
    clear BK291
    clear HB
    have BK290 := n0_
    have BK291 := n1_
    have HB := n2_
    clear n0_ n1_ n2_
    (try clear hb)
    (try clear hb2)
    (try clear hk)
    (try clear hi)
    refine zV ⟨zS BK291, zS BK290⟩ (fun hHeld => ?_)
    refine zGo 11 (some 16) HT_ Tryz.func20 #[.int .i64 a1_1, .bool t293] ?_
    with_reducible refine (qLength.calls a1_1 t293 t294 _ A6.out).mono ?_
    rintro e w12 ⟨rfl, hb⟩
    have n0_ := zbN BK290 hb
    have n1_ := zbN BK291 hb
    have n2_ := Aside0.mk (below_step zqs hb)
    clear BK290
    clear BK291
    clear HB
    have BK290 := n0_
    have BK291 := n1_
    have HB := n2_
    clear n0_ n1_ n2_
    (try clear hb)
    (try clear hb2)
    (try clear hk)
    (try clear hi)
    refine zV ⟨zS BK291, zS BK290⟩ (fun hHeld => ?_)
    refine zP 12 (some 17) HT_ ?_
    refine zP 13 (some 18) HT_ ?_
    refine zP 14 (some 4) HT_ ?_
    refine done_ (done_of HT_.out (by kernel_rfl)) ?_
    try go_wp2
    go_ret
    exact ⟨zE, zqs⟩
  · replace c4 := Bool.eq_false_iff.mpr c4
    subst c4
    have H1 : (some false) = some r := by rw [if_neg (show ¬ (false = true) by decide)] at H; exact H
    clear H
    have H := H1
    clear H1
    obtain rfl := Option.some.inj H
    go_enter Tryz.func18, Tryz.ntmps18
    try go_wp2_with (first | ((with_reducible refine zG 2 rfl ?_); refine zBox 2 #[.int .i64 a0_0, .slice A0_1 l0_1.length c0_1] 24 ?_; intro gb290 hg w13 hbox hb; have BK290 := Aside0.mk (hbox); have GW290 := Aside0.mk ((by rw [hg]; exact (below_size zq) : w.heap.size ≤ gb290)); have GE290 := Aside0.mk ((by rw [hg]; exact (below_size zq) : w.heap.size ≤ gb290)); replace HB := Aside0.mk (below_step zq hb); clear hb hbox hg) | ((with_reducible refine zG 3 rfl ?_); refine zBox 3 #[.int .i64 a1_0, .int .i64 a1_1, .int .i64 a1_2] 38 ?_; intro gb291 hg w14 hbox hb; have BK291 := Aside0.mk (hbox); have GW291 := Aside0.mk ((by rw [hg]; exact (below_size zqs) : w.heap.size ≤ gb291)); have GE291 := Aside0.mk ((by rw [hg]; exact (below_size zqs) : w.heap.size ≤ gb291)); replace HB := Aside0.mk (below_step zqs hb); have NB290_291 := znU hg BK290; have NB291_290 := znV hg BK290; replace BK290 := zbN BK290 hb; clear hb hbox hg))
    have n0_ := Aside0.mk (blk_drew BK290.out)
    have n1_ := Aside0.mk (blk_drew BK291.out)
    have n2_ := Aside0.mk (below_drew1 HB.out)
    clear BK290
    clear BK291
    clear HB
    have BK290 := n0_
    have BK291 := n1_
    have HB := n2_
    clear n0_ n1_ n2_
    refine zStart 15 (fun w' => zCells w' gb291 0 [.int .i64 a1_0, .int .i64 a1_1, .int .i64 a1_2]) #[false, false, false, false, false, false, false, false, false, false, false, false, false, false, false] qReal.tab1 qReal.bits1 (zS BK291) (fun hHeld HT_ HW_ => ?_)
    generalize w14.drew = w15 at BK290 BK291 HB hHeld ⊢
    refine zT 0 (some 5) HT_ HW_ hHeld ?_
    refine zGo 1 (some 6) HT_ Tryz.func55 #[.agg #[.int .i64 a1_0, .int .i64 a1_1, .int .i64 a1_2]] ?_
    with_reducible refine (qWritten.calls a1_0 a1_1 a1_2 false _ A3.out).mono ?_
    rintro e w16 ⟨rfl, hb⟩
    have n0_ := zbN BK290 hb
    have n1_ := zbN BK291 hb
    have n2_ := Aside0.mk (below_step zqs hb)
    clear BK290
    clear BK291
    clear HB
    have BK290 := n0_
    have BK291 := n1_
    have HB := n2_
    clear n0_ n1_ n2_
    (try clear hb)
    (try clear hb2)
    (try clear hk)
    (try clear hi)
    refine zV (zS BK291) (fun hHeld => ?_)
    refine zP 2 (some 7) HT_ ?_
    refine zO 3 (some 8) HT_ ?_
    refine zO 4 (some 9) HT_ ?_
    refine zO 5 (some 10) HT_ ?_
    refine zO 6 (some 11) HT_ ?_
    refine zO 7 (some 12) HT_ ?_
    refine zO 8 (some 13) HT_ ?_
    refine zO 9 (some 14) HT_ ?_
    refine zO 10 (some 15) HT_ ?_
    refine zO 11 (some 16) HT_ ?_
    refine zO 12 (some 17) HT_ ?_
    refine zP 13 (some 18) HT_ ?_
    refine zP 14 (some 4) HT_ ?_
    refine done_ (done_of HT_.out (by kernel_rfl)) ?_
    try go_wp2
    go_ret
    exact ⟨zE, zqs⟩
def qNumber.f (a0 : Int) : Option (Bool) := (tellurionref06_in.f a0 0 2000000).bind fun t340 => (some t340)
set_option maxHeartbeats 8000000 in
set_option maxRecDepth 100000 in
theorem qNumber.calls (a0 : Int) (r : Bool) (w : World) (h : qNumber.f a0 = some r) :
    Calls Tryz.prog 24 #[.int .i64 a0] w fun e w' => e = .returned (.bool r) ∧ Drawn0 w w' := by
  have H : ((tellurionref06_in.f a0 0 2000000).bind fun t340 => (some t340)) = some r := h
  clear h
  replace H := Option.bind_eq_some_iff.mp H
  obtain ⟨t340, A20, H⟩ := H
  replace H : (some t340) = some r := H
  have A2 := Aside0.mk A20
  clear A20
  obtain rfl := Option.some.inj H
  go_enter Tryz.func24, Tryz.ntmps24
  go_wp2_with (first | ((with_reducible refine gate_callee (f := 51) rfl ?_); refine zGl (some 4) Tryz.func51 #[.int .i64 a0, .int .i64 0, .int .i64 2000000] ?_; (with_reducible refine (tellurionref06_in.calls a0 0 2000000 t340 _ A2.out).mono ?_); rintro e w' ⟨rfl, ⟨nd, rfl⟩⟩; refine ⟨_, rfl, ?_⟩))
  go_ret
  exact ⟨by first | rfl | (simp; done) | (simp [*]; done), by repeat (first | exact Drawn0.refl _ | apply Drawn0.step)⟩
def qNext.f (k : Nat) (a0_0 : Int) (l0_1 : List Int) (a1_0 : Int) (a1_1 : Int) (a1_2 : Int) : Option (Int × Int × Int) := (qLeap.f k a0_0 l0_1 a1_0).bind fun t372 => ((qLength.f a1_1 t372).bind fun t373 => (if a1_2 < t373 then (some (a1_0, a1_1, wrap64 (a1_2 + 1))) else (if a1_1 < 12 then (some (a1_0, wrap64 (a1_1 + 1), 1)) else (some (wrap64 (a1_0 + 1), 1, 1)))))
def qNext.T1 : Bool × List (List Nat × List Nat) := (true, [([], []), ([0], [0]), ([], []), ([2], [2]), ([], []), ([], []), ([5], [5]), ([4, 6], [4, 6]), ([3, 7, 7], [3, 7]), ([1, 8], [1, 8])])
def qNext.B1 : List Nat := [0, 1, 0, 4, 0, 0, 32, 112, 252, 511]
theorem qNext.tab1 : rtab .any (opsOf Tryz.f27 1) = qNext.T1 := by kernel_rfl
theorem qNext.bits1 : waitsOk qNext.T1.2 qNext.B1 = true := by kernel_rfl
set_option maxHeartbeats 8000000 in
set_option maxRecDepth 100000 in
theorem qNext.calls (k : Nat) (a0_0 : Int) (A0_1 : Option Addr) (c0_1 : Nat) (l0_1 : List Int) (a1_0 : Int) (a1_1 : Int) (a1_2 : Int) (r1 : Int) (r2 : Int) (r3 : Int) (w : World) (hr0_1 : Kd.C (Kd.int .i64) w A0_1 l0_1.length l0_1) (hc0_1 : l0_1.length ≤ c0_1) (h : qNext.f k a0_0 l0_1 a1_0 a1_1 a1_2 = some (r1, r2, r3)) :
    Calls Tryz.prog 27 #[.agg #[.int .i64 a0_0, .slice A0_1 l0_1.length c0_1], .agg #[.int .i64 a1_0, .int .i64 a1_1, .int .i64 a1_2]] w fun e w' => e = .returned (.agg #[.int .i64 r1, .int .i64 r2, .int .i64 r3]) ∧ Below w.heap.size w w' := by
  have hu24 := Tryz.underlying24
  have hu38 := Tryz.underlying38
  have HR0_1 := Aside0.mk hr0_1
  have HC0_1 := Aside0.mk hc0_1
  clear hr0_1 hc0_1
  have HB := Aside0.mk (Below.refl w.heap.size w)
  have H : ((qLeap.f k a0_0 l0_1 a1_0).bind fun t372 => ((qLength.f a1_1 t372).bind fun t373 => (if a1_2 < t373 then (some (a1_0, a1_1, wrap64 (a1_2 + 1))) else (if a1_1 < 12 then (some (a1_0, wrap64 (a1_1 + 1), 1)) else (some (wrap64 (a1_0 + 1), 1, 1)))))) = some (r1, r2, r3) := h
  clear h
  replace H := Option.bind_eq_some_iff.mp H
  obtain ⟨t372, A30, H⟩ := H
  replace H : ((qLength.f a1_1 t372).bind fun t373 => (if a1_2 < t373 then (some (a1_0, a1_1, wrap64 (a1_2 + 1))) else (if a1_1 < 12 then (some (a1_0, wrap64 (a1_1 + 1), 1)) else (some (wrap64 (a1_0 + 1), 1, 1))))) = some (r1, r2, r3) := H
  have A3 := Aside0.mk A30
  clear A30
  replace H := Option.bind_eq_some_iff.mp H
  obtain ⟨t373, A40, H⟩ := H
  replace H : (if a1_2 < t373 then (some (a1_0, a1_1, wrap64 (a1_2 + 1))) else (if a1_1 < 12 then (some (a1_0, wrap64 (a1_1 + 1), 1)) else (some (wrap64 (a1_0 + 1), 1, 1)))) = some (r1, r2, r3) := H
  have A4 := Aside0.mk A40
  clear A40
  by_cases c5 : a1_2 < t373
  · rw [if_pos c5] at H
    have c5b0 : decide (a1_2 < t373) = true := decide_eq_true c5
    clear c5
    simp only [Option.some.injEq, Prod.mk.injEq] at H
    obtain ⟨rfl, rfl, rfl⟩ := H
    go_enter Tryz.func27, Tryz.ntmps27
    try go_wp2_with (first | ((with_reducible refine zG 2 rfl ?_); refine zBox 2 #[.int .i64 a0_0, .slice A0_1 l0_1.length c0_1] 24 ?_; intro gb369 hg w6 hbox hb; have BK369 := Aside0.mk (hbox); have GW369 := Aside0.mk ((by rw [hg]; exact (below_size zq) : w.heap.size ≤ gb369)); have GE369 := Aside0.mk ((by rw [hg]; exact (below_size zq) : w.heap.size ≤ gb369)); replace HB := Aside0.mk (below_step zq hb); clear hb hbox hg) | ((with_reducible refine zG 3 rfl ?_); refine zBox 3 #[.int .i64 a1_0, .int .i64 a1_1, .int .i64 a1_2] 38 ?_; intro gb370 hg w7 hbox hb; have BK370 := Aside0.mk (hbox); have GW370 := Aside0.mk ((by rw [hg]; exact (below_size zqs) : w.heap.size ≤ gb370)); have GE370 := Aside0.mk ((by rw [hg]; exact (below_size zqs) : w.heap.size ≤ gb370)); replace HB := Aside0.mk (below_step zqs hb); have NB369_370 := znU hg BK369; have NB370_369 := znV hg BK369; replace BK369 := zbN BK369 hb; clear hb hbox hg) | ((with_reducible refine zG 4 rfl ?_); refine zBox 4 #[.int .i64 0, .int .i64 0, .int .i64 0] 38 ?_; intro gb371 hg w8 hbox hb; have BK371 := Aside0.mk (hbox); have GW371 := Aside0.mk ((by rw [hg]; exact (below_size zqs) : w.heap.size ≤ gb371)); have GE371 := Aside0.mk ((by rw [hg]; exact (below_size zqs) : w.heap.size ≤ gb371)); replace HB := Aside0.mk (below_step zqs hb); have NB369_371 := znU hg BK369; have NB371_369 := znV hg BK369; replace BK369 := zbN BK369 hb; have NB370_371 := znU hg BK370; have NB371_370 := znV hg BK370; replace BK370 := zbN BK370 hb; clear hb hbox hg))
    have n0_ := Aside0.mk (blk_drew BK369.out)
    have n1_ := Aside0.mk (blk_drew BK370.out)
    have n2_ := Aside0.mk (blk_drew BK371.out)
    have n3_ := Aside0.mk (below_drew1 HB.out)
    clear BK369
    clear BK370
    clear BK371
    clear HB
    have BK369 := n0_
    have BK370 := n1_
    have BK371 := n2_
    have HB := n3_
    clear n0_ n1_ n2_ n3_
    refine zStart 10 (fun w' => zCells w' gb370 0 [.int .i64 a1_0, .int .i64 a1_1, .int .i64 a1_2] ∧ zCells w' gb369 0 [.int .i64 a0_0, .slice A0_1 l0_1.length c0_1]) #[false, false, false, false, false, false, false, false, false, false] qNext.tab1 qNext.bits1 ⟨zS BK370, zS BK369⟩ (fun hHeld HT_ HW_ => ?_)
    generalize w8.drew = w9 at BK369 BK370 BK371 HB hHeld ⊢
    refine zP 0 (some 5) HT_ ?_
    refine zP 2 (some 7) HT_ ?_
    refine zP 5 (some 10) HT_ ?_
    refine zT 1 (some 6) HT_ HW_ hHeld ?_
    refine zT 3 (some 8) HT_ HW_ hHeld ?_
    refine zT 4 (some 9) HT_ HW_ hHeld ?_
    refine zT 6 (some 11) HT_ HW_ hHeld ?_
    refine zGo 7 (some 12) HT_ Tryz.func53 #[.agg #[.int .i64 a0_0, .slice A0_1 l0_1.length c0_1], .int .i64 a1_0] ?_
    with_reducible refine (qLeap.calls k a0_0 _ _ l0_1 a1_0 t372 _ ?side1 ?side2 A3.out).mono ?_
    (case side1 => repeat (first | exact (Kd.C_below HR0_1.out HB.out) | (with_reducible refine Kd.C_alloc ?_ _) | (with_reducible refine Kd.C_drewN ?_ _) | (with_reducible refine Kd.C_drew ?_)))
    (case side2 => exact HC0_1.out)
    rintro e w10 ⟨rfl, hb⟩
    have n0_ := zbN BK369 hb
    have n1_ := zbN BK370 hb
    have n2_ := zbN BK371 hb
    have n3_ := Aside0.mk (below_step zqs hb)
    clear BK369
    clear BK370
    clear BK371
    clear HB
    have BK369 := n0_
    have BK370 := n1_
    have BK371 := n2_
    have HB := n3_
    clear n0_ n1_ n2_ n3_
    (try clear hb)
    (try clear hb2)
    (try clear hk)
    (try clear hi)
    refine zV ⟨zS BK370, zS BK369⟩ (fun hHeld => ?_)
    refine zGo 8 (some 13) HT_ Tryz.func20 #[.int .i64 a1_1, .bool t372] ?_
    with_reducible refine (qLength.calls a1_1 t372 t373 _ A4.out).mono ?_
    rintro e w11 ⟨rfl, hb⟩
    have n0_ := zbN BK369 hb
    have n1_ := zbN BK370 hb
    have n2_ := zbN BK371 hb
    have n3_ := Aside0.mk (below_step zqs hb)
    clear BK369
    clear BK370
    clear BK371
    clear HB
    have BK369 := n0_
    have BK370 := n1_
    have BK371 := n2_
    have HB := n3_
    clear n0_ n1_ n2_ n3_
    (try clear hb)
    (try clear hb2)
    (try clear hk)
    (try clear hi)
    refine zV ⟨zS BK370, zS BK369⟩ (fun hHeld => ?_)
    refine zP 9 (some 14) HT_ ?_
    refine done_ (done_of HT_.out (by kernel_rfl)) ?_
    have hnb12 := NB370_369.out
    have hnc12 := NB369_370.out
    have hnb13 := NB370_371.out
    have hnc13 := NB371_370.out
    have hcz14_0 := zC BK370
    have hfz14_0 := zF BK370
    have hnb15 := NB371_369.out
    have hnc15 := NB369_371.out
    have hcz16_0 := zC BK371
    have hfz16_0 := zF BK371
    try go_wp2
    refine bodyPost_ret (results_cell_row rfl _ _ gb371 38 #[.int .i64 a1_0, .int .i64 a1_1, .int .i64 (wrap64 (a1_2 + 1))] (0, 0) _ rfl (by (with_reducible repeat (first | refine blk_drewN ?_ _ | refine blk_drew ?_ | refine blk_alloc ?_ _)); refine blk_put (cs := #[.int .i64 a1_0, .int .i64 a1_1, .int .i64 0]) ?_ 2 _ rfl; (with_reducible repeat (first | refine blk_drewN ?_ _ | refine blk_drew ?_ | refine blk_alloc ?_ _)); refine blk_put (cs := #[.int .i64 a1_0, .int .i64 0, .int .i64 0]) ?_ 1 _ rfl; (with_reducible repeat (first | refine blk_drewN ?_ _ | refine blk_drew ?_ | refine blk_alloc ?_ _)); refine blk_put (cs := #[.int .i64 0, .int .i64 0, .int .i64 0]) ?_ 0 _ rfl; (with_reducible repeat (first | refine blk_drewN ?_ _ | refine blk_drew ?_ | refine blk_alloc ?_ _)); exact BK371.out) Tryz.underlying38 rfl (by kernel_rfl)) rfl ?_
    exact ⟨zE, zqs⟩
  · rw [if_neg c5] at H
    have c5b0 : decide (a1_2 < t373) = false := decide_eq_false c5
    clear c5
    by_cases c17 : a1_1 < 12
    · rw [if_pos c17] at H
      have c17b0 : decide (a1_1 < 12) = true := decide_eq_true c17
      clear c17
      simp only [Option.some.injEq, Prod.mk.injEq] at H
      obtain ⟨rfl, rfl, rfl⟩ := H
      go_enter Tryz.func27, Tryz.ntmps27
      try go_wp2_with (first | ((with_reducible refine zG 2 rfl ?_); refine zBox 2 #[.int .i64 a0_0, .slice A0_1 l0_1.length c0_1] 24 ?_; intro gb369 hg w18 hbox hb; have BK369 := Aside0.mk (hbox); have GW369 := Aside0.mk ((by rw [hg]; exact (below_size zq) : w.heap.size ≤ gb369)); have GE369 := Aside0.mk ((by rw [hg]; exact (below_size zq) : w.heap.size ≤ gb369)); replace HB := Aside0.mk (below_step zq hb); clear hb hbox hg) | ((with_reducible refine zG 3 rfl ?_); refine zBox 3 #[.int .i64 a1_0, .int .i64 a1_1, .int .i64 a1_2] 38 ?_; intro gb370 hg w19 hbox hb; have BK370 := Aside0.mk (hbox); have GW370 := Aside0.mk ((by rw [hg]; exact (below_size zqs) : w.heap.size ≤ gb370)); have GE370 := Aside0.mk ((by rw [hg]; exact (below_size zqs) : w.heap.size ≤ gb370)); replace HB := Aside0.mk (below_step zqs hb); have NB369_370 := znU hg BK369; have NB370_369 := znV hg BK369; replace BK369 := zbN BK369 hb; clear hb hbox hg) | ((with_reducible refine zG 4 rfl ?_); refine zBox 4 #[.int .i64 0, .int .i64 0, .int .i64 0] 38 ?_; intro gb371 hg w20 hbox hb; have BK371 := Aside0.mk (hbox); have GW371 := Aside0.mk ((by rw [hg]; exact (below_size zqs) : w.heap.size ≤ gb371)); have GE371 := Aside0.mk ((by rw [hg]; exact (below_size zqs) : w.heap.size ≤ gb371)); replace HB := Aside0.mk (below_step zqs hb); have NB369_371 := znU hg BK369; have NB371_369 := znV hg BK369; replace BK369 := zbN BK369 hb; have NB370_371 := znU hg BK370; have NB371_370 := znV hg BK370; replace BK370 := zbN BK370 hb; clear hb hbox hg))
      have n0_ := Aside0.mk (blk_drew BK369.out)
      have n1_ := Aside0.mk (blk_drew BK370.out)
      have n2_ := Aside0.mk (blk_drew BK371.out)
      have n3_ := Aside0.mk (below_drew1 HB.out)
      clear BK369
      clear BK370
      clear BK371
      clear HB
      have BK369 := n0_
      have BK370 := n1_
      have BK371 := n2_
      have HB := n3_
      clear n0_ n1_ n2_ n3_
      refine zStart 10 (fun w' => zCells w' gb370 0 [.int .i64 a1_0, .int .i64 a1_1, .int .i64 a1_2] ∧ zCells w' gb369 0 [.int .i64 a0_0, .slice A0_1 l0_1.length c0_1]) #[false, false, false, false, false, false, false, false, false, false] qNext.tab1 qNext.bits1 ⟨zS BK370, zS BK369⟩ (fun hHeld HT_ HW_ => ?_)
      generalize w20.drew = w21 at BK369 BK370 BK371 HB hHeld ⊢
      refine zP 0 (some 5) HT_ ?_
      refine zP 2 (some 7) HT_ ?_
      refine zP 5 (some 10) HT_ ?_
      refine zT 1 (some 6) HT_ HW_ hHeld ?_
      refine zT 3 (some 8) HT_ HW_ hHeld ?_
      refine zT 4 (some 9) HT_ HW_ hHeld ?_
      refine zT 6 (some 11) HT_ HW_ hHeld ?_
      refine zGo 7 (some 12) HT_ Tryz.func53 #[.agg #[.int .i64 a0_0, .slice A0_1 l0_1.length c0_1], .int .i64 a1_0] ?_
      with_reducible refine (qLeap.calls k a0_0 _ _ l0_1 a1_0 t372 _ ?side1 ?side2 A3.out).mono ?_
      (case side1 => repeat (first | exact (Kd.C_below HR0_1.out HB.out) | (with_reducible refine Kd.C_alloc ?_ _) | (with_reducible refine Kd.C_drewN ?_ _) | (with_reducible refine Kd.C_drew ?_)))
      (case side2 => exact HC0_1.out)
      rintro e w22 ⟨rfl, hb⟩
      have n0_ := zbN BK369 hb
      have n1_ := zbN BK370 hb
      have n2_ := zbN BK371 hb
      have n3_ := Aside0.mk (below_step zqs hb)
      clear BK369
      clear BK370
      clear BK371
      clear HB
      have BK369 := n0_
      have BK370 := n1_
      have BK371 := n2_
      have HB := n3_
      clear n0_ n1_ n2_ n3_
      (try clear hb)
      (try clear hb2)
      (try clear hk)
      (try clear hi)
      refine zV ⟨zS BK370, zS BK369⟩ (fun hHeld => ?_)
      refine zGo 8 (some 13) HT_ Tryz.func20 #[.int .i64 a1_1, .bool t372] ?_
      with_reducible refine (qLength.calls a1_1 t372 t373 _ A4.out).mono ?_
      rintro e w23 ⟨rfl, hb⟩
      have n0_ := zbN BK369 hb
      have n1_ := zbN BK370 hb
      have n2_ := zbN BK371 hb
      have n3_ := Aside0.mk (below_step zqs hb)
      clear BK369
      clear BK370
      clear BK371
      clear HB
      have BK369 := n0_
      have BK370 := n1_
      have BK371 := n2_
      have HB := n3_
      clear n0_ n1_ n2_ n3_
      (try clear hb)
      (try clear hb2)
      (try clear hk)
      (try clear hi)
      refine zV ⟨zS BK370, zS BK369⟩ (fun hHeld => ?_)
      refine zP 9 (some 14) HT_ ?_
      refine done_ (done_of HT_.out (by kernel_rfl)) ?_
      have hnb24 := NB370_369.out
      have hnc24 := NB369_370.out
      have hnb25 := NB370_371.out
      have hnc25 := NB371_370.out
      have hcz26_0 := zC BK370
      have hfz26_0 := zF BK370
      have hnb27 := NB371_369.out
      have hnc27 := NB369_371.out
      have hcz28_0 := zC BK371
      have hfz28_0 := zF BK371
      try go_wp2
      refine bodyPost_ret (results_cell_row rfl _ _ gb371 38 #[.int .i64 a1_0, .int .i64 (wrap64 (a1_1 + 1)), .int .i64 1] (0, 0) _ rfl (by (with_reducible repeat (first | refine blk_drewN ?_ _ | refine blk_drew ?_ | refine blk_alloc ?_ _)); refine blk_put (cs := #[.int .i64 a1_0, .int .i64 (wrap64 (a1_1 + 1)), .int .i64 0]) ?_ 2 _ rfl; (with_reducible repeat (first | refine blk_drewN ?_ _ | refine blk_drew ?_ | refine blk_alloc ?_ _)); refine blk_put (cs := #[.int .i64 a1_0, .int .i64 0, .int .i64 0]) ?_ 1 _ rfl; (with_reducible repeat (first | refine blk_drewN ?_ _ | refine blk_drew ?_ | refine blk_alloc ?_ _)); refine blk_put (cs := #[.int .i64 0, .int .i64 0, .int .i64 0]) ?_ 0 _ rfl; (with_reducible repeat (first | refine blk_drewN ?_ _ | refine blk_drew ?_ | refine blk_alloc ?_ _)); exact BK371.out) Tryz.underlying38 rfl (by kernel_rfl)) rfl ?_
      exact ⟨zE, zqs⟩
    · rw [if_neg c17] at H
      have c17b0 : decide (a1_1 < 12) = false := decide_eq_false c17
      clear c17
      simp only [Option.some.injEq, Prod.mk.injEq] at H
      obtain ⟨rfl, rfl, rfl⟩ := H
      go_enter Tryz.func27, Tryz.ntmps27
      try go_wp2_with (first | ((with_reducible refine zG 2 rfl ?_); refine zBox 2 #[.int .i64 a0_0, .slice A0_1 l0_1.length c0_1] 24 ?_; intro gb369 hg w29 hbox hb; have BK369 := Aside0.mk (hbox); have GW369 := Aside0.mk ((by rw [hg]; exact (below_size zq) : w.heap.size ≤ gb369)); have GE369 := Aside0.mk ((by rw [hg]; exact (below_size zq) : w.heap.size ≤ gb369)); replace HB := Aside0.mk (below_step zq hb); clear hb hbox hg) | ((with_reducible refine zG 3 rfl ?_); refine zBox 3 #[.int .i64 a1_0, .int .i64 a1_1, .int .i64 a1_2] 38 ?_; intro gb370 hg w30 hbox hb; have BK370 := Aside0.mk (hbox); have GW370 := Aside0.mk ((by rw [hg]; exact (below_size zqs) : w.heap.size ≤ gb370)); have GE370 := Aside0.mk ((by rw [hg]; exact (below_size zqs) : w.heap.size ≤ gb370)); replace HB := Aside0.mk (below_step zqs hb); have NB369_370 := znU hg BK369; have NB370_369 := znV hg BK369; replace BK369 := zbN BK369 hb; clear hb hbox hg) | ((with_reducible refine zG 4 rfl ?_); refine zBox 4 #[.int .i64 0, .int .i64 0, .int .i64 0] 38 ?_; intro gb371 hg w31 hbox hb; have BK371 := Aside0.mk (hbox); have GW371 := Aside0.mk ((by rw [hg]; exact (below_size zqs) : w.heap.size ≤ gb371)); have GE371 := Aside0.mk ((by rw [hg]; exact (below_size zqs) : w.heap.size ≤ gb371)); replace HB := Aside0.mk (below_step zqs hb); have NB369_371 := znU hg BK369; have NB371_369 := znV hg BK369; replace BK369 := zbN BK369 hb; have NB370_371 := znU hg BK370; have NB371_370 := znV hg BK370; replace BK370 := zbN BK370 hb; clear hb hbox hg))
      have n0_ := Aside0.mk (blk_drew BK369.out)
      have n1_ := Aside0.mk (blk_drew BK370.out)
      have n2_ := Aside0.mk (blk_drew BK371.out)
      have n3_ := Aside0.mk (below_drew1 HB.out)
      clear BK369
      clear BK370
      clear BK371
      clear HB
      have BK369 := n0_
      have BK370 := n1_
      have BK371 := n2_
      have HB := n3_
      clear n0_ n1_ n2_ n3_
      refine zStart 10 (fun w' => zCells w' gb370 0 [.int .i64 a1_0, .int .i64 a1_1, .int .i64 a1_2] ∧ zCells w' gb369 0 [.int .i64 a0_0, .slice A0_1 l0_1.length c0_1]) #[false, false, false, false, false, false, false, false, false, false] qNext.tab1 qNext.bits1 ⟨zS BK370, zS BK369⟩ (fun hHeld HT_ HW_ => ?_)
      generalize w31.drew = w32 at BK369 BK370 BK371 HB hHeld ⊢
      refine zP 0 (some 5) HT_ ?_
      refine zP 2 (some 7) HT_ ?_
      refine zP 5 (some 10) HT_ ?_
      refine zT 1 (some 6) HT_ HW_ hHeld ?_
      refine zT 3 (some 8) HT_ HW_ hHeld ?_
      refine zT 4 (some 9) HT_ HW_ hHeld ?_
      refine zT 6 (some 11) HT_ HW_ hHeld ?_
      refine zGo 7 (some 12) HT_ Tryz.func53 #[.agg #[.int .i64 a0_0, .slice A0_1 l0_1.length c0_1], .int .i64 a1_0] ?_
      with_reducible refine (qLeap.calls k a0_0 _ _ l0_1 a1_0 t372 _ ?side1 ?side2 A3.out).mono ?_
      (case side1 => repeat (first | exact (Kd.C_below HR0_1.out HB.out) | (with_reducible refine Kd.C_alloc ?_ _) | (with_reducible refine Kd.C_drewN ?_ _) | (with_reducible refine Kd.C_drew ?_)))
      (case side2 => exact HC0_1.out)
      rintro e w33 ⟨rfl, hb⟩
      have n0_ := zbN BK369 hb
      have n1_ := zbN BK370 hb
      have n2_ := zbN BK371 hb
      have n3_ := Aside0.mk (below_step zqs hb)
      clear BK369
      clear BK370
      clear BK371
      clear HB
      have BK369 := n0_
      have BK370 := n1_
      have BK371 := n2_
      have HB := n3_
      clear n0_ n1_ n2_ n3_
      (try clear hb)
      (try clear hb2)
      (try clear hk)
      (try clear hi)
      refine zV ⟨zS BK370, zS BK369⟩ (fun hHeld => ?_)
      refine zGo 8 (some 13) HT_ Tryz.func20 #[.int .i64 a1_1, .bool t372] ?_
      with_reducible refine (qLength.calls a1_1 t372 t373 _ A4.out).mono ?_
      rintro e w34 ⟨rfl, hb⟩
      have n0_ := zbN BK369 hb
      have n1_ := zbN BK370 hb
      have n2_ := zbN BK371 hb
      have n3_ := Aside0.mk (below_step zqs hb)
      clear BK369
      clear BK370
      clear BK371
      clear HB
      have BK369 := n0_
      have BK370 := n1_
      have BK371 := n2_
      have HB := n3_
      clear n0_ n1_ n2_ n3_
      (try clear hb)
      (try clear hb2)
      (try clear hk)
      (try clear hi)
      refine zV ⟨zS BK370, zS BK369⟩ (fun hHeld => ?_)
      refine zP 9 (some 14) HT_ ?_
      refine done_ (done_of HT_.out (by kernel_rfl)) ?_
      have hnb35 := NB370_369.out
      have hnc35 := NB369_370.out
      have hnb36 := NB370_371.out
      have hnc36 := NB371_370.out
      have hcz37_0 := zC BK370
      have hfz37_0 := zF BK370
      have hnb38 := NB371_369.out
      have hnc38 := NB369_371.out
      have hcz39_0 := zC BK371
      have hfz39_0 := zF BK371
      try go_wp2
      refine bodyPost_ret (results_cell_row rfl _ _ gb371 38 #[.int .i64 (wrap64 (a1_0 + 1)), .int .i64 1, .int .i64 1] (0, 0) _ rfl (by (with_reducible repeat (first | refine blk_drewN ?_ _ | refine blk_drew ?_ | refine blk_alloc ?_ _)); refine blk_put (cs := #[.int .i64 (wrap64 (a1_0 + 1)), .int .i64 1, .int .i64 0]) ?_ 2 _ rfl; (with_reducible repeat (first | refine blk_drewN ?_ _ | refine blk_drew ?_ | refine blk_alloc ?_ _)); refine blk_put (cs := #[.int .i64 (wrap64 (a1_0 + 1)), .int .i64 0, .int .i64 0]) ?_ 1 _ rfl; (with_reducible repeat (first | refine blk_drewN ?_ _ | refine blk_drew ?_ | refine blk_alloc ?_ _)); refine blk_put (cs := #[.int .i64 0, .int .i64 0, .int .i64 0]) ?_ 0 _ rfl; (with_reducible repeat (first | refine blk_drewN ?_ _ | refine blk_drew ?_ | refine blk_alloc ?_ _)); exact BK371.out) Tryz.underlying38 rfl (by kernel_rfl)) rfl ?_
      exact ⟨zE, zqs⟩
end Go.Proofs.YtnllidgonghckaaGreatDoor.X
namespace Go.Proofs.YtnllidgonghckaaGreatDoor.X
open Go.RowKit Go.Proofs.YtnllidgonghckaaGreatDoorW.PrintWords Go.Proofs.YtnllidgonghckaaGreatDoorW.PrintLast Go.Proofs.YtnllidgonghckaaGreatDoorW.PrintMore Go.Proofs.YtnllidgonghckaaGreatDoor.Dm
set_option linter.unusedVariables false
set_option linter.unusedSimpArgs false
attribute [local go_sem] max2_int min2_int max_two min_two max_three min_three max_four min_four
def dial_Day.f (ep : Int) (cs : List Int) (y mo d : Int) : Option (Int × Int) := some (if (calB ep cs && dateB cs y mo d) = true then (dayOf ep cs y mo d, 0) else (0, 2))
set_option maxHeartbeats 8000000 in
set_option maxRecDepth 100000 in
theorem Day_0 (ep : Int) (A : Option Addr) (c : Nat) (cs : List Int) (y mo d : Int) (w : World) (hr : Kd.C (Kd.int .i64) w A cs.length cs) (hc : cs.length ≤ c) (hcal : calB ep cs = false) :
    Calls Tryz.prog 19 #[.agg #[.int .i64 ep, .slice A cs.length c], .agg #[.int .i64 y, .int .i64 mo, .int .i64 d]] w fun e w' => e = .returned (.tuple #[.int .i64 0, .int .i64 2]) ∧ Below w.heap.size w w' := by
  have hu24 := Tryz.underlying24
  have hu38 := Tryz.underlying38
  have hu83 := Tryz.underlying83
  have HB := Aside0.mk (Below.refl w.heap.size w)
  have HR := Aside0.mk hr
  have HC := Aside0.mk hc
  have HCAL := Aside0.mk hcal
  clear hr hc hcal
  go_enter Tryz.func19, Tryz.ntmps19
  go_wp2_with (first
    | ((with_reducible refine zG 2 rfl ?_); refine zBox 2 #[.int .i64 ep, .slice A cs.length c] 24 ?_; intro g1 hg w1 hbox hb; have GEg1 := zge hg HB; replace HB := zW HB hb; have BKg1 := Aside0.mk hbox; clear hb hbox hg)
    | ((with_reducible refine zG 3 rfl ?_); refine zBox 3 #[.int .i64 y, .int .i64 mo, .int .i64 d] 38 ?_; intro g2 hg w2 hbox hb; have GEg2 := zge hg HB; replace HB := zW HB hb; replace BKg1 := zb BKg1 hb; have BKg2 := Aside0.mk hbox; clear hb hbox hg; have za0 := zC BKg1)
    | (go_at_call 46; (with_reducible refine (isCal_l ep A c cs false HCAL.out w _ HR.out HC.out HB.out).mono ?_); rintro e w3 ⟨rfl, hb⟩; replace HB := zW HB hb; replace BKg1 := zb BKg1 hb; replace BKg2 := zb BKg2 hb; clear hb))
  go_ret2
  exact ⟨rfl, HB.out⟩
theorem dial_Day.calls (ep : Int) (A : Option Addr) (c : Nat) (cs : List Int) (y mo d : Int) (r1 r2 : Int) (w : World) (hr : Kd.C (Kd.int .i64) w A cs.length cs) (hc : cs.length ≤ c) (h : dial_Day.f ep cs y mo d = some (r1, r2)) :
    Calls Tryz.prog 19 #[.agg #[.int .i64 ep, .slice A cs.length c], .agg #[.int .i64 y, .int .i64 mo, .int .i64 d]] w fun e w' => e = .returned (.tuple #[.int .i64 r1, .int .i64 r2]) ∧ Below w.heap.size w w' := by
  unfold dial_Day.f at h
  have h := Option.some.inj h
  cases hcal : calB ep cs with
  | false => rw [hcal] at h; simp only [Bool.false_and, Bool.false_eq_true, if_false, Prod.mk.injEq] at h; obtain ⟨rfl, rfl⟩ := h; exact Day_0 ep A c cs y mo d w hr hc hcal
  | true =>
    cases hd : dateB cs y mo d with
    | false => rw [hcal, hd] at h; simp only [Bool.and_false, Bool.false_eq_true, if_false, Prod.mk.injEq] at h; obtain ⟨rfl, rfl⟩ := h; exact Day_1 ep A c cs y mo d w hr hc hcal hd
    | true => rw [hcal, hd] at h; simp only [Bool.and_self, if_true, Prod.mk.injEq] at h; obtain ⟨rfl, rfl⟩ := h; exact Day_2 ep A c cs y mo d w hr hc hcal hd
end Go.Proofs.YtnllidgonghckaaGreatDoor.X
namespace Go.Proofs.YtnllidgonghckaaGreatDoor.X
open Go.RowKit Go.Proofs.YtnllidgonghckaaGreatDoorW.PrintWords Go.Proofs.YtnllidgonghckaaGreatDoor.Dm
set_option linter.unusedVariables false
theorem goesP_ {P : Program} {ops : Array Oper} {Q : Exit → Act → World → Prop} {oi : Oper} {N : Option Tmp} {a : Act} {w : World} {K : Act → World → Prop} {f : FuncId} {fn : Func} {as_ : Array Operand} {ts : Array TypeId} (hf : P.funcs[f]? = some fn) (hname : (fn.name == "runtime.NumGoroutine") = false) (hb : fn.body.isSome = true) (args : Array Value)
    (hw : Region.wanted oi (yielded ops a.tmps) = true) (hN : oi.dst = N) (hop : oi.op = .call { callee := .value (.func f), args := as_, argTypes := ts }) (hargs : as_.map a.eval = args)
    (h : Calls P f args w fun e w' => ∃ ch, e = .panicked ch ∧ Q (.panic ch) a w') : if Region.wanted oi (yielded ops a.tmps) = true then Oper.wp P oi a w K Q else K (a.put N undef) w := by
  have hrun : (execOp a.eval oi).run P w = .ok (.enter f args) w := by
    have he := Go.Proofs.YtnllidgonghckaaGreatDoorW.PrintLast.enters_ hf hname hb args w
    unfold execOp
    simp [hop, resolve, Deferred.ofValue, invoke, Act.eval, hargs, he]
  rw [if_pos hw]
  unfold Oper.wp
  rw [hrun, Oper.upon_enter]
  refine h.mono fun e w'' hh => ?_
  obtain ⟨ch, rfl, hq⟩ := hh
  exact hq
end Go.Proofs.YtnllidgonghckaaGreatDoor.X
namespace Go.Proofs.YtnllidgonghckaaGreatDoor.X
open Go.RowKit Go.Proofs.YtnllidgonghckaaGreatDoorW.PrintWords Go.Proofs.YtnllidgonghckaaGreatDoorW.PrintLast Go.Proofs.YtnllidgonghckaaGreatDoorW.PrintMore Go.Proofs.YtnllidgonghckaaGreatDoor.Dm
set_option linter.unusedVariables false
set_option linter.unusedSimpArgs false
attribute [local go_sem] max2_int min2_int max_two min_two max_three min_three max_four min_four
def Date10.T : Bool × List (List Nat × List Nat) := (true, [([], []), ([], []), ([0, 1], [0, 1]), ([], []), ([2, 3, 2], [2, 3]), ([4, 4, 0, 1, 2, 3, 4], [4])])
def Date10.B : List Nat := [0, 0, 3, 0, 15, 31]
theorem Date10.tab : rtab .any (opsOf Tryz.f63 0) = Date10.T := by kernel_rfl
theorem Date10.bits : waitsOk Date10.T.2 Date10.B = true := by kernel_rfl
set_option maxHeartbeats 8000000 in
set_option maxRecDepth 100000 in
theorem date1_ok (ep : Int) (A : Option Addr) (c : Nat) (cs : List Int) (day : Int) (g1 gd go : Nat) (w0 W : World) (hB : Below w0.heap.size w0 W) (hr : Kd.C (Kd.int .i64) w0 A cs.length cs) (hc : cs.length ≤ c) (hcal : calB ep cs = true) (h1 : W.heap[g1]? = some (.cells #[.int .i64 ep, .slice A cs.length c] 24 (0, 0))) (hd1 : W.heap[gd]? = some (.cells #[.int .i64 day] 3 (0, 0))) (ho1 : W.heap[go]? = some (.cells #[.int .i64 0, .int .i64 0, .int .i64 0] 38 (0, 0))) (hgo : w0.heap.size ≤ go) (y mo d : Int) (hdt : dateOf ep cs day = some (y, mo, d)) :
    Calls Tryz.prog 63 #[.pointer (some ⟨g1, 0, none⟩), .pointer (some ⟨gd, 0, none⟩), .pointer (some ⟨go, 0, none⟩)] W fun e w' => e = .returned (.tuple #[]) ∧ w'.heap[go]? = some (.cells #[.int .i64 y, .int .i64 mo, .int .i64 d] 38 (0, 0)) ∧ ((∀ k, k < W.heap.size → k ≠ go → w'.heap[k]? = W.heap[k]?) ∧ W.heap.size ≤ w'.heap.size) ∧ Below w0.heap.size w0 w' := by
  have hu24 := Tryz.underlying24
  have hu38 := Tryz.underlying38
  have hu45 := Tryz.underlying45
  have hu83 := Tryz.underlying83
  obtain ⟨F, hF⟩ : ∃ F, firsts ep cs = F := ⟨_, rfl⟩
  have HFF := Aside0.mk hF
  have HB := Aside0.mk hB
  have HW := Aside0.mk (Below.refl W.heap.size W)
  have HR := Aside0.mk hr
  have HC := Aside0.mk hc
  have HCAL := Aside0.mk hcal
  have HDT := Aside0.mk hdt
  have HGO := Aside0.mk hgo
  have BKg1 := Aside0.mk h1
  have BKgd := Aside0.mk hd1
  have BKgo := Aside0.mk ho1
  clear hF hB hr hc hcal hdt hgo h1 hd1 ho1
  go_enter Tryz.func63, Tryz.ntmps63
  replace HB := zWD HB
  replace HW := zWD HW
  replace BKg1 := zbD BKg1
  replace BKgd := zbD BKgd
  replace BKgo := zbD BKgo
  refine zStart 6 (fun w' => zCells w' g1 0 [.int .i64 ep, .slice A cs.length c] ∧ w'.cell? ⟨gd, 0, none⟩ = some (.int .i64 day)) #[false, false, false, false, false, false] Date10.tab Date10.bits ⟨zS BKg1, zx BKgd 0⟩ (fun hHeld HT_ HW_ => ?_)
  generalize W.drew = wd at HB HW BKg1 BKgd BKgo hHeld ⊢
  refine zP 1 (some 4) HT_ ?_
  refine zT 0 (some 3) HT_ HW_ hHeld ?_
  refine zT 3 (some 6) HT_ HW_ hHeld ?_
  refine zGo 2 (some 5) HT_ Tryz.func48 #[.agg #[.int .i64 ep, .slice A cs.length c], .agg #[.int .i64 0, .int .i64 0, .int .i64 0]] ?_
  with_reducible refine (open_opd ep A c cs 0 0 0 w0 _ HR.out HC.out HCAL.out HB.out F HFF.out).mono ?_
  rintro e wd_1 ⟨a5, c5, mb, rfl, ho, hb⟩
  replace HB := zW HB hb
  replace HW := zW HW hb
  replace BKg1 := zb BKg1 hb
  replace BKgd := zb BKgd hb
  replace BKgo := zb BKgo hb
  have OP := Aside0.mk ho
  clear ho
  clear hb hHeld
  refine zV ⟨zS BKg1, zx BKgd 0⟩ (fun hHeld => ?_)
  refine zGo 4 (some 7) HT_ Tryz.func64 #[.agg #[.int .i64 ep, .slice A cs.length c, .int .i64 0, .int .i64 0, .int .i64 0, .slice (some a5) F.length c5, .map (some mb)], .int .i64 day] ?_
  with_reducible refine (date_b 0 0 0 OP.out day y mo d HDT.out).mono ?_
  rintro e wd_2 ⟨rfl, hb⟩
  replace HB := zW HB hb
  replace HW := zW HW hb
  replace BKg1 := zb BKg1 hb
  replace BKgd := zb BKgd hb
  replace BKgo := zb BKgo hb
  replace OP := zo OP hb
  clear hb hHeld
  refine zV ⟨zS BKg1, zx BKgd 0⟩ (fun hHeld => ?_)
  refine one_ (i := 5) (N := none) #[true, true, true, true, true, true] rfl rfl (one_of HT_.out (by kernel_rfl)) (by decide) (fun K hK => ?_)
  refine store_row_step (by rfl) rfl 38 _ _ rfl #[.int .i64 y, .int .i64 mo, .int .i64 d] BKgo.out (by rfl) (by rfl) (by kernel_rfl) rfl (by simp [Value.oneCell']) ?_
  intro w' hw
  have n0_go := Aside0.mk (show w'.heap[go]? = some (.cells #[.int .i64 y, .int .i64 mo, .int .i64 d] 38 (0, 0)) by rw [hw]; exact row_new BKgo.out _)
  have n0_HB := Aside0.mk (show Below w0.heap.size w0 w' by rw [hw]; exact below_setRow HB.out HGO.out _)
  have n0_K := Aside0.mk (show (∀ k, k < W.heap.size → k ≠ go → w'.heap[k]? = W.heap[k]?) ∧ W.heap.size ≤ w'.heap.size by rw [hw]; exact ⟨fun k hk hne => (setRow_other _ go k _ hne).trans (HW.out.block k hk), by rw [size_setRow]; exact HW.out.size⟩)
  have n0_g1 := Aside0.mk (show w'.heap[g1]? = some (.cells #[.int .i64 ep, .slice A cs.length c] 24 (0, 0)) by rw [hw]; exact row_far _ (blk_ne BKg1.out BKgo.out (by decide)) BKg1.out)
  have n0_gd := Aside0.mk (show w'.heap[gd]? = some (.cells #[.int .i64 day] 3 (0, 0)) by rw [hw]; exact row_far _ (blk_ne BKgd.out BKgo.out (by decide)) BKgd.out)
  clear hw hHeld BKgo HB HW BKg1 BKgd OP
  have BKgo := n0_go
  have HB := n0_HB
  have HK_ := n0_K
  have BKg1 := n0_g1
  have BKgd := n0_gd
  clear n0_go n0_HB n0_K n0_g1 n0_gd
  refine hK.out _ _ ⟨zS BKg1, zx BKgd 0⟩ (fun hHeld => ?_)
  clear hK K
  refine done_ (done_of HT_.out (by kernel_rfl)) ?_
  try go_wp2
  go_end0
  exact ⟨rfl, BKgo.out, HK_.out, HB.out⟩
set_option maxHeartbeats 8000000 in
set_option maxRecDepth 100000 in
theorem date1_away (ep : Int) (A : Option Addr) (c : Nat) (cs : List Int) (day : Int) (g1 gd go : Nat) (w0 W : World) (hB : Below w0.heap.size w0 W) (hr : Kd.C (Kd.int .i64) w0 A cs.length cs) (hc : cs.length ≤ c) (hcal : calB ep cs = true) (h1 : W.heap[g1]? = some (.cells #[.int .i64 ep, .slice A cs.length c] 24 (0, 0))) (hd1 : W.heap[gd]? = some (.cells #[.int .i64 day] 3 (0, 0))) (ho1 : W.heap[go]? = some (.cells #[.int .i64 0, .int .i64 0, .int .i64 0] 38 (0, 0))) (hgo : w0.heap.size ≤ go) (hdt : dateOf ep cs day = none) :
    Calls Tryz.prog 63 #[.pointer (some ⟨g1, 0, none⟩), .pointer (some ⟨gd, 0, none⟩), .pointer (some ⟨go, 0, none⟩)] W fun e w' => e = .panicked [{ v := .iface 121 (.agg #[.int .i64 day]), recovered := false }] ∧ Below W.heap.size W w' ∧ Below w0.heap.size w0 w' := by
  have hu24 := Tryz.underlying24
  have hu38 := Tryz.underlying38
  have hu45 := Tryz.underlying45
  have hu83 := Tryz.underlying83
  obtain ⟨F, hF⟩ : ∃ F, firsts ep cs = F := ⟨_, rfl⟩
  have HFF := Aside0.mk hF
  have HB := Aside0.mk hB
  have HW := Aside0.mk (Below.refl W.heap.size W)
  have HR := Aside0.mk hr
  have HC := Aside0.mk hc
  have HCAL := Aside0.mk hcal
  have HDT := Aside0.mk hdt
  have HGO := Aside0.mk hgo
  have BKg1 := Aside0.mk h1
  have BKgd := Aside0.mk hd1
  have BKgo := Aside0.mk ho1
  clear hF hB hr hc hcal hdt hgo h1 hd1 ho1
  go_enter Tryz.func63, Tryz.ntmps63
  replace HB := zWD HB
  replace HW := zWD HW
  replace BKg1 := zbD BKg1
  replace BKgd := zbD BKgd
  replace BKgo := zbD BKgo
  refine zStart 6 (fun w' => zCells w' g1 0 [.int .i64 ep, .slice A cs.length c] ∧ w'.cell? ⟨gd, 0, none⟩ = some (.int .i64 day)) #[false, false, false, false, false, false] Date10.tab Date10.bits ⟨zS BKg1, zx BKgd 0⟩ (fun hHeld HT_ HW_ => ?_)
  generalize W.drew = wd at HB HW BKg1 BKgd BKgo hHeld ⊢
  refine zP 1 (some 4) HT_ ?_
  refine zT 0 (some 3) HT_ HW_ hHeld ?_
  refine zT 3 (some 6) HT_ HW_ hHeld ?_
  refine zGo 2 (some 5) HT_ Tryz.func48 #[.agg #[.int .i64 ep, .slice A cs.length c], .agg #[.int .i64 0, .int .i64 0, .int .i64 0]] ?_
  with_reducible refine (open_opd ep A c cs 0 0 0 w0 _ HR.out HC.out HCAL.out HB.out F HFF.out).mono ?_
  rintro e wd_1 ⟨a5, c5, mb, rfl, ho, hb⟩
  replace HB := zW HB hb
  replace HW := zW HW hb
  replace BKg1 := zb BKg1 hb
  replace BKgd := zb BKgd hb
  replace BKgo := zb BKgo hb
  have OP := Aside0.mk ho
  clear ho
  clear hb hHeld
  refine zV ⟨zS BKg1, zx BKgd 0⟩ (fun hHeld => ?_)
  refine one_ (i := 4) (N := some 7) #[true, true, true, true, true, false] rfl rfl (one_of HT_.out (by kernel_rfl)) (by decide) (fun K hK => ?_)
  refine goesP_ Tryz.func64 (by kernel_rfl) rfl #[.agg #[.int .i64 ep, .slice A cs.length c, .int .i64 0, .int .i64 0, .int .i64 0, .slice (some a5) F.length c5, .map (some mb)], .int .i64 day] (by rfl) rfl rfl (by (try simp only [List.map_toArray, List.map_cons, List.map_nil]); first | done | rfl) ?_
  refine (date_n 0 0 0 OP.out day HDT.out).mono ?_
  rintro e wz ⟨rfl, hb⟩
  refine ⟨_, rfl, ?_⟩
  exact ⟨rfl, rfl, below_thenN HW.out hb, below_thenN HB.out hb⟩
set_option maxHeartbeats 8000000 in
set_option maxRecDepth 100000 in
theorem Date_bad0 (ep : Int) (A : Option Addr) (c : Nat) (cs : List Int) (day : Int) (w : World) (hr : Kd.C (Kd.int .i64) w A cs.length cs) (hc : cs.length ≤ c) (hcal : calB ep cs = false) :
    Calls Tryz.prog 26 #[.agg #[.int .i64 ep, .slice A cs.length c], .int .i64 day] w fun e w' => e = .returned (.tuple #[.agg #[.int .i64 0, .int .i64 0, .int .i64 0], .int .i64 2]) ∧ Below w.heap.size w w' := by
  have hu24 := Tryz.underlying24
  have hu38 := Tryz.underlying38
  have hmf : ∀ (fn : Fn) (first cap : Array Value) (w : World), (Instr.makeFunc fn first cap).run Tryz.prog w = .ok (.func fn first cap) w := fun _ _ _ _ => rfl
  have HB := Aside0.mk (Below.refl w.heap.size w)
  have HR := Aside0.mk hr
  have HC := Aside0.mk hc
  clear hr hc
  have HCAL := Aside0.mk hcal
  clear hcal
  go_enter Tryz.func26, Tryz.ntmps26
  go_wp2_with (first
    | ((with_reducible refine zG 2 rfl ?_); refine zBox 2 #[.int .i64 ep, .slice A cs.length c] 24 ?_; intro g1 hg w1 hbox hb; have GEg1 := zge hg HB; replace HB := zW HB hb; have BKg1 := Aside0.mk hbox; clear hb hbox hg)
    | ((with_reducible refine zG 3 rfl ?_); refine zBox 3 #[.int .i64 day] 3 ?_; intro gd hg w2 hbox hb; have GEgd := zge hg HB; have NEg1_gd := zne hg BKg1; replace HB := zW HB hb; replace BKg1 := zb BKg1 hb; have BKgd := Aside0.mk hbox; clear hb hbox hg)
    | ((with_reducible refine zG 4 rfl ?_); refine zBox 4 #[.int .i64 0, .int .i64 0, .int .i64 0] 38 ?_; intro gr hg w3 hbox hb; have GEgr := zge hg HB; have NEg1_gr := zne hg BKg1; have NEgd_gr := zne hg BKgd; replace HB := zW HB hb; replace BKg1 := zb BKg1 hb; replace BKgd := zb BKgd hb; have BKgr := Aside0.mk hbox; clear hb hbox hg; have za0 := zC BKg1)
    | (go_at_call 46; (with_reducible refine (isCal_l ep A c cs false HCAL.out w _ HR.out HC.out HB.out).mono ?_); rintro e w4 ⟨rfl, hb⟩; replace HB := zW HB hb; replace BKg1 := zb BKg1 hb; replace BKgd := zb BKgd hb; replace BKgr := zb BKgr hb; clear hb; have zr0 := zC BKgr; have zf0 := zF BKgr)
    | ((with_reducible refine zH 38 4 rfl ?_); refine zSto 38 4 #[.int .i64 0, .int .i64 0, .int .i64 0] BKgr ?_; intro w9 hw; replace HB := Aside0.mk (show Below w.heap.size w w9 by rw [hw]; exact below_setRow HB.out GEgr.out _); replace BKgr := znew hw BKgr; clear hw))
  refine bodyPost_ret (results_ct rfl _ _ gr 38 #[.int .i64 0, .int .i64 0, .int .i64 0] (0, 0) _ rfl BKgr.out Tryz.underlying38 rfl (by kernel_rfl)) rfl ?_
  exact ⟨rfl, HB.out⟩
set_option maxHeartbeats 8000000 in
set_option maxRecDepth 100000 in
theorem Date_bad1 (ep : Int) (A : Option Addr) (c : Nat) (cs : List Int) (day : Int) (w : World) (hr : Kd.C (Kd.int .i64) w A cs.length cs) (hc : cs.length ≤ c) (hcal : calB ep cs = true) (hdy : dayB day = false) :
    Calls Tryz.prog 26 #[.agg #[.int .i64 ep, .slice A cs.length c], .int .i64 day] w fun e w' => e = .returned (.tuple #[.agg #[.int .i64 0, .int .i64 0, .int .i64 0], .int .i64 2]) ∧ Below w.heap.size w w' := by
  have hu24 := Tryz.underlying24
  have hu38 := Tryz.underlying38
  have hmf : ∀ (fn : Fn) (first cap : Array Value) (w : World), (Instr.makeFunc fn first cap).run Tryz.prog w = .ok (.func fn first cap) w := fun _ _ _ _ => rfl
  have HB := Aside0.mk (Below.refl w.heap.size w)
  have HR := Aside0.mk hr
  have HC := Aside0.mk hc
  clear hr hc
  have HCAL := Aside0.mk hcal
  clear hcal
  have HDY := Aside0.mk hdy
  clear hdy
  go_enter Tryz.func26, Tryz.ntmps26
  go_wp2_with (first
    | ((with_reducible refine zG 2 rfl ?_); refine zBox 2 #[.int .i64 ep, .slice A cs.length c] 24 ?_; intro g1 hg w1 hbox hb; have GEg1 := zge hg HB; replace HB := zW HB hb; have BKg1 := Aside0.mk hbox; clear hb hbox hg)
    | ((with_reducible refine zG 3 rfl ?_); refine zBox 3 #[.int .i64 day] 3 ?_; intro gd hg w2 hbox hb; have GEgd := zge hg HB; have NEg1_gd := zne hg BKg1; replace HB := zW HB hb; replace BKg1 := zb BKg1 hb; have BKgd := Aside0.mk hbox; clear hb hbox hg)
    | ((with_reducible refine zG 4 rfl ?_); refine zBox 4 #[.int .i64 0, .int .i64 0, .int .i64 0] 38 ?_; intro gr hg w3 hbox hb; have GEgr := zge hg HB; have NEg1_gr := zne hg BKg1; have NEgd_gr := zne hg BKgd; replace HB := zW HB hb; replace BKg1 := zb BKg1 hb; replace BKgd := zb BKgd hb; have BKgr := Aside0.mk hbox; clear hb hbox hg; have za0 := zC BKg1)
    | (go_at_call 46; (with_reducible refine (isCal_l ep A c cs true HCAL.out w _ HR.out HC.out HB.out).mono ?_); rintro e w4 ⟨rfl, hb⟩; replace HB := zW HB hb; replace BKg1 := zb BKg1 hb; replace BKgd := zb BKgd hb; replace BKgr := zb BKgr hb; clear hb; have zd0 : w4.cell? ⟨gd, 0, none⟩ = some (.int .i64 day) := zx BKgd 0)
    | (go_at_call 59; (with_reducible refine (isDay_l day false HDY.out _).mono ?_); rintro e w5 ⟨rfl, hb⟩; replace HB := zW HB hb; replace BKg1 := zb BKg1 hb; replace BKgd := zb BKgd hb; replace BKgr := zb BKgr hb; clear hb; have zr0 := zC BKgr; have zf0 := zF BKgr)
    | ((with_reducible refine zH 38 4 rfl ?_); refine zSto 38 4 #[.int .i64 0, .int .i64 0, .int .i64 0] BKgr ?_; intro w9 hw; replace HB := Aside0.mk (show Below w.heap.size w w9 by rw [hw]; exact below_setRow HB.out GEgr.out _); replace BKgr := znew hw BKgr; clear hw))
  refine bodyPost_ret (results_ct rfl _ _ gr 38 #[.int .i64 0, .int .i64 0, .int .i64 0] (0, 0) _ rfl BKgr.out Tryz.underlying38 rfl (by kernel_rfl)) rfl ?_
  exact ⟨rfl, HB.out⟩
theorem date_try_ok (ep : Int) (A : Option Addr) (c : Nat) (cs : List Int) (day y mo d : Int) (w W : World) (g1 gd gr go : Nat) (hr : Kd.C (Kd.int .i64) w A cs.length cs) (hc : cs.length ≤ c) (hcal : calB ep cs = true) (hdt : dateOf ep cs day = some (y, mo, d)) (hB : Below w.heap.size w W)
    (h1 : W.heap[g1]? = some (.cells #[.int .i64 ep, .slice A cs.length c] 24 (0, 0))) (h2 : W.heap[gd]? = some (.cells #[.int .i64 day] 3 (0, 0))) (h3 : W.heap[gr]? = some (.cells #[.int .i64 0, .int .i64 0, .int .i64 0] 38 (0, 0))) (h4 : W.heap[go]? = some (.cells #[.int .i64 0, .int .i64 0, .int .i64 0] 38 (0, 0))) (hne : gr ≠ go) (hgo : w.heap.size ≤ go) :
    Calls Tryz.prog 62 #[.func (.func 63) #[] #[.pointer (some ⟨g1, 0, none⟩), .pointer (some ⟨gd, 0, none⟩), .pointer (some ⟨go, 0, none⟩)]] W fun e w' => e = .returned (.int .i64 0) ∧ w'.heap[go]? = some (.cells #[.int .i64 y, .int .i64 mo, .int .i64 d] 38 (0, 0)) ∧ w'.heap[gr]? = some (.cells #[.int .i64 0, .int .i64 0, .int .i64 0] 38 (0, 0)) ∧ Below w.heap.size w w' := by
  refine (try_calls 63 _ Tryz.func63 (by kernel_rfl) rfl _ W (fun r w2 => r = 0 ∧ w2.heap[go]? = some (.cells #[.int .i64 y, .int .i64 mo, .int .i64 d] 38 (0, 0)) ∧ w2.heap[gr]? = some (.cells #[.int .i64 0, .int .i64 0, .int .i64 0] 38 (0, 0)) ∧ Below w.heap.size w w2) ?_ ?_).mono ?_
  · rintro r w2 w3 ⟨e1, e2, e3, e4⟩ hs hk hsz ho ht hou
    have b := hB.size
    exact ⟨e1, (hk _ (blk_lt e2) (Nat.ne_of_lt (blk_lt h4))).trans e2, (hk _ (blk_lt e3) (Nat.ne_of_lt (blk_lt h3))).trans e3, ⟨ho.trans e4.os, ht.trans e4.tape, hou.trans e4.output, Nat.le_trans e4.size hsz, fun k hk' => (hk k (by omega) (by omega)).trans (e4.block k hk')⟩⟩
  · intro w1 hw1 hb
    refine (date1_ok ep A c cs day g1 gd go w w1 (below_thenN hB hb) hr hc hcal (blk_below h1 hb) (blk_below h2 hb) (blk_below h4 hb) hgo y mo d hdt).mono ?_
    rintro e w2 ⟨rfl, q1, ⟨q2, q3⟩, q4⟩
    have l4 := blk_lt h4
    exact ⟨(q2 _ (blk_lt hw1) (by omega)).trans hw1, .inl ⟨rfl, rfl, q1, (q2 _ (blk_lt (blk_below h3 hb)) hne).trans (blk_below h3 hb), q4⟩⟩
  · rintro e w' ⟨r, rfl, rfl, q⟩
    exact ⟨rfl, q⟩
theorem date_try_none (ep : Int) (A : Option Addr) (c : Nat) (cs : List Int) (day : Int) (w W : World) (g1 gd gr go : Nat) (hr : Kd.C (Kd.int .i64) w A cs.length cs) (hc : cs.length ≤ c) (hcal : calB ep cs = true) (hdt : dateOf ep cs day = none) (hB : Below w.heap.size w W)
    (h1 : W.heap[g1]? = some (.cells #[.int .i64 ep, .slice A cs.length c] 24 (0, 0))) (h2 : W.heap[gd]? = some (.cells #[.int .i64 day] 3 (0, 0))) (h3 : W.heap[gr]? = some (.cells #[.int .i64 0, .int .i64 0, .int .i64 0] 38 (0, 0))) (h4 : W.heap[go]? = some (.cells #[.int .i64 0, .int .i64 0, .int .i64 0] 38 (0, 0))) (hgo : w.heap.size ≤ go) :
    Calls Tryz.prog 62 #[.func (.func 63) #[] #[.pointer (some ⟨g1, 0, none⟩), .pointer (some ⟨gd, 0, none⟩), .pointer (some ⟨go, 0, none⟩)]] W fun e w' => e = .returned (.int .i64 5) ∧ w'.heap[gr]? = some (.cells #[.int .i64 0, .int .i64 0, .int .i64 0] 38 (0, 0)) ∧ Below w.heap.size w w' := by
  refine (try_calls 63 _ Tryz.func63 (by kernel_rfl) rfl _ W (fun r w2 => r = 5 ∧ w2.heap[gr]? = some (.cells #[.int .i64 0, .int .i64 0, .int .i64 0] 38 (0, 0)) ∧ Below w.heap.size w w2) ?_ ?_).mono ?_
  · rintro r w2 w3 ⟨e1, e3, e4⟩ hs hk hsz ho ht hou
    have b := hB.size
    exact ⟨e1, (hk _ (blk_lt e3) (Nat.ne_of_lt (blk_lt h3))).trans e3, ⟨ho.trans e4.os, ht.trans e4.tape, hou.trans e4.output, Nat.le_trans e4.size hsz, fun k hk' => (hk k (by omega) (by omega)).trans (e4.block k hk')⟩⟩
  · intro w1 hw1 hb
    refine (date1_away ep A c cs day g1 gd go w w1 (below_thenN hB hb) hr hc hcal (blk_below h1 hb) (blk_below h2 hb) (blk_below h4 hb) hgo hdt).mono ?_
    rintro e w2 ⟨rfl, q1, q4⟩
    exact ⟨blk_below hw1 q1, .inr ⟨day, rfl, rfl, blk_below (blk_below h3 hb) q1, q4⟩⟩
  · rintro e w' ⟨r, rfl, rfl, q⟩
    exact ⟨rfl, q⟩
set_option maxHeartbeats 8000000 in
set_option maxRecDepth 100000 in
theorem Date_ok (ep : Int) (A : Option Addr) (c : Nat) (cs : List Int) (day : Int) (w : World) (hr : Kd.C (Kd.int .i64) w A cs.length cs) (hc : cs.length ≤ c) (hcal : calB ep cs = true) (hdy : dayB day = true) (y mo d : Int) (hdt : dateOf ep cs day = some (y, mo, d)) :
    Calls Tryz.prog 26 #[.agg #[.int .i64 ep, .slice A cs.length c], .int .i64 day] w fun e w' => e = .returned (.tuple #[.agg #[.int .i64 y, .int .i64 mo, .int .i64 d], .int .i64 0]) ∧ Below w.heap.size w w' := by
  have hu24 := Tryz.underlying24
  have hu38 := Tryz.underlying38
  have hmf : ∀ (fn : Fn) (first cap : Array Value) (w : World), (Instr.makeFunc fn first cap).run Tryz.prog w = .ok (.func fn first cap) w := fun _ _ _ _ => rfl
  have HB := Aside0.mk (Below.refl w.heap.size w)
  have HR := Aside0.mk hr
  have HC := Aside0.mk hc
  clear hr hc
  have HCAL := Aside0.mk hcal
  have HDY := Aside0.mk hdy
  have HDT := Aside0.mk hdt
  clear hcal hdy hdt
  go_enter Tryz.func26, Tryz.ntmps26
  go_wp2_with (first
    | ((with_reducible refine zG 2 rfl ?_); refine zBox 2 #[.int .i64 ep, .slice A cs.length c] 24 ?_; intro g1 hg w1 hbox hb; have GEg1 := zge hg HB; replace HB := zW HB hb; have BKg1 := Aside0.mk hbox; clear hb hbox hg)
    | ((with_reducible refine zG 3 rfl ?_); refine zBox 3 #[.int .i64 day] 3 ?_; intro gd hg w2 hbox hb; have GEgd := zge hg HB; have NEg1_gd := zne hg BKg1; replace HB := zW HB hb; replace BKg1 := zb BKg1 hb; have BKgd := Aside0.mk hbox; clear hb hbox hg)
    | ((with_reducible refine zG 4 rfl ?_); refine zBox 4 #[.int .i64 0, .int .i64 0, .int .i64 0] 38 ?_; intro gr hg w3 hbox hb; have GEgr := zge hg HB; have NEg1_gr := zne hg BKg1; have NEgd_gr := zne hg BKgd; replace HB := zW HB hb; replace BKg1 := zb BKg1 hb; replace BKgd := zb BKgd hb; have BKgr := Aside0.mk hbox; clear hb hbox hg; have za0 := zC BKg1)
    | (go_at_call 46; (with_reducible refine (isCal_l ep A c cs true HCAL.out w _ HR.out HC.out HB.out).mono ?_); rintro e w4 ⟨rfl, hb⟩; replace HB := zW HB hb; replace BKg1 := zb BKg1 hb; replace BKgd := zb BKgd hb; replace BKgr := zb BKgr hb; clear hb; have zd0 : w4.cell? ⟨gd, 0, none⟩ = some (.int .i64 day) := zx BKgd 0)
    | (go_at_call 59; (with_reducible refine (isDay_l day true HDY.out _).mono ?_); rintro e w5 ⟨rfl, hb⟩; replace HB := zW HB hb; replace BKg1 := zb BKg1 hb; replace BKgd := zb BKgd hb; replace BKgr := zb BKgr hb; clear hb; have zr0 := zC BKgr; have zf0 := zF BKgr)
    | ((with_reducible refine zG 6 rfl ?_); refine zBox 6 #[.int .i64 0, .int .i64 0, .int .i64 0] 38 ?_; intro go hg w6 hbox hb; have GEgo := zge hg HB; have NEg1_go := zne hg BKg1; have NEgd_go := zne hg BKgd; have NEgr_go := zne hg BKgr; replace HB := zW HB hb; replace BKg1 := zb BKg1 hb; replace BKgd := zb BKgd hb; replace BKgr := zb BKgr hb; have BKgo := Aside0.mk hbox; clear hb hbox hg)
    | (go_at_call 62; (with_reducible refine (date_try_ok ep A c cs day y mo d w _ g1 gd gr go HR.out HC.out HCAL.out HDT.out HB.out BKg1.out BKgd.out BKgr.out BKgo.out NEgr_go.out GEgo.out).mono ?_); rintro e w7 ⟨rfl, hgo, hgr, hb⟩; clear HB BKgr BKgo BKg1 BKgd; have HB := Aside0.mk hb; have BKgr := Aside0.mk hgr; have BKgo := Aside0.mk hgo; clear hb hgr hgo; have zo0 := zC BKgo)
    | ((with_reducible refine zH 38 4 rfl ?_); refine zSto 38 4 #[.int .i64 y, .int .i64 mo, .int .i64 d] BKgr ?_; intro w9 hw; replace HB := Aside0.mk (show Below w.heap.size w w9 by rw [hw]; exact below_setRow HB.out GEgr.out _); replace BKgr := znew hw BKgr; clear hw))
  refine bodyPost_ret (results_ct rfl _ _ gr 38 #[.int .i64 y, .int .i64 mo, .int .i64 d] (0, 0) _ rfl BKgr.out Tryz.underlying38 rfl (by kernel_rfl)) rfl ?_
  exact ⟨rfl, HB.out⟩
set_option maxHeartbeats 8000000 in
set_option maxRecDepth 100000 in
theorem Date_none (ep : Int) (A : Option Addr) (c : Nat) (cs : List Int) (day : Int) (w : World) (hr : Kd.C (Kd.int .i64) w A cs.length cs) (hc : cs.length ≤ c) (hcal : calB ep cs = true) (hdy : dayB day = true) (hdt : dateOf ep cs day = none) :
    Calls Tryz.prog 26 #[.agg #[.int .i64 ep, .slice A cs.length c], .int .i64 day] w fun e w' => e = .returned (.tuple #[.agg #[.int .i64 0, .int .i64 0, .int .i64 0], .int .i64 5]) ∧ Below w.heap.size w w' := by
  have hu24 := Tryz.underlying24
  have hu38 := Tryz.underlying38
  have hmf : ∀ (fn : Fn) (first cap : Array Value) (w : World), (Instr.makeFunc fn first cap).run Tryz.prog w = .ok (.func fn first cap) w := fun _ _ _ _ => rfl
  have HB := Aside0.mk (Below.refl w.heap.size w)
  have HR := Aside0.mk hr
  have HC := Aside0.mk hc
  clear hr hc
  have HCAL := Aside0.mk hcal
  have HDY := Aside0.mk hdy
  have HDT := Aside0.mk hdt
  clear hcal hdy hdt
  go_enter Tryz.func26, Tryz.ntmps26
  go_wp2_with (first
    | ((with_reducible refine zG 2 rfl ?_); refine zBox 2 #[.int .i64 ep, .slice A cs.length c] 24 ?_; intro g1 hg w1 hbox hb; have GEg1 := zge hg HB; replace HB := zW HB hb; have BKg1 := Aside0.mk hbox; clear hb hbox hg)
    | ((with_reducible refine zG 3 rfl ?_); refine zBox 3 #[.int .i64 day] 3 ?_; intro gd hg w2 hbox hb; have GEgd := zge hg HB; have NEg1_gd := zne hg BKg1; replace HB := zW HB hb; replace BKg1 := zb BKg1 hb; have BKgd := Aside0.mk hbox; clear hb hbox hg)
    | ((with_reducible refine zG 4 rfl ?_); refine zBox 4 #[.int .i64 0, .int .i64 0, .int .i64 0] 38 ?_; intro gr hg w3 hbox hb; have GEgr := zge hg HB; have NEg1_gr := zne hg BKg1; have NEgd_gr := zne hg BKgd; replace HB := zW HB hb; replace BKg1 := zb BKg1 hb; replace BKgd := zb BKgd hb; have BKgr := Aside0.mk hbox; clear hb hbox hg; have za0 := zC BKg1)
    | (go_at_call 46; (with_reducible refine (isCal_l ep A c cs true HCAL.out w _ HR.out HC.out HB.out).mono ?_); rintro e w4 ⟨rfl, hb⟩; replace HB := zW HB hb; replace BKg1 := zb BKg1 hb; replace BKgd := zb BKgd hb; replace BKgr := zb BKgr hb; clear hb; have zd0 : w4.cell? ⟨gd, 0, none⟩ = some (.int .i64 day) := zx BKgd 0)
    | (go_at_call 59; (with_reducible refine (isDay_l day true HDY.out _).mono ?_); rintro e w5 ⟨rfl, hb⟩; replace HB := zW HB hb; replace BKg1 := zb BKg1 hb; replace BKgd := zb BKgd hb; replace BKgr := zb BKgr hb; clear hb; have zr0 := zC BKgr; have zf0 := zF BKgr)
    | ((with_reducible refine zG 6 rfl ?_); refine zBox 6 #[.int .i64 0, .int .i64 0, .int .i64 0] 38 ?_; intro go hg w6 hbox hb; have GEgo := zge hg HB; have NEg1_go := zne hg BKg1; have NEgd_go := zne hg BKgd; have NEgr_go := zne hg BKgr; replace HB := zW HB hb; replace BKg1 := zb BKg1 hb; replace BKgd := zb BKgd hb; replace BKgr := zb BKgr hb; have BKgo := Aside0.mk hbox; clear hb hbox hg)
    | (go_at_call 62; (with_reducible refine (date_try_none ep A c cs day w _ g1 gd gr go HR.out HC.out HCAL.out HDT.out HB.out BKg1.out BKgd.out BKgr.out BKgo.out GEgo.out).mono ?_); rintro e w7 ⟨rfl, hgr, hb⟩; clear HB BKgr BKgo BKg1 BKgd; have HB := Aside0.mk hb; have BKgr := Aside0.mk hgr; clear hb hgr)
    | ((with_reducible refine zH 38 4 rfl ?_); refine zSto 38 4 #[.int .i64 0, .int .i64 0, .int .i64 0] BKgr ?_; intro w9 hw; replace HB := Aside0.mk (show Below w.heap.size w w9 by rw [hw]; exact below_setRow HB.out GEgr.out _); replace BKgr := znew hw BKgr; clear hw))
  refine bodyPost_ret (results_ct rfl _ _ gr 38 #[.int .i64 0, .int .i64 0, .int .i64 0] (0, 0) _ rfl BKgr.out Tryz.underlying38 rfl (by kernel_rfl)) rfl ?_
  exact ⟨rfl, HB.out⟩
def dateR : Option (Int × Int × Int) → Int × Int × Int × Int
  | some (y, mo, d) => (y, mo, d, 0)
  | none => (0, 0, 0, 5)
def dial_Date.f (ep : Int) (cs : List Int) (day : Int) : Option (Int × Int × Int × Int) := some (if (calB ep cs && dayB day) = true then dateR (dateOf ep cs day) else (0, 0, 0, 2))
theorem dial_Date.calls (ep : Int) (A : Option Addr) (c : Nat) (cs : List Int) (day : Int) (r1 r2 r3 r4 : Int) (w : World) (hr : Kd.C (Kd.int .i64) w A cs.length cs) (hc : cs.length ≤ c) (h : dial_Date.f ep cs day = some (r1, r2, r3, r4)) :
    Calls Tryz.prog 26 #[.agg #[.int .i64 ep, .slice A cs.length c], .int .i64 day] w fun e w' => e = .returned (.tuple #[.agg #[.int .i64 r1, .int .i64 r2, .int .i64 r3], .int .i64 r4]) ∧ Below w.heap.size w w' := by
  unfold dial_Date.f at h
  have h := Option.some.inj h
  cases hcal : calB ep cs with
  | false => rw [hcal] at h; simp only [Bool.false_and, Bool.false_eq_true, if_false, Prod.mk.injEq] at h; obtain ⟨rfl, rfl, rfl, rfl⟩ := h; exact Date_bad0 ep A c cs day w hr hc hcal
  | true =>
    cases hdy : dayB day with
    | false => rw [hcal, hdy] at h; simp only [Bool.and_false, Bool.false_eq_true, if_false, Prod.mk.injEq] at h; obtain ⟨rfl, rfl, rfl, rfl⟩ := h; exact Date_bad1 ep A c cs day w hr hc hcal hdy
    | true =>
      rw [hcal, hdy] at h
      simp only [Bool.and_self, if_true] at h
      cases hdt : dateOf ep cs day with
      | none => rw [hdt] at h; simp only [dateR, Prod.mk.injEq] at h; obtain ⟨rfl, rfl, rfl, rfl⟩ := h; exact Date_none ep A c cs day w hr hc hcal hdy hdt
      | some p => obtain ⟨y, mo, d⟩ := p; rw [hdt] at h; simp only [dateR, Prod.mk.injEq] at h; obtain ⟨rfl, rfl, rfl, rfl⟩ := h; exact Date_ok ep A c cs day w hr hc hcal hdy y mo d hdt
end Go.Proofs.YtnllidgonghckaaGreatDoor.X
namespace Go.Proofs.YtnllidgonghckaaGreatDoor.X
open Go.RowKit Go.Proofs.YtnllidgonghckaaGreatDoorW.PrintWords Go.Proofs.YtnllidgonghckaaGreatDoorW.PrintLast Go.Proofs.YtnllidgonghckaaGreatDoorW.PrintMore
attribute [local go_sem] max2_int min2_int max_two min_two max_three min_three max_four min_four
set_option linter.unusedVariables false
set_option linter.unusedSimpArgs false
attribute [local go_sem high] eqA38
mutual
def qDialRound.j0 : Nat → Int → Bool → Int → List Int → Int → Int → Int → Option (Bool)
  | 0, _, _, _, _, _, _, _ => none
  | k + 1, x1, x36, x375000, x375001, x376000, x376001, x376002 => if x36 = true then ((tellurionlaw06_known.f).bind fun t380 => (some t380)) else ((qReal.f k x375000 x375001 x376000 x376001 x376002).bind fun t381 => (if t381 = true then ((dial_Day.f x375000 x375001 x376000 x376001 x376002).bind fun bt382 => (if bt382.2 = 0 then ((qNumber.f bt382.1).bind fun t384 => (if t384 = true then ((dial_Date.f x375000 x375001 bt382.1).bind fun bt385 => (if bt385.2.2.2 = 0 then (if (!(bt385.1 == x376000) || (!(bt385.2.1 == x376001) || (!(bt385.2.2.1 == x376002)))) = true then (none) else (qDialRound.j1 k x1 x375000 x375001)) else (none))) else (qDialRound.j1 k x1 x375000 x375001))) else (none))) else (qDialRound.j1 k x1 x375000 x375001)))
def qDialRound.j1 : Nat → Int → Int → List Int → Option (Bool)
  | 0, _, _, _ => none
  | k + 1, x1, x375000, x375001 => (dial_Date.f x375000 x375001 x1).bind fun bt390 => ((dial_Date.f x375000 x375001 (wrap64 (x1 + 1))).bind fun bt395 => (if bt390.2.2.2 = 0 then ((qReal.f k x375000 x375001 bt390.1 bt390.2.1 bt390.2.2.1).bind fun t402 => (if t402 = true then ((dial_Day.f x375000 x375001 bt390.1 bt390.2.1 bt390.2.2.1).bind fun bt403 => (if bt403.2 = 0 then (qDialRound.j2 k bt395.2.2.2 (bt403.1 != x1) x375000 x375001 bt390.1 bt390.2.1 bt390.2.2.1 bt395.1 bt395.2.1 bt395.2.2.1) else (qDialRound.j2 k bt395.2.2.2 true x375000 x375001 bt390.1 bt390.2.1 bt390.2.2.1 bt395.1 bt395.2.1 bt395.2.2.1))) else (none))) else (if bt390.2.2.2 = 5 then (if bt395.2.2.2 = 5 then ((tellurionlaw06_known.f).bind fun t400 => (some t400)) else (if (wrap64 (x1 + 1)) = x375000 then (if bt395.2.2.2 = 0 then (if (bt395.1 == 0 && (bt395.2.1 == 1 && (bt395.2.2.1 == 1))) = true then ((tellurionlaw06_known.f).bind fun t401 => (some t401)) else (none)) else (none)) else (none))) else (none))))
def qDialRound.j2 : Nat → Int → Bool → Int → List Int → Int → Int → Int → Int → Int → Int → Option (Bool)
  | 0, _, _, _, _, _, _, _, _, _, _ => none
  | k + 1, x14, x120, x375000, x375001, x395000, x395001, x395002, x400000, x400001, x400002 => if x120 = true then (none) else ((qNext.f k x375000 x375001 x395000 x395001 x395002).bind fun bt405 => ((qYear.f bt405.1).bind fun t409 => (if t409 = true then (if x14 = 0 then (if (x400000 == bt405.1 && (x400001 == bt405.2.1 && (x400002 == bt405.2.2))) = true then ((tellurionlaw06_known.f).bind fun t410 => (some t410)) else (none)) else (none)) else (if x14 = 5 then ((tellurionlaw06_known.f).bind fun t411 => (some t411)) else (none)))))
end
def qDialRound.f (k : Nat) (a0_0 : Int) (l0_1 : List Int) (a1 : Int) (a2_0 : Int) (a2_1 : Int) (a2_2 : Int) : Option (Bool) := (qshort.f a0_0 l0_1).bind fun t376 => (if t376 = true then ((qCalendar.f k a0_0 l0_1).bind fun t377 => (if t377 = true then ((qNumber.f a1).bind fun t378 => (if t378 = true then ((qNumber.f (wrap64 (a1 + 1))).bind fun t379 => (qDialRound.j0 k a1 (!t379) a0_0 l0_1 a2_0 a2_1 a2_2)) else (qDialRound.j0 k a1 true a0_0 l0_1 a2_0 a2_1 a2_2))) else (qDialRound.j0 k a1 true a0_0 l0_1 a2_0 a2_1 a2_2))) else (qDialRound.j0 k a1 true a0_0 l0_1 a2_0 a2_1 a2_2))
end Go.Proofs.YtnllidgonghckaaGreatDoor.X
namespace Go.Proofs.YtnllidgonghckaaGreatDoor.X
open Go.RowKit Go.Proofs.YtnllidgonghckaaGreatDoorW.PrintWords Go.Proofs.YtnllidgonghckaaGreatDoorW.PrintLast Go.Proofs.YtnllidgonghckaaGreatDoorW.PrintMore Go.Proofs.YtnllidgonghckaaGreatDoor.Dm
set_option linter.unusedVariables false
set_option linter.unusedSimpArgs false
theorem rin_f (a b c : Int) : tellurionref06_in.f a b c = some (inB a b c) := by
  unfold tellurionref06_in.f inB
  by_cases h : b ≤ a
  · rw [if_pos h]; simp [h]
  · rw [if_neg h]; simp [h]
theorem rYear_f (y : Int) : qYear.f y = some (yearB y) := by
  unfold qYear.f
  rw [rin_f]
  rfl
theorem rNumber_f (d : Int) : qNumber.f d = some (dayB d) := by
  unfold qNumber.f
  rw [rin_f]
  rfl
theorem short_f (ep : Int) (cs : List Int) : qshort.f ep cs = some (decide (cs.length ≤ 5)) := by
  unfold qshort.f
  congr 1
  exact decide_eq_decide.2 (by omega)
theorem rCal_l (ep : Int) (cs : List Int) (h5 : cs.length ≤ 5) : ∀ (d k i : Nat) (last : Int), i + d = cs.length → d < k → (i = 0 → last = 1) → (∀ h : 0 < i ∧ i ≤ cs.length, last = cs[i - 1] ∧ 1 ≤ last) →
    qCalendar.l0 k i ep cs = some (incr last (cs.drop i) && (inB ep 0 1000 && inB cs.length 1 3)) := by
  intro d
  induction d with
  | zero =>
    intro k i last hi hk _ _
    obtain ⟨k, rfl⟩ : ∃ m, k = m + 1 := ⟨k - 1, by omega⟩
    unfold qCalendar.l0
    rw [if_neg (by omega), rin_f, Option.bind_some, rin_f, List.drop_of_length_le (by omega)]
    cases inB ep 0 1000 <;> simp [incr]
  | succ d ih =>
    intro k i last hi hk h0 h1
    obtain ⟨k, rfl⟩ : ∃ m, k = m + 1 := ⟨k - 1, by omega⟩
    have hlt : i < cs.length := by omega
    have hw : wrap64 ((i : Int) + 1) = ((i + 1 : Nat) : Int) := by rw [wrap_of _ (by omega) (by omega)]; rfl
    unfold qCalendar.l0
    rw [if_pos (by omega), if_pos (by omega), rd_nat cs i hlt, rin_f, Option.bind_some, drop_cons cs i hlt, hw]
    have e : incr last (cs[i] :: cs.drop (i + 1)) = (decide (last + 1 ≤ cs[i]) && decide (cs[i] ≤ 1000) && incr cs[i] (cs.drop (i + 1))) := rfl
    rw [e]
    have hn := ih k (i + 1) cs[i] (by omega) (by omega) (by omega)
    by_cases a : 2 ≤ cs[i] ∧ cs[i] ≤ 1000
    · rw [show inB cs[i] 2 1000 = true by simp [inB, a], if_pos rfl]
      have hn := hn (fun _ => ⟨by simp, by omega⟩)
      by_cases z : 0 < i
      · have hl := h1 ⟨z, by omega⟩
        rw [if_pos (by omega), wrap_of ((i : Int) - 1) (by omega) (by omega), if_pos (by omega), if_pos (by omega), show (i : Int) - 1 = ((i - 1 : Nat) : Int) by omega, rd_nat cs (i - 1) (by omega), ← hl.1]
        by_cases b : cs[i] ≤ last
        · rw [if_pos b, decide_eq_false (show ¬ last + 1 ≤ cs[i] by omega)]; simp
        · rw [if_neg b, hn, decide_eq_true (show last + 1 ≤ cs[i] by omega), decide_eq_true a.2]; simp
      · have hl := h0 (by omega)
        rw [if_neg (by omega), hn, decide_eq_true (show last + 1 ≤ cs[i] by omega), decide_eq_true a.2]; simp
    · rw [show inB cs[i] 2 1000 = false by simp only [inB, Bool.and_eq_false_iff, decide_eq_false_iff_not]; omega, if_neg (by decide)]
      have : (decide (last + 1 ≤ cs[i]) && decide (cs[i] ≤ 1000)) = false := by
        simp only [Bool.and_eq_false_iff, decide_eq_false_iff_not]
        by_cases z : 0 < i
        · have := (h1 ⟨z, by omega⟩).2; omega
        · have := h0 (by omega); omega
      rw [this]; simp
theorem rCalendar_f (k : Nat) (ep : Int) (cs : List Int) (h5 : cs.length ≤ 5) (hk : 6 ≤ k) : qCalendar.f k ep cs = some (calB ep cs) := by
  unfold qCalendar.f
  rw [show (0 : Int) = ((0 : Nat) : Int) from rfl, rCal_l ep cs h5 cs.length k 0 1 (by omega) (by omega) (fun _ => rfl) (fun h => absurd h.1 (by omega))]
  unfold calB inB
  congr 1
  have e1 : decide ((1 : Int) ≤ (cs.length : Int)) = decide (1 ≤ cs.length) := decide_eq_decide.2 (by omega)
  have e2 : decide ((cs.length : Int) ≤ 3) = decide (cs.length ≤ 3) := decide_eq_decide.2 (by omega)
  rw [e1, e2, List.drop_zero]
  cases incr 1 cs <;> cases decide (0 ≤ ep) <;> cases decide (ep ≤ 1000) <;> cases decide (1 ≤ cs.length) <;> cases decide (cs.length ≤ 3) <;> rfl
theorem rLeap_l (ep y : Int) (cs : List Int) (hnz : ∀ n ∈ cs, n ≠ 0) (hl : cs.length ≤ 1000) : ∀ (d k i : Nat) (x : Int), i + d = cs.length → d < k → 0 ≤ x → x ≤ i →
    qLeap.l0 k y x i ep cs = some ((cs.drop i).foldl (fun b n => if y.tmod n = 0 then !b else b) (x.tmod 2 == 1)) := by
  intro d
  induction d with
  | zero =>
    intro k i x hi hk h0 h1
    obtain ⟨k, rfl⟩ : ∃ m, k = m + 1 := ⟨k - 1, by omega⟩
    unfold qLeap.l0
    rw [if_neg (by omega), List.drop_of_length_le (by omega)]
    rfl
  | succ d ih =>
    intro k i x hi hk hx0 hx1
    obtain ⟨k, rfl⟩ : ∃ m, k = m + 1 := ⟨k - 1, by omega⟩
    have hlt : i < cs.length := by omega
    have hw : wrap64 ((i : Int) + 1) = ((i + 1 : Nat) : Int) := by rw [wrap_of _ (by omega) (by omega)]; rfl
    have h0 : cs[i] ≠ 0 := hnz _ (List.getElem_mem hlt)
    unfold qLeap.l0
    rw [if_pos (by omega), if_pos (by omega), rd_nat cs i hlt, if_neg h0, hw, drop_cons cs i hlt, List.foldl_cons]
    by_cases h : y.tmod cs[i] = 0
    · rw [if_pos h, if_pos h, wrap_of (x + 1) (by omega) (by omega), ih k (i + 1) _ (by omega) (by omega) (by omega) (by omega)]
      congr 2
      rw [Int.tmod_eq_emod_of_nonneg (by omega), Int.tmod_eq_emod_of_nonneg (by omega), Bool.eq_iff_iff]
      simp only [beq_iff_eq, Bool.not_eq_true', beq_eq_false_iff_ne]
      omega
    · rw [if_neg h, if_neg h, ih k (i + 1) _ (by omega) (by omega) hx0 (by omega)]
theorem cal_nz {ep : Int} {cs : List Int} (h : calB ep cs = true) : (∀ n ∈ cs, n ≠ 0) ∧ cs.length ≤ 3 ∧ 0 ≤ ep ∧ ep ≤ 1000 := by
  have q := calB_iff h
  exact ⟨fun n hn => by have := q.2.2.2.2 n hn; omega, q.2.2.2.1, q.1, q.2.1⟩
theorem rLeap_f {ep : Int} {cs : List Int} (h : calB ep cs = true) (k : Nat) (y : Int) (hk : 4 ≤ k) : qLeap.f k ep cs y = some (leapB cs y) := by
  have q := cal_nz h
  unfold qLeap.f leapB
  exact rLeap_l ep y cs q.1 (by omega) cs.length k 0 0 (by omega) (by omega) (by omega) (by omega)
theorem rLength_f (m : Int) (lp : Bool) (hm : 1 ≤ m ∧ m ≤ 12) : qLength.f m lp = some (rd (mlist lp) (m - 1)) := by
  have : m = 1 ∨ m = 2 ∨ m = 3 ∨ m = 4 ∨ m = 5 ∨ m = 6 ∨ m = 7 ∨ m = 8 ∨ m = 9 ∨ m = 10 ∨ m = 11 ∨ m = 12 := by omega
  clear hm
  rcases this with rfl | rfl | rfl | rfl | rfl | rfl | rfl | rfl | rfl | rfl | rfl | rfl <;> cases lp <;> decide +kernel
theorem rReal_f {ep : Int} {cs : List Int} (h : calB ep cs = true) (k : Nat) (y m d : Int) (hk : 4 ≤ k) : qReal.f k ep cs y m d = some (dateB cs y m d) := by
  unfold qReal.f qWritten.f dateB
  rw [rYear_f, Option.bind_some, rin_f, Option.bind_some, rin_f, Option.bind_some]
  cases yearB y with
  | false => rfl
  | true =>
    cases hm : inB m 1 12 with
    | false => rfl
    | true =>
      have hm' : 1 ≤ m ∧ m ≤ 12 := by simpa [inB] using hm
      have b := mlist_rd (leapB cs y) (m - 1)
      cases hd : inB d 1 31 with
      | false =>
        have : inB d 1 (mdays cs y m) = false := Bool.eq_false_iff.2 (fun q => by
          have hq : 1 ≤ d ∧ d ≤ mdays cs y m := by simpa [inB] using q
          have hm2 : mdays cs y m ≤ 31 := b.2
          have : inB d 1 31 = true := by simp only [inB, Bool.and_eq_true, decide_eq_true_eq]; omega
          rw [hd] at this; cases this)
        rw [this]; rfl
      | true =>
        have hd' : 1 ≤ d ∧ d ≤ 31 := by simpa [inB] using hd
        simp only [if_true, Option.bind_some]
        rw [rLeap_f h k y hk, Option.bind_some, rLength_f m _ hm', Option.bind_some]
        show _ = some (true && true && (decide (1 ≤ d) && decide (d ≤ rd (mlist (leapB cs y)) (m - 1))))
        rw [decide_eq_true hd'.1, Bool.true_and, Bool.true_and, Bool.true_and]
theorem fsum (a : Int) : ∀ l : List Int, l.foldl (· + ·) a = a + l.foldl (· + ·) 0
  | [] => by simp
  | n :: r => by rw [List.foldl_cons, List.foldl_cons, fsum (a + n) r, fsum (0 + n) r]; omega
theorem mloop_spec : ∀ (l : List Int) (left i m d : Int), 0 ≤ left → mloop l left i = some (m, d) → ∃ j : Nat, j < l.length ∧ m = i + j + 1 ∧ (l.take j).foldl (· + ·) 0 + d - 1 = left ∧ 1 ≤ d ∧ d ≤ l.getD j 0
  | [], left, i, m, d, _, h => by cases h
  | n :: r, left, i, m, d, h0, h => by
    unfold mloop at h
    by_cases c : left < n
    · rw [if_pos c] at h
      cases h
      exact ⟨0, by simp, by simp, by simp, by omega, by simp; omega⟩
    · rw [if_neg c] at h
      obtain ⟨j, a, b, e, f, g⟩ := mloop_spec r (left - n) (i + 1) m d (by omega) h
      refine ⟨j + 1, by simp; omega, by omega, ?_, f, by simpa using g⟩
      rw [List.take_succ_cons, List.foldl_cons, fsum]
      omega
theorem mloop_at : ∀ (l : List Int) (i : Int) (j : Nat) (e : Int), (∀ x ∈ l, 0 ≤ x) → j < l.length → 0 ≤ e → e < l.getD j 0 → mloop l ((l.take j).foldl (· + ·) 0 + e) i = some (i + j + 1, e + 1)
  | [], _, j, _, _, hj, _, _ => by simp at hj
  | n :: r, i, 0, e, _, _, h0, h1 => by
    have h1 : e < n := by simpa using h1
    unfold mloop
    rw [List.take_zero, List.foldl_nil, Int.zero_add, if_pos h1]
    simp
  | n :: r, i, j + 1, e, hx, hj, h0, h1 => by
    have hn := hx n List.mem_cons_self
    have hs : 0 ≤ (r.take j).foldl (· + ·) 0 := by
      have : ∀ (q : List Int) (a : Int), 0 ≤ a → (∀ x ∈ q, 0 ≤ x) → 0 ≤ q.foldl (· + ·) a := by
        intro q
        induction q with
        | nil => intro a ha _; exact ha
        | cons b q ih => intro a ha hq; exact ih (a + b) (by have := hq b List.mem_cons_self; omega) (fun x hx => hq x (List.mem_cons_of_mem _ hx))
      exact this _ 0 (Int.le_refl _) (fun x hx' => hx x (List.mem_cons_of_mem _ (List.mem_of_mem_take hx')))
    rw [List.take_succ_cons, List.foldl_cons, fsum]
    unfold mloop
    rw [if_neg (by omega), show 0 + n + (r.take j).foldl (· + ·) 0 + e - n = (r.take j).foldl (· + ·) 0 + e by omega, mloop_at r (i + 1) j e (fun x hx' => hx x (List.mem_cons_of_mem _ hx')) (by simpa using hj) h0 (by simpa using h1)]
    simp only [Option.some.injEq, Prod.mk.injEq, and_true]
    omega
theorem rd_getD (l : List Int) (i : Int) : rd l i = l.getD i.toNat 0 := rfl
theorem mlist_pos (lp : Bool) : ∀ x ∈ mlist lp, 0 ≤ x := fun x hx => (mlist_mem lp x hx).1
theorem month_in (lp : Bool) (m : Int) (hm : 1 ≤ m ∧ m ≤ 12) : ((mlist lp).take (m - 1).toNat).foldl (· + ·) 0 + rd (mlist lp) (m - 1) ≤ (if lp = true then 366 else 365) ∧ 28 ≤ rd (mlist lp) (m - 1) ∧ (m < 12 → ((mlist lp).take m.toNat).foldl (· + ·) 0 = ((mlist lp).take (m - 1).toNat).foldl (· + ·) 0 + rd (mlist lp) (m - 1)) ∧ (m = 12 → ((mlist lp).take (m - 1).toNat).foldl (· + ·) 0 + rd (mlist lp) (m - 1) = (if lp = true then 366 else 365)) := by
  have : m = 1 ∨ m = 2 ∨ m = 3 ∨ m = 4 ∨ m = 5 ∨ m = 6 ∨ m = 7 ∨ m = 8 ∨ m = 9 ∨ m = 10 ∨ m = 11 ∨ m = 12 := by omega
  clear hm
  rcases this with rfl | rfl | rfl | rfl | rfl | rfl | rfl | rfl | rfl | rfl | rfl | rfl <;> cases lp <;> decide +kernel
theorem ylen_if (cs : List Int) (y : Int) : ylen cs y = if leapB cs y = true then 366 else 365 := by unfold ylen; cases leapB cs y <;> rfl
theorem dateOf_day {ep : Int} {cs : List Int} {day y m d : Int} (h : dateOf ep cs day = some (y, m, d)) : dateB cs y m d = true ∧ dayOf ep cs y m d = day := by
  unfold dateOf at h
  split at h
  · rename_i hy
    obtain ⟨y1, y2, y3, _⟩ := yearTo_spec ep cs day 4002
    have hb := yearB_iff hy
    have hle : fday ep cs (yearOf ep cs day).toNat ≤ day := y3 hb.1
    cases hm : mloop (mlist (leapB cs (yearOf ep cs day))) (day - fday ep cs (yearOf ep cs day).toNat) 0 with
    | none => rw [hm] at h; cases h
    | some p =>
      obtain ⟨a, b⟩ := p
      rw [hm] at h
      simp only [Option.map_some, Option.some.injEq, Prod.mk.injEq] at h
      obtain ⟨e1, rfl, rfl⟩ := h
      rw [e1] at hm hy hb hle
      obtain ⟨j, j1, j2, j3, j4, j5⟩ := mloop_spec _ _ _ _ _ (by omega) hm
      rw [mlist_length] at j1
      have ej : (a - 1).toNat = j := by omega
      constructor
      · unfold dateB mdays
        rw [hy, rd_getD, ej]
        simp only [inB, Bool.and_eq_true, decide_eq_true_eq]
        exact ⟨⟨trivial, by omega⟩, by omega⟩
      · unfold dayOf mbefore
        rw [ej]
        omega
  · cases h
theorem dateOf_of {ep : Int} {cs : List Int} {y m d : Int} (h : dateB cs y m d = true) : dateOf ep cs (dayOf ep cs y m d) = some (y, m, d) := by
  obtain ⟨y0, y1, m0, m1, d0, d1⟩ := dateB_iff h
  obtain ⟨mi, _, _, _⟩ := month_in (leapB cs y) m ⟨m0, m1⟩
  have mb := (mbefore_bd cs y m).1
  obtain ⟨n, rfl⟩ : ∃ n : Nat, y = n := ⟨y.toNat, by omega⟩
  have e : dayOf ep cs n m d = fday ep cs n + mbefore cs n m + d - 1 := rfl
  have hs : fday ep cs (n + 1) = fday ep cs n + ylen cs n := rfl
  have e2 : mbefore cs n m = ((mlist (leapB cs (n : Int))).take (m - 1).toNat).foldl (· + ·) 0 := rfl
  have d2 : d ≤ rd (mlist (leapB cs (n : Int))) (m - 1) := d1
  rw [dateOf_at ep cs _ n (by omega) (by omega) (by rw [hs, ylen_if]; omega), e, e2, show fday ep cs n + ((mlist (leapB cs (n : Int))).take (m - 1).toNat).foldl (· + ·) 0 + d - 1 - fday ep cs n = ((mlist (leapB cs (n : Int))).take (m - 1).toNat).foldl (· + ·) 0 + (d - 1) by omega, mloop_at _ 0 (m - 1).toNat (d - 1) (mlist_pos _) (by rw [mlist_length]; omega) (by omega) (by rw [← rd_getD]; omega)]
  simp only [Option.map_some, Option.some.injEq, Prod.mk.injEq, true_and]
  omega
theorem dateOf_none {ep : Int} {cs : List Int} (day : Int) : dateOf ep cs day = none ↔ (day < ep ∨ fday ep cs 4001 ≤ day) := by
  obtain ⟨y1, y2, y3, y4⟩ := yearTo_spec ep cs day 4002
  have e : yearOf ep cs day = yearTo ep cs day 4002 := rfl
  have ez : fday ep cs 0 = ep := rfl
  constructor
  · intro h
    rcases Int.lt_or_le (yearTo ep cs day 4002) 0 with c | c
    · have := y4 0 (by omega) (by omega)
      exact .inl (by omega)
    · right
      have hle := y3 c
      rcases Int.lt_or_le 4000 (yearTo ep cs day 4002) with c2 | c2
      · rw [show (yearTo ep cs day 4002).toNat = 4001 by omega] at hle
        exact hle
      · exfalso
        unfold dateOf at h
        rw [if_pos (by rw [e]; simp only [yearB, Bool.and_eq_true, decide_eq_true_eq]; omega), e] at h
        have hl := y4 ((yearTo ep cs day 4002).toNat + 1) (by omega) (by omega)
        have hs : fday ep cs ((yearTo ep cs day 4002).toNat + 1) = fday ep cs (yearTo ep cs day 4002).toNat + ylen cs ((yearTo ep cs day 4002).toNat : Int) := rfl
        rw [show ((yearTo ep cs day 4002).toNat : Int) = yearTo ep cs day 4002 by omega] at hs
        obtain ⟨p, hp⟩ := mloop_some (mlist (leapB cs (yearTo ep cs day 4002))) (day - fday ep cs (yearTo ep cs day 4002).toNat) 0 (by omega) (by rw [mlist_sum, ← ylen_if]; omega)
        rw [hp] at h
        cases h
  · intro h
    cases hd : dateOf ep cs day with
    | none => rfl
    | some p =>
      obtain ⟨y, m, d⟩ := p
      obtain ⟨a, b⟩ := dateOf_day hd
      obtain ⟨y0, y1, m0, m1, d0, d1⟩ := dateB_iff a
      obtain ⟨mi, _, _, _⟩ := month_in (leapB cs y) m ⟨m0, m1⟩
      have mb := (mbefore_bd cs y m).1
      obtain ⟨n, rfl⟩ : ∃ n : Nat, y = n := ⟨y.toNat, by omega⟩
      have e : dayOf ep cs n m d = fday ep cs n + mbefore cs n m + d - 1 := rfl
      have hs : fday ep cs (n + 1) = fday ep cs n + ylen cs n := rfl
      have e2 : mbefore cs n m = ((mlist (leapB cs (n : Int))).take (m - 1).toNat).foldl (· + ·) 0 := rfl
      have d2 : d ≤ rd (mlist (leapB cs (n : Int))) (m - 1) := d1
      have g1 := fday_mono ep cs 0 n (by omega)
      have g2 := fday_mono ep cs (n + 1) 4001 (by omega)
      rw [ylen_if] at hs
      exfalso
      omega
def nextOf (cs : List Int) (y m d : Int) : Int × Int × Int := if d < mdays cs y m then (y, m, d + 1) else if m < 12 then (y, m + 1, 1) else (y + 1, 1, 1)
theorem nextOf_day {ep : Int} {cs : List Int} {y m d : Int} (h : dateB cs y m d = true) (hy : (nextOf cs y m d).1 ≤ 4000) : dateB cs (nextOf cs y m d).1 (nextOf cs y m d).2.1 (nextOf cs y m d).2.2 = true ∧ dayOf ep cs (nextOf cs y m d).1 (nextOf cs y m d).2.1 (nextOf cs y m d).2.2 = dayOf ep cs y m d + 1 := by
  obtain ⟨y0, y1, m0, m1, d0, d1⟩ := dateB_iff h
  obtain ⟨mi, m28, mi2, mi3⟩ := month_in (leapB cs y) m ⟨m0, m1⟩
  have mk : ∀ (a b c : Int), 0 ≤ a → a ≤ 4000 → 1 ≤ b → b ≤ 12 → 1 ≤ c → c ≤ mdays cs a b → dateB cs a b c = true := by
    intro a b c h1 h2 h3 h4 h5 h6
    simp only [dateB, yearB, inB, Bool.and_eq_true, decide_eq_true_eq]
    exact ⟨⟨⟨h1, h2⟩, h3, h4⟩, h5, h6⟩
  unfold nextOf at hy ⊢
  by_cases c : d < mdays cs y m
  · rw [if_pos c] at hy ⊢
    exact ⟨mk _ _ _ y0 y1 m0 m1 (by show 1 ≤ d + 1; omega) (by show d + 1 ≤ mdays cs y m; omega), by show fday ep cs y.toNat + mbefore cs y m + (d + 1) - 1 = fday ep cs y.toNat + mbefore cs y m + d - 1 + 1; omega⟩
  · rw [if_neg c] at hy ⊢
    have ed : d = rd (mlist (leapB cs y)) (m - 1) := by have : mdays cs y m = rd (mlist (leapB cs y)) (m - 1) := rfl; omega
    by_cases c2 : m < 12
    · rw [if_pos c2] at hy ⊢
      have m28' := (month_in (leapB cs y) (m + 1) ⟨by omega, by omega⟩).2.1
      refine ⟨mk _ _ _ y0 y1 (by show 1 ≤ m + 1; omega) (by show m + 1 ≤ 12; omega) (Int.le_refl _) (by show (1 : Int) ≤ rd (mlist (leapB cs y)) (m + 1 - 1); omega), ?_⟩
      have e1 : mbefore cs y (m + 1) = ((mlist (leapB cs y)).take m.toNat).foldl (· + ·) 0 := by unfold mbefore; rw [show m + 1 - 1 = m by omega]
      have e2 : mbefore cs y m = ((mlist (leapB cs y)).take (m - 1).toNat).foldl (· + ·) 0 := rfl
      show fday ep cs y.toNat + mbefore cs y (m + 1) + 1 - 1 = fday ep cs y.toNat + mbefore cs y m + d - 1 + 1
      have := mi2 c2
      omega
    · rw [if_neg c2] at hy ⊢
      have hy : y + 1 ≤ 4000 := hy
      have m28' := (month_in (leapB cs (y + 1)) 1 ⟨by omega, by omega⟩).2.1
      refine ⟨mk _ _ _ (by show 0 ≤ y + 1; omega) hy (Int.le_refl _) (by show (1 : Int) ≤ 12; omega) (Int.le_refl _) (by show (1 : Int) ≤ rd (mlist (leapB cs (y + 1))) (1 - 1); omega), ?_⟩
      have e2 : mbefore cs y m = ((mlist (leapB cs y)).take (m - 1).toNat).foldl (· + ·) 0 := rfl
      have e3 : mbefore cs (y + 1) 1 = 0 := rfl
      obtain ⟨n, rfl⟩ : ∃ n : Nat, y = n := ⟨y.toNat, by omega⟩
      have hs : fday ep cs (n + 1) = fday ep cs n + ylen cs n := rfl
      rw [ylen_if] at hs
      show fday ep cs ((n : Int) + 1).toNat + mbefore cs ((n : Int) + 1) 1 + 1 - 1 = fday ep cs n + mbefore cs n m + d - 1 + 1
      rw [show ((n : Int) + 1).toNat = n + 1 by omega, e3]
      have := mi3 (by omega)
      omega
theorem nextOf_end {ep : Int} {cs : List Int} {y m d : Int} (h : dateB cs y m d = true) (hy : 4000 < (nextOf cs y m d).1) : dayOf ep cs y m d + 1 = fday ep cs 4001 := by
  obtain ⟨y0, y1, m0, m1, d0, d1⟩ := dateB_iff h
  obtain ⟨mi, m28, mi2, mi3⟩ := month_in (leapB cs y) m ⟨m0, m1⟩
  unfold nextOf at hy
  by_cases c : d < mdays cs y m
  · rw [if_pos c] at hy
    have hy : 4000 < y := hy
    omega
  · rw [if_neg c] at hy
    by_cases c2 : m < 12
    · rw [if_pos c2] at hy
      have hy : 4000 < y := hy
      omega
    · rw [if_neg c2] at hy
      have hy : 4000 < y + 1 := hy
      obtain rfl : y = 4000 := by omega
      have ed : d = rd (mlist (leapB cs 4000)) (m - 1) := by have : mdays cs 4000 m = rd (mlist (leapB cs 4000)) (m - 1) := rfl; omega
      have e2 : mbefore cs 4000 m = ((mlist (leapB cs 4000)).take (m - 1).toNat).foldl (· + ·) 0 := rfl
      have hs : fday ep cs 4001 = fday ep cs 4000 + ylen cs 4000 := rfl
      rw [ylen_if] at hs
      have e : dayOf ep cs 4000 m d = fday ep cs 4000 + mbefore cs 4000 m + d - 1 := rfl
      have := mi3 (by omega)
      omega
theorem rNext_f {ep : Int} {cs : List Int} (h : calB ep cs = true) (k : Nat) (y m d : Int) (hd : dateB cs y m d = true) (hk : 4 ≤ k) : qNext.f k ep cs y m d = some (nextOf cs y m d) := by
  obtain ⟨y0, y1, m0, m1, d0, d1⟩ := dateB_iff hd
  have md : mdays cs y m ≤ 31 := (mlist_rd (leapB cs y) (m - 1)).2
  unfold qNext.f nextOf
  rw [rLeap_f h k y hk, Option.bind_some, rLength_f m _ ⟨m0, m1⟩, Option.bind_some, wrap_of (d + 1) (by omega) (by omega), wrap_of (m + 1) (by omega) (by omega), wrap_of (y + 1) (by omega) (by omega)]
  show (if d < mdays cs y m then _ else _) = _
  by_cases c : d < mdays cs y m
  · rw [if_pos c, if_pos c]
  · rw [if_neg c, if_neg c]
    by_cases c2 : m < 12
    · rw [if_pos c2, if_pos c2]
    · rw [if_neg c2, if_neg c2]
theorem round_j2 {ep : Int} {cs : List Int} (hc : calB ep cs = true) (k : Nat) (day y m d : Int) (hk : 4500 ≤ k) (hd : dateB cs y m d = true) (he : dayOf ep cs y m d = day) :
    qDialRound.j2 k (dateR (dateOf ep cs (day + 1))).2.2.2 false ep cs y m d (dateR (dateOf ep cs (day + 1))).1 (dateR (dateOf ep cs (day + 1))).2.1 (dateR (dateOf ep cs (day + 1))).2.2.1 = some true := by
  obtain ⟨k, rfl⟩ : ∃ j, k = j + 1 := ⟨k - 1, by omega⟩
  unfold qDialRound.j2
  dsimp only
  rw [if_neg (by decide), rNext_f hc k y m d hd (by omega), Option.bind_some, rYear_f, Option.bind_some]
  have y0 := (dateB_iff hd).1
  have ny : 0 ≤ (nextOf cs y m d).1 := by
    unfold nextOf
    split
    · exact y0
    · split
      · exact y0
      · show 0 ≤ y + 1; omega
  rcases Int.lt_or_le 4000 (nextOf cs y m d).1 with c | c
  · have := nextOf_end (ep := ep) hd c
    rw [show yearB (nextOf cs y m d).1 = false by rw [yearB, decide_eq_false (show ¬ (nextOf cs y m d).1 ≤ 4000 by omega), Bool.and_false], if_neg (by decide), (dateOf_none (day + 1)).2 (.inr (by omega))]
    rfl
  · obtain ⟨a, b⟩ := nextOf_day (ep := ep) hd c
    have e := dateOf_of (ep := ep) a
    rw [b, he] at e
    rw [show yearB (nextOf cs y m d).1 = true by rw [yearB, decide_eq_true ny, decide_eq_true c]; rfl, if_pos rfl, e]
    show (if (0 : Int) = 0 then (if ((nextOf cs y m d).1 == (nextOf cs y m d).1 && ((nextOf cs y m d).2.1 == (nextOf cs y m d).2.1 && ((nextOf cs y m d).2.2 == (nextOf cs y m d).2.2))) = true then _ else _) else _) = _
    rw [if_pos rfl, beq_self_eq_true, beq_self_eq_true, beq_self_eq_true]
    rfl
theorem round_j1 {ep : Int} {cs : List Int} (hc : calB ep cs = true) (k : Nat) (day : Int) (hk : 4600 ≤ k) (hd : dayB day = true) (hd1 : dayB (day + 1) = true) : qDialRound.j1 k day ep cs = some true := by
  obtain ⟨k, rfl⟩ : ∃ j, k = j + 1 := ⟨k - 1, by omega⟩
  have hb : 0 ≤ day ∧ day ≤ 2000000 := by simpa [dayB] using hd
  have q := cal_nz hc
  unfold qDialRound.j1 dial_Date.f dial_Day.f
  dsimp only
  rw [wrap_of (day + 1) (by omega) (by omega), Option.bind_some, Option.bind_some, hc, hd, hd1]
  simp only [Bool.and_self, if_true, Bool.true_and]
  cases hx : dateOf ep cs day with
  | none =>
    show (if (5 : Int) = 0 then _ else (if (5 : Int) = 5 then _ else _)) = _
    rw [if_neg (by decide), if_pos rfl]
    rcases (dateOf_none day).1 hx with c | c
    · rcases Int.lt_or_le (day + 1) ep with c2 | c2
      · rw [(dateOf_none (day + 1)).2 (.inl c2)]; rfl
      · have e0 : fday ep cs 0 = ep := rfl
        have e1 : fday ep cs 1 = fday ep cs 0 + ylen cs 0 := rfl
        have yl := ylen_range cs 0
        have e : dateOf ep cs (day + 1) = some (0, 1, 1) := by
          have h0 : dateB cs 0 1 1 = true := by
            have := (month_in (leapB cs 0) 1 ⟨by omega, by omega⟩).2.1
            show (true && true && (decide ((1 : Int) ≤ 1) && decide ((1 : Int) ≤ rd (mlist (leapB cs 0)) (1 - 1)))) = true
            rw [decide_eq_true (show (1 : Int) ≤ rd (mlist (leapB cs 0)) (1 - 1) by omega)]
            rfl
          have := dateOf_of (ep := ep) h0
          rw [show dayOf ep cs 0 1 1 = day + 1 by show ep + 0 + 1 - 1 = day + 1; omega] at this
          exact this
        rw [e]
        show (if (0 : Int) = 5 then _ else (if day + 1 = ep then (if (0 : Int) = 0 then (if ((0 : Int) == 0 && ((1 : Int) == 1 && (1 : Int) == 1)) = true then _ else _) else _) else _)) = _
        rw [if_neg (by decide), if_pos (by omega), if_pos rfl, if_pos (by decide)]
        rfl
    · rw [(dateOf_none (day + 1)).2 (.inr (by omega))]; rfl
  | some p =>
    obtain ⟨y, m, d⟩ := p
    obtain ⟨a, b⟩ := dateOf_day hx
    show (if (0 : Int) = 0 then ((qReal.f k ep cs y m d).bind _) else _) = _
    rw [if_pos rfl, rReal_f hc k y m d (by omega), Option.bind_some, a, if_pos rfl, Option.bind_some]
    have er : dateR (some (y, m, d)) = (y, m, d, 0) := rfl
    simp only [er, a, if_true]
    rw [b, bne_self_eq_false]
    exact round_j2 hc k day y m d (by omega) a b
theorem DialRound_pure (ep : Int) (cs : List Int) (day y m d : Int) : ∃ k, qDialRound.f k ep cs day y m d = some true := by
  refine ⟨5000, ?_⟩
  unfold qDialRound.f
  have no : qDialRound.j0 5000 day true ep cs y m d = some true := rfl
  rw [short_f, Option.bind_some]
  by_cases h5 : cs.length ≤ 5
  · rw [if_pos (decide_eq_true h5), rCalendar_f _ ep cs h5 (by omega), Option.bind_some]
    cases hc : calB ep cs with
    | false => exact no
    | true =>
      rw [if_pos rfl, rNumber_f, Option.bind_some]
      cases hd : dayB day with
      | false => exact no
      | true =>
        have hb : 0 ≤ day ∧ day ≤ 2000000 := by simpa [dayB] using hd
        rw [if_pos rfl, wrap_of (day + 1) (by omega) (by omega), rNumber_f, Option.bind_some]
        cases hd1 : dayB (day + 1) with
        | false => exact no
        | true =>
          show qDialRound.j0 5000 day false ep cs y m d = some true
          unfold qDialRound.j0
          dsimp only
          rw [if_neg (by decide), rReal_f hc _ y m d (by omega), Option.bind_some]
          have j1 := round_j1 hc 4999 day (by omega) hd hd1
          cases hr : dateB cs y m d with
          | false => exact j1
          | true =>
            unfold dial_Day.f
            rw [if_pos rfl, Option.bind_some, hc, hr]
            simp only [Bool.and_self, if_true]
            rw [rNumber_f, Option.bind_some]
            cases hn : dayB (dayOf ep cs y m d) with
            | false => exact j1
            | true =>
              unfold dial_Date.f
              rw [if_pos rfl, Option.bind_some, hc, hn, dateOf_of hr]
              show (if (0 : Int) = 0 then (if (!(y == y) || (!(m == m) || !(d == d))) = true then _ else _) else _) = _
              rw [if_pos rfl, beq_self_eq_true, beq_self_eq_true, beq_self_eq_true]
              exact j1
  · rw [if_neg (by simpa using h5)]
    exact no
end Go.Proofs.YtnllidgonghckaaGreatDoor.X
namespace Go.Proofs.YtnllidgonghckaaGreatDoor.X
open Go.RowKit Go.Proofs.YtnllidgonghckaaGreatDoorW.PrintWords Go.Proofs.YtnllidgonghckaaGreatDoorW.PrintLast Go.Proofs.YtnllidgonghckaaGreatDoorW.PrintMore
attribute [local go_sem] max2_int min2_int max_two min_two max_three min_three max_four min_four
set_option linter.unusedVariables false
set_option linter.unusedSimpArgs false
attribute [local go_sem high] eqA38
set_option maxHeartbeats 8000000 in
set_option maxRecDepth 100000 in
theorem qDialRound.calls (k : Nat) (a0_0 : Int) (A0_1 : Option Addr) (c0_1 : Nat) (l0_1 : List Int) (a1 : Int) (a2_0 : Int) (a2_1 : Int) (a2_2 : Int) (r : Bool) (w : World) (hT : Tab w) (hr0_1 : Kd.C (Kd.int .i64) w A0_1 l0_1.length l0_1) (hc0_1 : l0_1.length ≤ c0_1) (h : qDialRound.f k a0_0 l0_1 a1 a2_0 a2_1 a2_2 = some r) :
    Calls Tryz.prog 8 #[.agg #[.int .i64 a0_0, .slice A0_1 l0_1.length c0_1], .int .i64 a1, .agg #[.int .i64 a2_0, .int .i64 a2_1, .int .i64 a2_2]] w fun e w' => e = .returned (.bool r) ∧ Below w.heap.size w w' := by
  have HT := Aside0.mk hT
  clear hT
  have hu24 := Tryz.underlying24
  have hu38 := Tryz.underlying38
  have HR0_1 := Aside0.mk hr0_1
  have HC0_1 := Aside0.mk hc0_1
  clear hr0_1 hc0_1
  have HB := Aside0.mk (Below.refl w.heap.size w)
  have H : ((qshort.f a0_0 l0_1).bind fun t376 => (if t376 = true then ((qCalendar.f k a0_0 l0_1).bind fun t377 => (if t377 = true then ((qNumber.f a1).bind fun t378 => (if t378 = true then ((qNumber.f (wrap64 (a1 + 1))).bind fun t379 => (qDialRound.j0 k a1 (!t379) a0_0 l0_1 a2_0 a2_1 a2_2)) else (qDialRound.j0 k a1 true a0_0 l0_1 a2_0 a2_1 a2_2))) else (qDialRound.j0 k a1 true a0_0 l0_1 a2_0 a2_1 a2_2))) else (qDialRound.j0 k a1 true a0_0 l0_1 a2_0 a2_1 a2_2))) = some r := h
  clear h
  have HC4 := Aside0.mk H
  clear H
  go_enter Tryz.func8, Tryz.ntmps8
  go_upto_region 1 with (first | ((with_reducible refine zG 3 rfl ?_); refine zBox 3 #[.int .i64 a0_0, .slice A0_1 l0_1.length c0_1] 24 ?_; intro gb374 hg w5 hbox hb; have BK374 := Aside0.mk (hbox); have GW374 := Aside0.mk ((by rw [hg]; exact (below_size zq) : w.heap.size ≤ gb374)); have GE374 := Aside0.mk ((by rw [hg]; exact (below_size zq) : w.heap.size ≤ gb374)); replace HB := Aside0.mk (below_step zq hb); clear hb hbox hg) | ((with_reducible refine zG 5 rfl ?_); refine zBox 5 #[.int .i64 a2_0, .int .i64 a2_1, .int .i64 a2_2] 38 ?_; intro gb375 hg w6 hbox hb; have BK375 := Aside0.mk (hbox); have GW375 := Aside0.mk ((by rw [hg]; exact (below_size zqs) : w.heap.size ≤ gb375)); have GE375 := Aside0.mk ((by rw [hg]; exact (below_size zqs) : w.heap.size ≤ gb375)); replace HB := Aside0.mk (below_step zqs hb); have NB374_375 := znU hg BK374; have NB375_374 := znV hg BK374; replace BK374 := zbN BK374 hb; clear hb hbox hg))
  (try simp only [Act.put, List.setIfInBounds_toArray, List.set_cons_zero, List.set_cons_succ])
  go_cut [36] (fun v36 wc => ∃ (kq : Nat) (x36_3 : Bool), v36 = .bool x36_3 ∧ Aside0 (qDialRound.j0 kq a1 x36_3 a0_0 l0_1 a2_0 a2_1 a2_2 = some r) ∧ Aside0 (kq ≤ k) ∧ Aside0 (wc.heap[gb374]? = some (.cells #[.int .i64 a0_0, (.slice A0_1 l0_1.length c0_1)] 24 (0, 0))) ∧ Aside0 (wc.heap[gb375]? = some (.cells #[.int .i64 a2_0, .int .i64 a2_1, .int .i64 a2_2] 38 (0, 0))) ∧ Aside0 (Below w.heap.size w wc))
  case first =>
    have H := HC4.out
    clear HC4
    replace H := Option.bind_eq_some_iff.mp H
    obtain ⟨t376, A70, H⟩ := H
    replace H : (if t376 = true then ((qCalendar.f k a0_0 l0_1).bind fun t377 => (if t377 = true then ((qNumber.f a1).bind fun t378 => (if t378 = true then ((qNumber.f (wrap64 (a1 + 1))).bind fun t379 => (qDialRound.j0 k a1 (!t379) a0_0 l0_1 a2_0 a2_1 a2_2)) else (qDialRound.j0 k a1 true a0_0 l0_1 a2_0 a2_1 a2_2))) else (qDialRound.j0 k a1 true a0_0 l0_1 a2_0 a2_1 a2_2))) else (qDialRound.j0 k a1 true a0_0 l0_1 a2_0 a2_1 a2_2)) = some r := H
    have A7 := Aside0.mk A70
    clear A70
    by_cases c8 : t376 = true
    · subst c8
      have H1 : ((qCalendar.f k a0_0 l0_1).bind fun t377 => (if t377 = true then ((qNumber.f a1).bind fun t378 => (if t378 = true then ((qNumber.f (wrap64 (a1 + 1))).bind fun t379 => (qDialRound.j0 k a1 (!t379) a0_0 l0_1 a2_0 a2_1 a2_2)) else (qDialRound.j0 k a1 true a0_0 l0_1 a2_0 a2_1 a2_2))) else (qDialRound.j0 k a1 true a0_0 l0_1 a2_0 a2_1 a2_2))) = some r := by rw [if_pos rfl] at H; exact H
      clear H
      have H := H1
      clear H1
      replace H := Option.bind_eq_some_iff.mp H
      obtain ⟨t377, A90, H⟩ := H
      replace H : (if t377 = true then ((qNumber.f a1).bind fun t378 => (if t378 = true then ((qNumber.f (wrap64 (a1 + 1))).bind fun t379 => (qDialRound.j0 k a1 (!t379) a0_0 l0_1 a2_0 a2_1 a2_2)) else (qDialRound.j0 k a1 true a0_0 l0_1 a2_0 a2_1 a2_2))) else (qDialRound.j0 k a1 true a0_0 l0_1 a2_0 a2_1 a2_2)) = some r := H
      have A9 := Aside0.mk A90
      clear A90
      by_cases c10 : t377 = true
      · subst c10
        have H1 : ((qNumber.f a1).bind fun t378 => (if t378 = true then ((qNumber.f (wrap64 (a1 + 1))).bind fun t379 => (qDialRound.j0 k a1 (!t379) a0_0 l0_1 a2_0 a2_1 a2_2)) else (qDialRound.j0 k a1 true a0_0 l0_1 a2_0 a2_1 a2_2))) = some r := by rw [if_pos rfl] at H; exact H
        clear H
        have H := H1
        clear H1
        replace H := Option.bind_eq_some_iff.mp H
        obtain ⟨t378, A110, H⟩ := H
        replace H : (if t378 = true then ((qNumber.f (wrap64 (a1 + 1))).bind fun t379 => (qDialRound.j0 k a1 (!t379) a0_0 l0_1 a2_0 a2_1 a2_2)) else (qDialRound.j0 k a1 true a0_0 l0_1 a2_0 a2_1 a2_2)) = some r := H
        have A11 := Aside0.mk A110
        clear A110
        by_cases c12 : t378 = true
        · subst c12
          have H1 : ((qNumber.f (wrap64 (a1 + 1))).bind fun t379 => (qDialRound.j0 k a1 (!t379) a0_0 l0_1 a2_0 a2_1 a2_2)) = some r := by rw [if_pos rfl] at H; exact H
          clear H
          have H := H1
          clear H1
          replace H := Option.bind_eq_some_iff.mp H
          obtain ⟨t379, A130, H⟩ := H
          replace H : (qDialRound.j0 k a1 (!t379) a0_0 l0_1 a2_0 a2_1 a2_2) = some r := H
          have A13 := Aside0.mk A130
          clear A130
          have H' := Aside0.mk H
          clear H
          have hnb14 := NB374_375.out
          have hnc14 := NB375_374.out
          have hcz15_0 := zC BK374
          have hfz15_0 := zF BK374
          go_wp2_with (first | ((with_reducible refine gate_callee (f := 10) rfl ?_); refine zGl (some 19) Tryz.func10 #[.agg #[.int .i64 a0_0, .slice A0_1 l0_1.length c0_1]] ?_; (with_reducible refine (qshort.calls a0_0 _ _ l0_1 true _ ?side1 ?side2 A7.out).mono ?_); (case side1 => repeat (first | exact (Kd.C_below HR0_1.out HB.out) | (with_reducible refine Kd.C_alloc ?_ _) | (with_reducible refine Kd.C_drewN ?_ _) | (with_reducible refine Kd.C_drew ?_))); (case side2 => exact HC0_1.out); rintro e w16 ⟨rfl, hb⟩; refine ⟨_, rfl, ?_⟩; replace BK374 := zbN BK374 hb; replace BK375 := zbN BK375 hb; replace HB := Aside0.mk (below_step zqs hb); (try clear hb); (try clear hb2); (try clear hk); (try clear hi); have hcz17_0 := zC BK374; have hfz17_0 := zF BK374) | (go_at_call 14; (with_reducible refine (qCalendar.calls k a0_0 _ _ l0_1 true _ ?side1 ?side2 A9.out).mono ?_); (case side1 => repeat (first | exact (Kd.C_below HR0_1.out HB.out) | (with_reducible refine Kd.C_alloc ?_ _) | (with_reducible refine Kd.C_drewN ?_ _) | (with_reducible refine Kd.C_drew ?_))); (case side2 => exact HC0_1.out); rintro e w18 ⟨rfl, hb⟩; replace BK374 := zbN BK374 hb; replace BK375 := zbN BK375 hb; replace HB := Aside0.mk (below_step zqs hb); (try clear hb); (try clear hb2); (try clear hk); (try clear hi)) | (go_at_call 24; (with_reducible refine (qNumber.calls a1 true _ A11.out).mono ?_); rintro e w' ⟨rfl, ⟨nd, rfl⟩⟩) | (go_at_call 24; (with_reducible refine (qNumber.calls (wrap64 (a1 + 1)) t379 _ A13.out).mono ?_); rintro e w' ⟨rfl, ⟨nd, rfl⟩⟩))
          go_meet
          case rel => exact ⟨_, (!t379), zz, H', ⟨by first | omega | exact Nat.le_refl _⟩, ⟨zh BK374⟩, ⟨zh BK375⟩, ⟨zqs⟩⟩
        · replace c12 := Bool.eq_false_iff.mpr c12
          subst c12
          have H1 : (qDialRound.j0 k a1 true a0_0 l0_1 a2_0 a2_1 a2_2) = some r := by rw [if_neg (show ¬ (false = true) by decide)] at H; exact H
          clear H
          have H := H1
          clear H1
          have H' := Aside0.mk H
          clear H
          have hnb19 := NB374_375.out
          have hnc19 := NB375_374.out
          have hcz20_0 := zC BK374
          have hfz20_0 := zF BK374
          go_wp2_with (first | ((with_reducible refine gate_callee (f := 10) rfl ?_); refine zGl (some 19) Tryz.func10 #[.agg #[.int .i64 a0_0, .slice A0_1 l0_1.length c0_1]] ?_; (with_reducible refine (qshort.calls a0_0 _ _ l0_1 true _ ?side1 ?side2 A7.out).mono ?_); (case side1 => repeat (first | exact (Kd.C_below HR0_1.out HB.out) | (with_reducible refine Kd.C_alloc ?_ _) | (with_reducible refine Kd.C_drewN ?_ _) | (with_reducible refine Kd.C_drew ?_))); (case side2 => exact HC0_1.out); rintro e w21 ⟨rfl, hb⟩; refine ⟨_, rfl, ?_⟩; replace BK374 := zbN BK374 hb; replace BK375 := zbN BK375 hb; replace HB := Aside0.mk (below_step zqs hb); (try clear hb); (try clear hb2); (try clear hk); (try clear hi); have hcz22_0 := zC BK374; have hfz22_0 := zF BK374) | (go_at_call 14; (with_reducible refine (qCalendar.calls k a0_0 _ _ l0_1 true _ ?side1 ?side2 A9.out).mono ?_); (case side1 => repeat (first | exact (Kd.C_below HR0_1.out HB.out) | (with_reducible refine Kd.C_alloc ?_ _) | (with_reducible refine Kd.C_drewN ?_ _) | (with_reducible refine Kd.C_drew ?_))); (case side2 => exact HC0_1.out); rintro e w23 ⟨rfl, hb⟩; replace BK374 := zbN BK374 hb; replace BK375 := zbN BK375 hb; replace HB := Aside0.mk (below_step zqs hb); (try clear hb); (try clear hb2); (try clear hk); (try clear hi)) | (go_at_call 24; (with_reducible refine (qNumber.calls a1 false _ A11.out).mono ?_); rintro e w' ⟨rfl, ⟨nd, rfl⟩⟩))
          go_meet
          case rel => exact ⟨_, (true), zz, H', ⟨by first | omega | exact Nat.le_refl _⟩, ⟨zh BK374⟩, ⟨zh BK375⟩, ⟨zqs⟩⟩
      · replace c10 := Bool.eq_false_iff.mpr c10
        subst c10
        have H1 : (qDialRound.j0 k a1 true a0_0 l0_1 a2_0 a2_1 a2_2) = some r := by rw [if_neg (show ¬ (false = true) by decide)] at H; exact H
        clear H
        have H := H1
        clear H1
        have H' := Aside0.mk H
        clear H
        have hnb24 := NB374_375.out
        have hnc24 := NB375_374.out
        have hcz25_0 := zC BK374
        have hfz25_0 := zF BK374
        go_wp2_with (first | ((with_reducible refine gate_callee (f := 10) rfl ?_); refine zGl (some 19) Tryz.func10 #[.agg #[.int .i64 a0_0, .slice A0_1 l0_1.length c0_1]] ?_; (with_reducible refine (qshort.calls a0_0 _ _ l0_1 true _ ?side1 ?side2 A7.out).mono ?_); (case side1 => repeat (first | exact (Kd.C_below HR0_1.out HB.out) | (with_reducible refine Kd.C_alloc ?_ _) | (with_reducible refine Kd.C_drewN ?_ _) | (with_reducible refine Kd.C_drew ?_))); (case side2 => exact HC0_1.out); rintro e w26 ⟨rfl, hb⟩; refine ⟨_, rfl, ?_⟩; replace BK374 := zbN BK374 hb; replace BK375 := zbN BK375 hb; replace HB := Aside0.mk (below_step zqs hb); (try clear hb); (try clear hb2); (try clear hk); (try clear hi); have hcz27_0 := zC BK374; have hfz27_0 := zF BK374) | (go_at_call 14; (with_reducible refine (qCalendar.calls k a0_0 _ _ l0_1 false _ ?side1 ?side2 A9.out).mono ?_); (case side1 => repeat (first | exact (Kd.C_below HR0_1.out HB.out) | (with_reducible refine Kd.C_alloc ?_ _) | (with_reducible refine Kd.C_drewN ?_ _) | (with_reducible refine Kd.C_drew ?_))); (case side2 => exact HC0_1.out); rintro e w28 ⟨rfl, hb⟩; replace BK374 := zbN BK374 hb; replace BK375 := zbN BK375 hb; replace HB := Aside0.mk (below_step zqs hb); (try clear hb); (try clear hb2); (try clear hk); (try clear hi)))
        go_meet
        case rel => exact ⟨_, (true), zz, H', ⟨by first | omega | exact Nat.le_refl _⟩, ⟨zh BK374⟩, ⟨zh BK375⟩, ⟨zqs⟩⟩
    · replace c8 := Bool.eq_false_iff.mpr c8
      subst c8
      have H1 : (qDialRound.j0 k a1 true a0_0 l0_1 a2_0 a2_1 a2_2) = some r := by rw [if_neg (show ¬ (false = true) by decide)] at H; exact H
      clear H
      have H := H1
      clear H1
      have H' := Aside0.mk H
      clear H
      have hnb29 := NB374_375.out
      have hnc29 := NB375_374.out
      have hcz30_0 := zC BK374
      have hfz30_0 := zF BK374
      go_wp2_with (first | ((with_reducible refine gate_callee (f := 10) rfl ?_); refine zGl (some 19) Tryz.func10 #[.agg #[.int .i64 a0_0, .slice A0_1 l0_1.length c0_1]] ?_; (with_reducible refine (qshort.calls a0_0 _ _ l0_1 false _ ?side1 ?side2 A7.out).mono ?_); (case side1 => repeat (first | exact (Kd.C_below HR0_1.out HB.out) | (with_reducible refine Kd.C_alloc ?_ _) | (with_reducible refine Kd.C_drewN ?_ _) | (with_reducible refine Kd.C_drew ?_))); (case side2 => exact HC0_1.out); rintro e w31 ⟨rfl, hb⟩; refine ⟨_, rfl, ?_⟩; replace BK374 := zbN BK374 hb; replace BK375 := zbN BK375 hb; replace HB := Aside0.mk (below_step zqs hb); (try clear hb); (try clear hb2); (try clear hk); (try clear hi)))
      go_meet
      case rel => exact ⟨_, (true), zz, H', ⟨by first | omega | exact Nat.le_refl _⟩, ⟨zh BK374⟩, ⟨zh BK375⟩, ⟨zqs⟩⟩
  case rest =>
    clear HC4
    try clear c1
    try clear c2
    try clear p2
    try clear p6
    try clear c8
    try clear c10
    try clear c12
    try clear c14
    try clear c19
    try clear c24
    try clear c29
    try clear hcz15_0
    try clear hcz17_0
    try clear hcz20_0
    try clear hcz22_0
    try clear hcz25_0
    try clear hcz27_0
    try clear hcz30_0
    try clear hfz15_0
    try clear hfz17_0
    try clear hfz20_0
    try clear hfz22_0
    try clear hfz25_0
    try clear hfz27_0
    try clear hfz30_0
    obtain ⟨kq, x36_3, rfl, HA, HJ3, BK374, BK375, HB⟩ := hcut
    cases kq with
    | zero => exact absurd HA.out (by simp [qDialRound.j0])
    | succ kj3 =>
      have H := HA.out
      clear HA
      simp only [qDialRound.j0] at H
      by_cases c32 : x36_3 = true
      · subst c32
        have H1 : ((tellurionlaw06_known.f).bind fun t380 => (some t380)) = some r := by rw [if_pos rfl] at H; exact H
        clear H
        have H := H1
        clear H1
        replace H := Option.bind_eq_some_iff.mp H
        obtain ⟨t380, A330, H⟩ := H
        replace H : (some t380) = some r := H
        have A33 := Aside0.mk A330
        clear A330
        obtain rfl := Option.some.inj H
        go_wp2_with (first | ((with_reducible refine gate_callee (f := 11) rfl ?_); refine zGl (some 37) Tryz.func11 #[] ?_; (with_reducible refine (tellurionlaw06_known.calls  t380 _ A33.out (Tab.below HT.out zqs)).mono ?_); rintro e w34 ⟨rfl, hb⟩; refine ⟨_, rfl, ?_⟩; replace BK374 := zbN BK374 hb; replace BK375 := zbN BK375 hb; replace HB := Aside0.mk (below_step zqs hb); (try clear hb); (try clear hb2); (try clear hk); (try clear hi)))
        go_ret
        exact ⟨zE, zqs⟩
      · replace c32 := Bool.eq_false_iff.mpr c32
        subst c32
        have H1 : ((qReal.f kj3 a0_0 l0_1 a2_0 a2_1 a2_2).bind fun t381 => (if t381 = true then ((dial_Day.f a0_0 l0_1 a2_0 a2_1 a2_2).bind fun bt382 => (if bt382.2 = 0 then ((qNumber.f bt382.1).bind fun t384 => (if t384 = true then ((dial_Date.f a0_0 l0_1 bt382.1).bind fun bt385 => (if bt385.2.2.2 = 0 then (if (!(bt385.1 == a2_0) || (!(bt385.2.1 == a2_1) || (!(bt385.2.2.1 == a2_2)))) = true then (none) else (qDialRound.j1 kj3 a1 a0_0 l0_1)) else (none))) else (qDialRound.j1 kj3 a1 a0_0 l0_1))) else (none))) else (qDialRound.j1 kj3 a1 a0_0 l0_1))) = some r := by rw [if_neg (show ¬ (false = true) by decide)] at H; exact H
        clear H
        have H := H1
        clear H1
        replace H := Option.bind_eq_some_iff.mp H
        obtain ⟨t381, A350, H⟩ := H
        replace H : (if t381 = true then ((dial_Day.f a0_0 l0_1 a2_0 a2_1 a2_2).bind fun bt382 => (if bt382.2 = 0 then ((qNumber.f bt382.1).bind fun t384 => (if t384 = true then ((dial_Date.f a0_0 l0_1 bt382.1).bind fun bt385 => (if bt385.2.2.2 = 0 then (if (!(bt385.1 == a2_0) || (!(bt385.2.1 == a2_1) || (!(bt385.2.2.1 == a2_2)))) = true then (none) else (qDialRound.j1 kj3 a1 a0_0 l0_1)) else (none))) else (qDialRound.j1 kj3 a1 a0_0 l0_1))) else (none))) else (qDialRound.j1 kj3 a1 a0_0 l0_1)) = some r := H
        have A35 := Aside0.mk A350
        clear A350
        have HC36 := Aside0.mk H
        clear H
        have hnb37 := NB374_375.out
        have hnc37 := NB375_374.out
        have hcz38_0 := zC BK374
        have hfz38_0 := zF BK374
        have hcz39_0 := zC BK375
        have hfz39_0 := zF BK375
        go_upto_if 40 with (first | ((with_reducible refine gate_callee (f := 18) rfl ?_); refine zGl (some 40) Tryz.func18 #[.agg #[.int .i64 a0_0, .slice A0_1 l0_1.length c0_1], .agg #[.int .i64 a2_0, .int .i64 a2_1, .int .i64 a2_2]] ?_; (with_reducible refine (qReal.calls kj3 a0_0 _ _ l0_1 a2_0 a2_1 a2_2 t381 _ ?side1 ?side2 A35.out).mono ?_); (case side1 => repeat (first | exact (Kd.C_below HR0_1.out HB.out) | (with_reducible refine Kd.C_alloc ?_ _) | (with_reducible refine Kd.C_drewN ?_ _) | (with_reducible refine Kd.C_drew ?_))); (case side2 => exact HC0_1.out); rintro e w40 ⟨rfl, hb⟩; refine ⟨_, rfl, ?_⟩; replace BK374 := zbN BK374 hb; replace BK375 := zbN BK375 hb; replace HB := Aside0.mk (below_step zqs hb); (try clear hb); (try clear hb2); (try clear hk); (try clear hi)))
        (try simp only [Act.put, List.setIfInBounds_toArray, List.set_cons_zero, List.set_cons_succ])
        go_cut [] (fun wc => ∃ (kq : Nat), Aside0 (qDialRound.j1 kq a1 a0_0 l0_1 = some r) ∧ Aside0 (kq ≤ kj3) ∧ Aside0 (wc.heap[gb374]? = some (.cells #[.int .i64 a0_0, (.slice A0_1 l0_1.length c0_1)] 24 (0, 0))) ∧ Aside0 (wc.heap[gb375]? = some (.cells #[.int .i64 a2_0, .int .i64 a2_1, .int .i64 a2_2] 38 (0, 0))) ∧ Aside0 (Below w.heap.size w wc))
        case first =>
          have H := HC36.out
          clear HC36
          by_cases c41 : t381 = true
          · subst c41
            have H1 : ((dial_Day.f a0_0 l0_1 a2_0 a2_1 a2_2).bind fun bt382 => (if bt382.2 = 0 then ((qNumber.f bt382.1).bind fun t384 => (if t384 = true then ((dial_Date.f a0_0 l0_1 bt382.1).bind fun bt385 => (if bt385.2.2.2 = 0 then (if (!(bt385.1 == a2_0) || (!(bt385.2.1 == a2_1) || (!(bt385.2.2.1 == a2_2)))) = true then (none) else (qDialRound.j1 kj3 a1 a0_0 l0_1)) else (none))) else (qDialRound.j1 kj3 a1 a0_0 l0_1))) else (none))) = some r := by rw [if_pos rfl] at H; exact H
            clear H
            have H := H1
            clear H1
            replace H := Option.bind_eq_some_iff.mp H
            obtain ⟨⟨t382, t383⟩, A420, H⟩ := H
            replace H : (if t383 = 0 then ((qNumber.f t382).bind fun t384 => (if t384 = true then ((dial_Date.f a0_0 l0_1 t382).bind fun bt385 => (if bt385.2.2.2 = 0 then (if (!(bt385.1 == a2_0) || (!(bt385.2.1 == a2_1) || (!(bt385.2.2.1 == a2_2)))) = true then (none) else (qDialRound.j1 kj3 a1 a0_0 l0_1)) else (none))) else (qDialRound.j1 kj3 a1 a0_0 l0_1))) else (none)) = some r := H
            have A42 := Aside0.mk A420
            clear A420
            by_cases c43 : t383 = 0
            · rw [if_pos c43] at H
              have c43b0 : (t383 == 0) = true := beq_iff_eq.mpr c43
              have c43b1 : (t383 != 0) = false := bne_eq_false_iff_eq.mpr c43
              clear c43
              (first | rw [c43b0] | (simp only [i64_w]; rw [c43b0]) | skip)
              replace H := Option.bind_eq_some_iff.mp H
              obtain ⟨t384, A440, H⟩ := H
              replace H : (if t384 = true then ((dial_Date.f a0_0 l0_1 t382).bind fun bt385 => (if bt385.2.2.2 = 0 then (if (!(bt385.1 == a2_0) || (!(bt385.2.1 == a2_1) || (!(bt385.2.2.1 == a2_2)))) = true then (none) else (qDialRound.j1 kj3 a1 a0_0 l0_1)) else (none))) else (qDialRound.j1 kj3 a1 a0_0 l0_1)) = some r := H
              have A44 := Aside0.mk A440
              clear A440
              by_cases c45 : t384 = true
              · subst c45
                have H1 : ((dial_Date.f a0_0 l0_1 t382).bind fun bt385 => (if bt385.2.2.2 = 0 then (if (!(bt385.1 == a2_0) || (!(bt385.2.1 == a2_1) || (!(bt385.2.2.1 == a2_2)))) = true then (none) else (qDialRound.j1 kj3 a1 a0_0 l0_1)) else (none))) = some r := by rw [if_pos rfl] at H; exact H
                clear H
                have H := H1
                clear H1
                replace H := Option.bind_eq_some_iff.mp H
                obtain ⟨⟨t385, t386, t387, t388⟩, A460, H⟩ := H
                replace H : (if t388 = 0 then (if (!(t385 == a2_0) || (!(t386 == a2_1) || (!(t387 == a2_2)))) = true then (none) else (qDialRound.j1 kj3 a1 a0_0 l0_1)) else (none)) = some r := H
                have A46 := Aside0.mk A460
                clear A460
                by_cases c47 : t388 = 0
                · rw [if_pos c47] at H
                  have c47b0 : (t388 == 0) = true := beq_iff_eq.mpr c47
                  have c47b1 : (t388 != 0) = false := bne_eq_false_iff_eq.mpr c47
                  clear c47
                  by_cases c48 : (!(t385 == a2_0) || (!(t386 == a2_1) || (!(t387 == a2_2)))) = true
                  · rw [if_pos c48] at H
                    exact absurd H (by simp)
                  · rw [if_neg c48] at H
                    have c48b0 : (!(t385 == a2_0) || (!(t386 == a2_1) || (!(t387 == a2_2)))) = false := by simpa using c48
                    clear c48
                    have H' := Aside0.mk H
                    clear H
                    have hnb49 := NB374_375.out
                    have hnc49 := NB375_374.out
                    have hcz50_0 := zC BK374
                    have hfz50_0 := zF BK374
                    have hcz51_0 := zC BK375
                    have hfz51_0 := zF BK375
                    go_wp2_with (first | ((with_reducible refine gate_callee (f := 19) rfl ?_); refine zGl (some 44) Tryz.func19 #[.agg #[.int .i64 a0_0, .slice A0_1 l0_1.length c0_1], .agg #[.int .i64 a2_0, .int .i64 a2_1, .int .i64 a2_2]] ?_; (with_reducible refine (dial_Day.calls a0_0 _ _ l0_1 a2_0 a2_1 a2_2 t382 t383 _ ?side1 ?side2 A42.out).mono ?_); (case side1 => repeat (first | exact (Kd.C_below HR0_1.out HB.out) | (with_reducible refine Kd.C_alloc ?_ _) | (with_reducible refine Kd.C_drewN ?_ _) | (with_reducible refine Kd.C_drew ?_))); (case side2 => exact HC0_1.out); rintro e w52 ⟨rfl, hb⟩; refine ⟨_, rfl, ?_⟩; replace BK374 := zbN BK374 hb; replace BK375 := zbN BK375 hb; replace HB := Aside0.mk (below_step zqs hb); (try clear hb); (try clear hb2); (try clear hk); (try clear hi)) | ((with_reducible refine gate_callee (f := 24) rfl ?_); refine zGl (some 50) Tryz.func24 #[.int .i64 t382] ?_; (with_reducible refine (qNumber.calls t382 true _ A44.out).mono ?_); rintro e w' ⟨rfl, ⟨nd, rfl⟩⟩; refine ⟨_, rfl, ?_⟩; (try (rw [drewN_self w52]; generalize hq_ : World.drewN w52 _ = w52; have n0_ : Aside0 (w52.heap[gb374]? = some (.cells #[.int .i64 a0_0, .slice A0_1 l0_1.length c0_1] 24 (0, 0))) := ⟨by rw [← hq_]; exact (zh BK374)⟩; have n1_ : Aside0 (w52.heap[gb375]? = some (.cells #[.int .i64 a2_0, .int .i64 a2_1, .int .i64 a2_2] 38 (0, 0))) := ⟨by rw [← hq_]; exact (zh BK375)⟩; have n2_ : Aside0 (Below w.heap.size w w52) := ⟨by rw [← hq_]; exact zqs⟩; clear BK374 BK375 HB hq_; have BK374 := n0_; have BK375 := n1_; have HB := n2_; clear n0_ n1_ n2_)); have hcz53_0 := zC BK374; have hfz53_0 := zF BK374) | ((with_reducible refine gate_callee (f := 26) rfl ?_); refine zGl (some 54) Tryz.func26 #[.agg #[.int .i64 a0_0, .slice A0_1 l0_1.length c0_1], .int .i64 t382] ?_; (with_reducible refine (dial_Date.calls a0_0 _ _ l0_1 t382 t385 t386 t387 t388 _ ?side1 ?side2 A46.out).mono ?_); (case side1 => repeat (first | exact (Kd.C_below HR0_1.out HB.out) | (with_reducible refine Kd.C_alloc ?_ _) | (with_reducible refine Kd.C_drewN ?_ _) | (with_reducible refine Kd.C_drew ?_))); (case side2 => exact HC0_1.out); rintro e w54 ⟨rfl, hb⟩; refine ⟨_, rfl, ?_⟩; replace BK374 := zbN BK374 hb; replace BK375 := zbN BK375 hb; replace HB := Aside0.mk (below_step zqs hb); (try clear hb); (try clear hb2); (try clear hk); (try clear hi)) | ((with_reducible refine zG 9 rfl ?_); refine zBox 9 #[.int .i64 0, .int .i64 0, .int .i64 0] 38 ?_; intro gb389 hg w55 hbox hb; have BK389 := Aside0.mk (hbox); have GW389 := Aside0.mk ((by rw [hg]; exact (below_size zqs) : w.heap.size ≤ gb389)); have GE389 := Aside0.mk ((by rw [hg]; exact (below_size zqs) : w.heap.size ≤ gb389)); replace HB := Aside0.mk (below_step zqs hb); have NB374_389 := znU hg BK374; have NB389_374 := znV hg BK374; replace BK374 := zbN BK374 hb; have NB375_389 := znU hg BK375; have NB389_375 := znV hg BK375; replace BK375 := zbN BK375 hb; clear hb hbox hg; have hnb56 := NB389_374.out; have hnc56 := NB374_389.out; have hnb57 := NB389_375.out; have hnc57 := NB375_389.out; have hcz58_0 := zC BK389; have hfz58_0 := zF BK389; have hcz59_0 := zC BK375; have hfz59_0 := zF BK375))
                    go_meet
                    case rel => exact ⟨_, H', ⟨by have := HJ3.out; first | omega | exact Nat.le_refl _⟩, ⟨by (with_reducible repeat (first | refine blk_drewN ?_ _ | refine blk_drew ?_ | refine blk_alloc ?_ _)); refine blk_far ?_ NB374_389.out _; (with_reducible repeat (first | refine blk_drewN ?_ _ | refine blk_drew ?_ | refine blk_alloc ?_ _)); refine blk_far ?_ NB374_389.out _; (with_reducible repeat (first | refine blk_drewN ?_ _ | refine blk_drew ?_ | refine blk_alloc ?_ _)); refine blk_far ?_ NB374_389.out _; (with_reducible repeat (first | refine blk_drewN ?_ _ | refine blk_drew ?_ | refine blk_alloc ?_ _)); exact BK374.out⟩, ⟨by (with_reducible repeat (first | refine blk_drewN ?_ _ | refine blk_drew ?_ | refine blk_alloc ?_ _)); refine blk_far ?_ NB375_389.out _; (with_reducible repeat (first | refine blk_drewN ?_ _ | refine blk_drew ?_ | refine blk_alloc ?_ _)); refine blk_far ?_ NB375_389.out _; (with_reducible repeat (first | refine blk_drewN ?_ _ | refine blk_drew ?_ | refine blk_alloc ?_ _)); refine blk_far ?_ NB375_389.out _; (with_reducible repeat (first | refine blk_drewN ?_ _ | refine blk_drew ?_ | refine blk_alloc ?_ _)); exact BK375.out⟩, ⟨zqs⟩⟩
                · rw [if_neg c47] at H
                  exact absurd H (by simp)
              · replace c45 := Bool.eq_false_iff.mpr c45
                subst c45
                have H1 : (qDialRound.j1 kj3 a1 a0_0 l0_1) = some r := by rw [if_neg (show ¬ (false = true) by decide)] at H; exact H
                clear H
                have H := H1
                clear H1
                have H' := Aside0.mk H
                clear H
                have hnb60 := NB374_375.out
                have hnc60 := NB375_374.out
                have hcz61_0 := zC BK374
                have hfz61_0 := zF BK374
                have hcz62_0 := zC BK375
                have hfz62_0 := zF BK375
                go_wp2_with (first | ((with_reducible refine gate_callee (f := 19) rfl ?_); refine zGl (some 44) Tryz.func19 #[.agg #[.int .i64 a0_0, .slice A0_1 l0_1.length c0_1], .agg #[.int .i64 a2_0, .int .i64 a2_1, .int .i64 a2_2]] ?_; (with_reducible refine (dial_Day.calls a0_0 _ _ l0_1 a2_0 a2_1 a2_2 t382 t383 _ ?side1 ?side2 A42.out).mono ?_); (case side1 => repeat (first | exact (Kd.C_below HR0_1.out HB.out) | (with_reducible refine Kd.C_alloc ?_ _) | (with_reducible refine Kd.C_drewN ?_ _) | (with_reducible refine Kd.C_drew ?_))); (case side2 => exact HC0_1.out); rintro e w63 ⟨rfl, hb⟩; refine ⟨_, rfl, ?_⟩; replace BK374 := zbN BK374 hb; replace BK375 := zbN BK375 hb; replace HB := Aside0.mk (below_step zqs hb); (try clear hb); (try clear hb2); (try clear hk); (try clear hi)) | ((with_reducible refine gate_callee (f := 24) rfl ?_); refine zGl (some 50) Tryz.func24 #[.int .i64 t382] ?_; (with_reducible refine (qNumber.calls t382 false _ A44.out).mono ?_); rintro e w' ⟨rfl, ⟨nd, rfl⟩⟩; refine ⟨_, rfl, ?_⟩))
                go_meet
                case rel => exact ⟨_, H', ⟨by have := HJ3.out; first | omega | exact Nat.le_refl _⟩, ⟨zh BK374⟩, ⟨zh BK375⟩, ⟨zqs⟩⟩
            · rw [if_neg c43] at H
              exact absurd H (by simp)
          · replace c41 := Bool.eq_false_iff.mpr c41
            subst c41
            have H1 : (qDialRound.j1 kj3 a1 a0_0 l0_1) = some r := by rw [if_neg (show ¬ (false = true) by decide)] at H; exact H
            clear H
            have H := H1
            clear H1
            have H' := Aside0.mk H
            clear H
            go_wp2
            go_meet
            case rel => exact ⟨_, H', ⟨by have := HJ3.out; first | omega | exact Nat.le_refl _⟩, ⟨zh BK374⟩, ⟨zh BK375⟩, ⟨zqs⟩⟩
        case rest =>
          clear HC36
          try clear c1
          try clear c2
          try clear p2
          try clear c3
          try clear c4
          try clear c5
          try clear c6
          try clear p6
          try clear c8
          try clear c10
          try clear c11
          try clear c12
          try clear c14
          try clear c18
          try clear c19
          try clear c24
          try clear c26
          try clear c29
          try clear c32
          try clear c37
          try clear c41
          try clear c43
          try clear c43b0
          try clear c43b1
          try clear c45
          try clear c47
          try clear c47b0
          try clear c47b1
          try clear c48
          try clear c48b0
          try clear c49
          try clear c56
          try clear c57
          try clear c60
          try clear hcz15_0
          try clear hcz17_0
          try clear hcz20_0
          try clear hcz22_0
          try clear hcz25_0
          try clear hcz27_0
          try clear hcz30_0
          try clear hcz38_0
          try clear hcz39_0
          try clear hcz50_0
          try clear hcz51_0
          try clear hcz53_0
          try clear hcz58_0
          try clear hcz59_0
          try clear hcz61_0
          try clear hcz62_0
          try clear hfz15_0
          try clear hfz17_0
          try clear hfz20_0
          try clear hfz22_0
          try clear hfz25_0
          try clear hfz27_0
          try clear hfz30_0
          try clear hfz38_0
          try clear hfz39_0
          try clear hfz50_0
          try clear hfz51_0
          try clear hfz53_0
          try clear hfz58_0
          try clear hfz59_0
          try clear hfz61_0
          try clear hfz62_0
          try clear p2
          try clear p6
          obtain ⟨kq, HA, HJ35, BK374, BK375, HB⟩ := hcut
          cases kq with
          | zero => exact absurd HA.out (by simp [qDialRound.j1])
          | succ kj35 =>
            have H := HA.out
            clear HA
            simp only [qDialRound.j1] at H
            replace H := Option.bind_eq_some_iff.mp H
            obtain ⟨⟨t390, t391, t392, t393⟩, A640, H⟩ := H
            replace H : ((dial_Date.f a0_0 l0_1 (wrap64 (a1 + 1))).bind fun bt395 => (if t393 = 0 then ((qReal.f kj35 a0_0 l0_1 t390 t391 t392).bind fun t402 => (if t402 = true then ((dial_Day.f a0_0 l0_1 t390 t391 t392).bind fun bt403 => (if bt403.2 = 0 then (qDialRound.j2 kj35 bt395.2.2.2 (bt403.1 != a1) a0_0 l0_1 t390 t391 t392 bt395.1 bt395.2.1 bt395.2.2.1) else (qDialRound.j2 kj35 bt395.2.2.2 true a0_0 l0_1 t390 t391 t392 bt395.1 bt395.2.1 bt395.2.2.1))) else (none))) else (if t393 = 5 then (if bt395.2.2.2 = 5 then ((tellurionlaw06_known.f).bind fun t400 => (some t400)) else (if (wrap64 (a1 + 1)) = a0_0 then (if bt395.2.2.2 = 0 then (if (bt395.1 == 0 && (bt395.2.1 == 1 && (bt395.2.2.1 == 1))) = true then ((tellurionlaw06_known.f).bind fun t401 => (some t401)) else (none)) else (none)) else (none))) else (none)))) = some r := H
            have A64 := Aside0.mk A640
            clear A640
            replace H := Option.bind_eq_some_iff.mp H
            obtain ⟨⟨t395, t396, t397, t398⟩, A650, H⟩ := H
            replace H : (if t393 = 0 then ((qReal.f kj35 a0_0 l0_1 t390 t391 t392).bind fun t402 => (if t402 = true then ((dial_Day.f a0_0 l0_1 t390 t391 t392).bind fun bt403 => (if bt403.2 = 0 then (qDialRound.j2 kj35 t398 (bt403.1 != a1) a0_0 l0_1 t390 t391 t392 t395 t396 t397) else (qDialRound.j2 kj35 t398 true a0_0 l0_1 t390 t391 t392 t395 t396 t397))) else (none))) else (if t393 = 5 then (if t398 = 5 then ((tellurionlaw06_known.f).bind fun t400 => (some t400)) else (if (wrap64 (a1 + 1)) = a0_0 then (if t398 = 0 then (if (t395 == 0 && (t396 == 1 && (t397 == 1))) = true then ((tellurionlaw06_known.f).bind fun t401 => (some t401)) else (none)) else (none)) else (none))) else (none))) = some r := H
            have A65 := Aside0.mk A650
            clear A650
            by_cases c66 : t393 = 0
            · rw [if_pos c66] at H
              have c66b0 : (t393 == 0) = true := beq_iff_eq.mpr c66
              have c66b1 : (t393 != 0) = false := bne_eq_false_iff_eq.mpr c66
              clear c66
              replace H := Option.bind_eq_some_iff.mp H
              obtain ⟨t402, A670, H⟩ := H
              replace H : (if t402 = true then ((dial_Day.f a0_0 l0_1 t390 t391 t392).bind fun bt403 => (if bt403.2 = 0 then (qDialRound.j2 kj35 t398 (bt403.1 != a1) a0_0 l0_1 t390 t391 t392 t395 t396 t397) else (qDialRound.j2 kj35 t398 true a0_0 l0_1 t390 t391 t392 t395 t396 t397))) else (none)) = some r := H
              have A67 := Aside0.mk A670
              clear A670
              by_cases c68 : t402 = true
              · subst c68
                have H1 : ((dial_Day.f a0_0 l0_1 t390 t391 t392).bind fun bt403 => (if bt403.2 = 0 then (qDialRound.j2 kj35 t398 (bt403.1 != a1) a0_0 l0_1 t390 t391 t392 t395 t396 t397) else (qDialRound.j2 kj35 t398 true a0_0 l0_1 t390 t391 t392 t395 t396 t397))) = some r := by rw [if_pos rfl] at H; exact H
                clear H
                have H := H1
                clear H1
                replace H := Option.bind_eq_some_iff.mp H
                obtain ⟨⟨t403, t404⟩, A690, H⟩ := H
                replace H : (if t404 = 0 then (qDialRound.j2 kj35 t398 (t403 != a1) a0_0 l0_1 t390 t391 t392 t395 t396 t397) else (qDialRound.j2 kj35 t398 true a0_0 l0_1 t390 t391 t392 t395 t396 t397)) = some r := H
                have A69 := Aside0.mk A690
                clear A690
                have HC70 := Aside0.mk H
                clear H
                have hnb71 := NB374_375.out
                have hnc71 := NB375_374.out
                have hcz72_0 := zC BK374
                have hfz72_0 := zF BK374
                go_upto_region 18 with (first | ((with_reducible refine gate_callee (f := 26) rfl ?_); refine zGl (some 67) Tryz.func26 #[.agg #[.int .i64 a0_0, .slice A0_1 l0_1.length c0_1], .int .i64 a1] ?_; (with_reducible refine (dial_Date.calls a0_0 _ _ l0_1 a1 t390 t391 t392 t393 _ ?side1 ?side2 A64.out).mono ?_); (case side1 => repeat (first | exact (Kd.C_below HR0_1.out HB.out) | (with_reducible refine Kd.C_alloc ?_ _) | (with_reducible refine Kd.C_drewN ?_ _) | (with_reducible refine Kd.C_drew ?_))); (case side2 => exact HC0_1.out); rintro e w73 ⟨rfl, hb⟩; refine ⟨_, rfl, ?_⟩; replace BK374 := zbN BK374 hb; replace BK375 := zbN BK375 hb; replace HB := Aside0.mk (below_step zqs hb); (try clear hb); (try clear hb2); (try clear hk); (try clear hi)) | ((with_reducible refine zG 11 rfl ?_); refine zBox 11 #[.int .i64 0, .int .i64 0, .int .i64 0] 38 ?_; intro gb394 hg w74 hbox hb; have BK394 := Aside0.mk (hbox); have GW394 := Aside0.mk ((by rw [hg]; exact (below_size zqs) : w.heap.size ≤ gb394)); have GE394 := Aside0.mk ((by rw [hg]; exact (below_size zqs) : w.heap.size ≤ gb394)); replace HB := Aside0.mk (below_step zqs hb); have NB374_394 := znU hg BK374; have NB394_374 := znV hg BK374; replace BK374 := zbN BK374 hb; have NB375_394 := znU hg BK375; have NB394_375 := znV hg BK375; replace BK375 := zbN BK375 hb; clear hb hbox hg; have hnb75 := NB394_374.out; have hnc75 := NB374_394.out; have hnb76 := NB394_375.out; have hnc76 := NB375_394.out; have hcz77_0 := zC BK394; have hfz77_0 := zF BK394; have hcz78_0 := zC BK374; have hfz78_0 := zF BK374) | ((with_reducible refine gate_callee (f := 26) rfl ?_); refine zGl (some 74) Tryz.func26 #[.agg #[.int .i64 a0_0, .slice A0_1 l0_1.length c0_1], .int .i64 (wrap64 (a1 + 1))] ?_; (with_reducible refine (dial_Date.calls a0_0 _ _ l0_1 (wrap64 (a1 + 1)) t395 t396 t397 t398 _ ?side1 ?side2 A65.out).mono ?_); (case side1 => exact Kd.C_below HR0_1.out zqs); (case side2 => exact HC0_1.out); rintro e w79 ⟨rfl, hb⟩; refine ⟨_, rfl, ?_⟩; replace BK374 := Aside0.mk (blk_below (g := gb374) (o := .cells #[.int .i64 a0_0, .slice A0_1 l0_1.length c0_1] 24 (0, 0)) (by (with_reducible repeat (first | refine blk_drewN ?_ _ | refine blk_drew ?_ | refine blk_alloc ?_ _)); refine blk_far ?_ NB374_394.out _; (with_reducible repeat (first | refine blk_drewN ?_ _ | refine blk_drew ?_ | refine blk_alloc ?_ _)); refine blk_far ?_ NB374_394.out _; (with_reducible repeat (first | refine blk_drewN ?_ _ | refine blk_drew ?_ | refine blk_alloc ?_ _)); refine blk_far ?_ NB374_394.out _; (with_reducible repeat (first | refine blk_drewN ?_ _ | refine blk_drew ?_ | refine blk_alloc ?_ _)); exact BK374.out) hb); replace BK375 := Aside0.mk (blk_below (g := gb375) (o := .cells #[.int .i64 a2_0, .int .i64 a2_1, .int .i64 a2_2] 38 (0, 0)) (by (with_reducible repeat (first | refine blk_drewN ?_ _ | refine blk_drew ?_ | refine blk_alloc ?_ _)); refine blk_far ?_ NB375_394.out _; (with_reducible repeat (first | refine blk_drewN ?_ _ | refine blk_drew ?_ | refine blk_alloc ?_ _)); refine blk_far ?_ NB375_394.out _; (with_reducible repeat (first | refine blk_drewN ?_ _ | refine blk_drew ?_ | refine blk_alloc ?_ _)); refine blk_far ?_ NB375_394.out _; (with_reducible repeat (first | refine blk_drewN ?_ _ | refine blk_drew ?_ | refine blk_alloc ?_ _)); exact BK375.out) hb); replace BK394 := Aside0.mk (blk_below (g := gb394) (o := .cells #[.int .i64 t390, .int .i64 t391, .int .i64 t392] 38 (0, 0)) (by (with_reducible repeat (first | refine blk_drewN ?_ _ | refine blk_drew ?_ | refine blk_alloc ?_ _)); refine blk_put (cs := #[.int .i64 t390, .int .i64 t391, .int .i64 0]) ?_ 2 _ rfl; (with_reducible repeat (first | refine blk_drewN ?_ _ | refine blk_drew ?_ | refine blk_alloc ?_ _)); refine blk_put (cs := #[.int .i64 t390, .int .i64 0, .int .i64 0]) ?_ 1 _ rfl; (with_reducible repeat (first | refine blk_drewN ?_ _ | refine blk_drew ?_ | refine blk_alloc ?_ _)); refine blk_put (cs := #[.int .i64 0, .int .i64 0, .int .i64 0]) ?_ 0 _ rfl; (with_reducible repeat (first | refine blk_drewN ?_ _ | refine blk_drew ?_ | refine blk_alloc ?_ _)); exact BK394.out) hb); replace HB := Aside0.mk (below_step zqs hb); (try clear hb); (try clear hb2); (try clear hk); (try clear hi)) | ((with_reducible refine zG 13 rfl ?_); refine zBox 13 #[.int .i64 0, .int .i64 0, .int .i64 0] 38 ?_; intro gb399 hg w80 hbox hb; have BK399 := Aside0.mk (hbox); have GW399 := Aside0.mk ((by rw [hg]; exact (below_size zqs) : w.heap.size ≤ gb399)); have GE399 := Aside0.mk ((by rw [hg]; exact (below_size zqs) : w.heap.size ≤ gb399)); replace HB := Aside0.mk (below_step zqs hb); have NB374_399 := znU hg BK374; have NB399_374 := znV hg BK374; replace BK374 := zbN BK374 hb; have NB375_399 := znU hg BK375; have NB399_375 := znV hg BK375; replace BK375 := zbN BK375 hb; have NB394_399 := znU hg BK394; have NB399_394 := znV hg BK394; replace BK394 := zbN BK394 hb; clear hb hbox hg; have hnb81 := NB399_374.out; have hnc81 := NB374_399.out; have hnb82 := NB399_375.out; have hnc82 := NB375_399.out; have hnb83 := NB399_394.out; have hnc83 := NB394_399.out; have hcz84_0 := zC BK399; have hfz84_0 := zF BK399; have hcz85_0 := zC BK374; have hfz85_0 := zF BK374; have hcz86_0 := zC BK394; have hfz86_0 := zF BK394) | ((with_reducible refine gate_callee (f := 18) rfl ?_); refine zGl (some 106) Tryz.func18 #[.agg #[.int .i64 a0_0, .slice A0_1 l0_1.length c0_1], .agg #[.int .i64 t390, .int .i64 t391, .int .i64 t392]] ?_; (with_reducible refine (qReal.calls kj35 a0_0 _ _ l0_1 t390 t391 t392 true _ ?side1 ?side2 A67.out).mono ?_); (case side1 => exact Kd.C_below HR0_1.out zqs); (case side2 => exact HC0_1.out); rintro e w87 ⟨rfl, hb⟩; refine ⟨_, rfl, ?_⟩; replace BK374 := Aside0.mk (blk_below (g := gb374) (o := .cells #[.int .i64 a0_0, .slice A0_1 l0_1.length c0_1] 24 (0, 0)) (by (with_reducible repeat (first | refine blk_drewN ?_ _ | refine blk_drew ?_ | refine blk_alloc ?_ _)); refine blk_far ?_ NB374_399.out _; (with_reducible repeat (first | refine blk_drewN ?_ _ | refine blk_drew ?_ | refine blk_alloc ?_ _)); refine blk_far ?_ NB374_399.out _; (with_reducible repeat (first | refine blk_drewN ?_ _ | refine blk_drew ?_ | refine blk_alloc ?_ _)); refine blk_far ?_ NB374_399.out _; (with_reducible repeat (first | refine blk_drewN ?_ _ | refine blk_drew ?_ | refine blk_alloc ?_ _)); exact BK374.out) hb); replace BK375 := Aside0.mk (blk_below (g := gb375) (o := .cells #[.int .i64 a2_0, .int .i64 a2_1, .int .i64 a2_2] 38 (0, 0)) (by (with_reducible repeat (first | refine blk_drewN ?_ _ | refine blk_drew ?_ | refine blk_alloc ?_ _)); refine blk_far ?_ NB375_399.out _; (with_reducible repeat (first | refine blk_drewN ?_ _ | refine blk_drew ?_ | refine blk_alloc ?_ _)); refine blk_far ?_ NB375_399.out _; (with_reducible repeat (first | refine blk_drewN ?_ _ | refine blk_drew ?_ | refine blk_alloc ?_ _)); refine blk_far ?_ NB375_399.out _; (with_reducible repeat (first | refine blk_drewN ?_ _ | refine blk_drew ?_ | refine blk_alloc ?_ _)); exact BK375.out) hb); replace BK394 := Aside0.mk (blk_below (g := gb394) (o := .cells #[.int .i64 t390, .int .i64 t391, .int .i64 t392] 38 (0, 0)) (by (with_reducible repeat (first | refine blk_drewN ?_ _ | refine blk_drew ?_ | refine blk_alloc ?_ _)); refine blk_far ?_ NB394_399.out _; (with_reducible repeat (first | refine blk_drewN ?_ _ | refine blk_drew ?_ | refine blk_alloc ?_ _)); refine blk_far ?_ NB394_399.out _; (with_reducible repeat (first | refine blk_drewN ?_ _ | refine blk_drew ?_ | refine blk_alloc ?_ _)); refine blk_far ?_ NB394_399.out _; (with_reducible repeat (first | refine blk_drewN ?_ _ | refine blk_drew ?_ | refine blk_alloc ?_ _)); exact BK394.out) hb); replace BK399 := Aside0.mk (blk_below (g := gb399) (o := .cells #[.int .i64 t395, .int .i64 t396, .int .i64 t397] 38 (0, 0)) (by (with_reducible repeat (first | refine blk_drewN ?_ _ | refine blk_drew ?_ | refine blk_alloc ?_ _)); refine blk_put (cs := #[.int .i64 t395, .int .i64 t396, .int .i64 0]) ?_ 2 _ rfl; (with_reducible repeat (first | refine blk_drewN ?_ _ | refine blk_drew ?_ | refine blk_alloc ?_ _)); refine blk_put (cs := #[.int .i64 t395, .int .i64 0, .int .i64 0]) ?_ 1 _ rfl; (with_reducible repeat (first | refine blk_drewN ?_ _ | refine blk_drew ?_ | refine blk_alloc ?_ _)); refine blk_put (cs := #[.int .i64 0, .int .i64 0, .int .i64 0]) ?_ 0 _ rfl; (with_reducible repeat (first | refine blk_drewN ?_ _ | refine blk_drew ?_ | refine blk_alloc ?_ _)); exact BK399.out) hb); replace HB := Aside0.mk (below_step zqs hb); (try clear hb); (try clear hb2); (try clear hk); (try clear hi); have hcz88_0 := zC BK374; have hfz88_0 := zF BK374; have hcz89_0 := zC BK394; have hfz89_0 := zF BK394) | ((with_reducible refine gate_callee (f := 19) rfl ?_); refine zGl (some 111) Tryz.func19 #[.agg #[.int .i64 a0_0, .slice A0_1 l0_1.length c0_1], .agg #[.int .i64 t390, .int .i64 t391, .int .i64 t392]] ?_; (with_reducible refine (dial_Day.calls a0_0 _ _ l0_1 t390 t391 t392 t403 t404 _ ?side1 ?side2 A69.out).mono ?_); (case side1 => repeat (first | exact (Kd.C_below HR0_1.out HB.out) | (with_reducible refine Kd.C_alloc ?_ _) | (with_reducible refine Kd.C_drewN ?_ _) | (with_reducible refine Kd.C_drew ?_))); (case side2 => exact HC0_1.out); rintro e w90 ⟨rfl, hb⟩; refine ⟨_, rfl, ?_⟩; replace BK374 := zbN BK374 hb; replace BK375 := zbN BK375 hb; replace BK394 := zbN BK394 hb; replace BK399 := zbN BK399 hb; replace HB := Aside0.mk (below_step zqs hb); (try clear hb); (try clear hb2); (try clear hk); (try clear hi)))
                (try simp only [Act.put, List.setIfInBounds_toArray, List.set_cons_zero, List.set_cons_succ])
                go_cut [120] (fun v120 wc => ∃ (kq : Nat) (x120_69 : Bool), v120 = .bool x120_69 ∧ Aside0 (qDialRound.j2 kq t398 x120_69 a0_0 l0_1 t390 t391 t392 t395 t396 t397 = some r) ∧ Aside0 (kq ≤ kj35) ∧ Aside0 (wc.heap[gb374]? = some (.cells #[.int .i64 a0_0, (.slice A0_1 l0_1.length c0_1)] 24 (0, 0))) ∧ Aside0 (wc.heap[gb375]? = some (.cells #[.int .i64 a2_0, .int .i64 a2_1, .int .i64 a2_2] 38 (0, 0))) ∧ Aside0 (wc.heap[gb394]? = some (.cells #[.int .i64 t390, .int .i64 t391, .int .i64 t392] 38 (0, 0))) ∧ Aside0 (wc.heap[gb399]? = some (.cells #[.int .i64 t395, .int .i64 t396, .int .i64 t397] 38 (0, 0))) ∧ Aside0 (Below w.heap.size w wc))
                case first =>
                  have H := HC70.out
                  clear HC70
                  by_cases c91 : t404 = 0
                  · rw [if_pos c91] at H
                    have c91b0 : (t404 == 0) = true := beq_iff_eq.mpr c91
                    have c91b1 : (t404 != 0) = false := bne_eq_false_iff_eq.mpr c91
                    clear c91
                    (first | rw [c91b0] | (simp only [i64_w]; rw [c91b0]) | skip)
                    have H' := Aside0.mk H
                    clear H
                    go_wp2
                    go_meet
                    case rel => exact ⟨_, ((t403 != a1)), zz, H', ⟨by have := HJ3.out; have := HJ35.out; first | omega | exact Nat.le_refl _⟩, ⟨zh BK374⟩, ⟨zh BK375⟩, ⟨zh BK394⟩, ⟨zh BK399⟩, ⟨zqs⟩⟩
                  · rw [if_neg c91] at H
                    have c91b0 : (t404 == 0) = false := beq_eq_false_iff_ne.mpr c91
                    have c91b1 : (t404 != 0) = true := bne_iff_ne.mpr c91
                    (first | rw [c91b0] | (simp only [i64_w]; rw [c91b0]) | skip)
                    have H' := Aside0.mk H
                    clear H
                    go_wp2
                    go_meet
                    case rel => exact ⟨_, (true), zz, H', ⟨by have := HJ3.out; have := HJ35.out; first | omega | exact Nat.le_refl _⟩, ⟨zh BK374⟩, ⟨zh BK375⟩, ⟨zh BK394⟩, ⟨zh BK399⟩, ⟨zqs⟩⟩
                case rest =>
                  clear HC70
                  try clear c1
                  try clear c2
                  try clear p2
                  try clear c3
                  try clear c4
                  try clear c5
                  try clear c6
                  try clear p6
                  try clear c7
                  try clear c8
                  try clear c9
                  try clear c10
                  try clear c11
                  try clear c12
                  try clear c14
                  try clear c18
                  try clear c19
                  try clear c24
                  try clear c26
                  try clear c29
                  try clear c32
                  try clear c37
                  try clear c41
                  try clear c43
                  try clear c43b0
                  try clear c43b1
                  try clear c45
                  try clear c47
                  try clear c47b0
                  try clear c47b1
                  try clear c48
                  try clear c48b0
                  try clear c49
                  try clear c56
                  try clear c57
                  try clear c60
                  try clear p64
                  try clear c66
                  try clear c66b0
                  try clear c66b1
                  try clear c68
                  try clear c71
                  try clear c75
                  try clear c76
                  try clear c81
                  try clear c82
                  try clear c83
                  try clear c91
                  try clear c91b0
                  try clear c91b1
                  try clear hcz15_0
                  try clear hcz17_0
                  try clear hcz20_0
                  try clear hcz22_0
                  try clear hcz25_0
                  try clear hcz27_0
                  try clear hcz30_0
                  try clear hcz38_0
                  try clear hcz39_0
                  try clear hcz50_0
                  try clear hcz51_0
                  try clear hcz53_0
                  try clear hcz58_0
                  try clear hcz59_0
                  try clear hcz61_0
                  try clear hcz62_0
                  try clear hcz72_0
                  try clear hcz77_0
                  try clear hcz78_0
                  try clear hcz84_0
                  try clear hcz85_0
                  try clear hcz86_0
                  try clear hcz88_0
                  try clear hcz89_0
                  try clear hfz15_0
                  try clear hfz17_0
                  try clear hfz20_0
                  try clear hfz22_0
                  try clear hfz25_0
                  try clear hfz27_0
                  try clear hfz30_0
                  try clear hfz38_0
                  try clear hfz39_0
                  try clear hfz50_0
                  try clear hfz51_0
                  try clear hfz53_0
                  try clear hfz58_0
                  try clear hfz59_0
                  try clear hfz61_0
                  try clear hfz62_0
                  try clear hfz72_0
                  try clear hfz77_0
                  try clear hfz78_0
                  try clear hfz84_0
                  try clear hfz85_0
                  try clear hfz86_0
                  try clear hfz88_0
                  try clear hfz89_0
                  try clear p2
                  try clear p6
                  obtain ⟨kq, x120_69, rfl, HA, HJ69, BK374, BK375, BK394, BK399, HB⟩ := hcut
                  cases kq with
                  | zero => exact absurd HA.out (by simp [qDialRound.j2])
                  | succ kj69 =>
                    have H := HA.out
                    clear HA
                    simp only [qDialRound.j2] at H
                    by_cases c92 : x120_69 = true
                    · subst c92
                      have H1 : (none) = some r := by rw [if_pos rfl] at H; exact H
                      clear H
                      have H := H1
                      clear H1
                      exact absurd H (by simp)
                    · replace c92 := Bool.eq_false_iff.mpr c92
                      subst c92
                      have H1 : ((qNext.f kj69 a0_0 l0_1 t390 t391 t392).bind fun bt405 => ((qYear.f bt405.1).bind fun t409 => (if t409 = true then (if t398 = 0 then (if (t395 == bt405.1 && (t396 == bt405.2.1 && (t397 == bt405.2.2))) = true then ((tellurionlaw06_known.f).bind fun t410 => (some t410)) else (none)) else (none)) else (if t398 = 5 then ((tellurionlaw06_known.f).bind fun t411 => (some t411)) else (none))))) = some r := by rw [if_neg (show ¬ (false = true) by decide)] at H; exact H
                      clear H
                      have H := H1
                      clear H1
                      replace H := Option.bind_eq_some_iff.mp H
                      obtain ⟨⟨t405, t406, t407⟩, A930, H⟩ := H
                      replace H : ((qYear.f t405).bind fun t409 => (if t409 = true then (if t398 = 0 then (if (t395 == t405 && (t396 == t406 && (t397 == t407))) = true then ((tellurionlaw06_known.f).bind fun t410 => (some t410)) else (none)) else (none)) else (if t398 = 5 then ((tellurionlaw06_known.f).bind fun t411 => (some t411)) else (none)))) = some r := H
                      have A93 := Aside0.mk A930
                      clear A930
                      replace H := Option.bind_eq_some_iff.mp H
                      obtain ⟨t409, A940, H⟩ := H
                      replace H : (if t409 = true then (if t398 = 0 then (if (t395 == t405 && (t396 == t406 && (t397 == t407))) = true then ((tellurionlaw06_known.f).bind fun t410 => (some t410)) else (none)) else (none)) else (if t398 = 5 then ((tellurionlaw06_known.f).bind fun t411 => (some t411)) else (none))) = some r := H
                      have A94 := Aside0.mk A940
                      clear A940
                      by_cases c95 : t409 = true
                      · subst c95
                        have H1 : (if t398 = 0 then (if (t395 == t405 && (t396 == t406 && (t397 == t407))) = true then ((tellurionlaw06_known.f).bind fun t410 => (some t410)) else (none)) else (none)) = some r := by rw [if_pos rfl] at H; exact H
                        clear H
                        have H := H1
                        clear H1
                        by_cases c96 : t398 = 0
                        · rw [if_pos c96] at H
                          have c96b0 : (t398 == 0) = true := beq_iff_eq.mpr c96
                          have c96b1 : (t398 != 0) = false := bne_eq_false_iff_eq.mpr c96
                          clear c96
                          by_cases c97 : (t395 == t405 && (t396 == t406 && (t397 == t407))) = true
                          · rw [if_pos c97] at H
                            have c97b0 : (t395 == t405 && (t396 == t406 && (t397 == t407))) = true := c97
                            (try (have c97b1 : decide (t395 = t405 && (t396 == t406 && (t397 == t407))) = true := by simpa using c97))
                            (try (have c97b2 : (t395 == t405 && (t396 == t406 && (t397 == t407))) = true := by simpa using c97))
                            clear c97
                            replace H := Option.bind_eq_some_iff.mp H
                            obtain ⟨t410, A980, H⟩ := H
                            replace H : (some t410) = some r := H
                            have A98 := Aside0.mk A980
                            clear A980
                            obtain rfl := Option.some.inj H
                            have hnb99 := NB374_375.out
                            have hnc99 := NB375_374.out
                            have hnb100 := NB374_394.out
                            have hnc100 := NB394_374.out
                            have hnb101 := NB374_399.out
                            have hnc101 := NB399_374.out
                            have hcz102_0 := zC BK374
                            have hfz102_0 := zF BK374
                            have hnb103 := NB394_375.out
                            have hnc103 := NB375_394.out
                            have hnb104 := NB394_399.out
                            have hnc104 := NB399_394.out
                            have hcz105_0 := zC BK394
                            have hfz105_0 := zF BK394
                            go_wp2_with (first | ((with_reducible refine gate_callee (f := 27) rfl ?_); refine zGl (some 123) Tryz.func27 #[.agg #[.int .i64 a0_0, .slice A0_1 l0_1.length c0_1], .agg #[.int .i64 t390, .int .i64 t391, .int .i64 t392]] ?_; (with_reducible refine (qNext.calls kj69 a0_0 _ _ l0_1 t390 t391 t392 t405 t406 t407 _ ?side1 ?side2 A93.out).mono ?_); (case side1 => repeat (first | exact (Kd.C_below HR0_1.out HB.out) | (with_reducible refine Kd.C_alloc ?_ _) | (with_reducible refine Kd.C_drewN ?_ _) | (with_reducible refine Kd.C_drew ?_))); (case side2 => exact HC0_1.out); rintro e w106 ⟨rfl, hb⟩; refine ⟨_, rfl, ?_⟩; replace BK374 := zbN BK374 hb; replace BK375 := zbN BK375 hb; replace BK394 := zbN BK394 hb; replace BK399 := zbN BK399 hb; replace HB := Aside0.mk (below_step zqs hb); (try clear hb); (try clear hb2); (try clear hk); (try clear hi)) | ((with_reducible refine zG 17 rfl ?_); refine zBox 17 #[.int .i64 0, .int .i64 0, .int .i64 0] 38 ?_; intro gb408 hg w107 hbox hb; have BK408 := Aside0.mk (hbox); have GW408 := Aside0.mk ((by rw [hg]; exact (below_size zqs) : w.heap.size ≤ gb408)); have GE408 := Aside0.mk ((by rw [hg]; exact (below_size zqs) : w.heap.size ≤ gb408)); replace HB := Aside0.mk (below_step zqs hb); have NB374_408 := znU hg BK374; have NB408_374 := znV hg BK374; replace BK374 := zbN BK374 hb; have NB375_408 := znU hg BK375; have NB408_375 := znV hg BK375; replace BK375 := zbN BK375 hb; have NB394_408 := znU hg BK394; have NB408_394 := znV hg BK394; replace BK394 := zbN BK394 hb; have NB399_408 := znU hg BK399; have NB408_399 := znV hg BK399; replace BK399 := zbN BK399 hb; clear hb hbox hg; have hnb108 := NB408_374.out; have hnc108 := NB374_408.out; have hnb109 := NB408_375.out; have hnc109 := NB375_408.out; have hnb110 := NB408_394.out; have hnc110 := NB394_408.out; have hnb111 := NB408_399.out; have hnc111 := NB399_408.out; have hcz112_0 := zC BK408; have hfz112_0 := zF BK408) | ((with_reducible refine gate_callee (f := 15) rfl ?_); refine zGl (some 126) Tryz.func15 #[.int .i64 t405] ?_; (with_reducible refine (qYear.calls t405 true _ A94.out).mono ?_); rintro e w' ⟨rfl, ⟨nd, rfl⟩⟩; refine ⟨_, rfl, ?_⟩; have hnb113 := NB399_375.out; have hnc113 := NB375_399.out; have hcz114_0 := zC BK399; have hfz114_0 := zF BK399) | (go_at_call 11; (with_reducible refine (tellurionlaw06_known.calls  t410 _ A98.out (Tab.below HT.out zqs)).mono ?_); rintro e w115 ⟨rfl, hb⟩; replace BK374 := Aside0.mk (blk_below (g := gb374) (o := .cells #[.int .i64 a0_0, .slice A0_1 l0_1.length c0_1] 24 (0, 0)) (by (with_reducible repeat (first | refine blk_drewN ?_ _ | refine blk_drew ?_ | refine blk_alloc ?_ _)); refine blk_far ?_ NB374_408.out _; (with_reducible repeat (first | refine blk_drewN ?_ _ | refine blk_drew ?_ | refine blk_alloc ?_ _)); refine blk_far ?_ NB374_408.out _; (with_reducible repeat (first | refine blk_drewN ?_ _ | refine blk_drew ?_ | refine blk_alloc ?_ _)); refine blk_far ?_ NB374_408.out _; (with_reducible repeat (first | refine blk_drewN ?_ _ | refine blk_drew ?_ | refine blk_alloc ?_ _)); exact BK374.out) hb); replace BK375 := Aside0.mk (blk_below (g := gb375) (o := .cells #[.int .i64 a2_0, .int .i64 a2_1, .int .i64 a2_2] 38 (0, 0)) (by (with_reducible repeat (first | refine blk_drewN ?_ _ | refine blk_drew ?_ | refine blk_alloc ?_ _)); refine blk_far ?_ NB375_408.out _; (with_reducible repeat (first | refine blk_drewN ?_ _ | refine blk_drew ?_ | refine blk_alloc ?_ _)); refine blk_far ?_ NB375_408.out _; (with_reducible repeat (first | refine blk_drewN ?_ _ | refine blk_drew ?_ | refine blk_alloc ?_ _)); refine blk_far ?_ NB375_408.out _; (with_reducible repeat (first | refine blk_drewN ?_ _ | refine blk_drew ?_ | refine blk_alloc ?_ _)); exact BK375.out) hb); replace BK394 := Aside0.mk (blk_below (g := gb394) (o := .cells #[.int .i64 t390, .int .i64 t391, .int .i64 t392] 38 (0, 0)) (by (with_reducible repeat (first | refine blk_drewN ?_ _ | refine blk_drew ?_ | refine blk_alloc ?_ _)); refine blk_far ?_ NB394_408.out _; (with_reducible repeat (first | refine blk_drewN ?_ _ | refine blk_drew ?_ | refine blk_alloc ?_ _)); refine blk_far ?_ NB394_408.out _; (with_reducible repeat (first | refine blk_drewN ?_ _ | refine blk_drew ?_ | refine blk_alloc ?_ _)); refine blk_far ?_ NB394_408.out _; (with_reducible repeat (first | refine blk_drewN ?_ _ | refine blk_drew ?_ | refine blk_alloc ?_ _)); exact BK394.out) hb); replace BK399 := Aside0.mk (blk_below (g := gb399) (o := .cells #[.int .i64 t395, .int .i64 t396, .int .i64 t397] 38 (0, 0)) (by (with_reducible repeat (first | refine blk_drewN ?_ _ | refine blk_drew ?_ | refine blk_alloc ?_ _)); refine blk_far ?_ NB399_408.out _; (with_reducible repeat (first | refine blk_drewN ?_ _ | refine blk_drew ?_ | refine blk_alloc ?_ _)); refine blk_far ?_ NB399_408.out _; (with_reducible repeat (first | refine blk_drewN ?_ _ | refine blk_drew ?_ | refine blk_alloc ?_ _)); refine blk_far ?_ NB399_408.out _; (with_reducible repeat (first | refine blk_drewN ?_ _ | refine blk_drew ?_ | refine blk_alloc ?_ _)); exact BK399.out) hb); replace BK408 := Aside0.mk (blk_below (g := gb408) (o := .cells #[.int .i64 t405, .int .i64 t406, .int .i64 t407] 38 (0, 0)) (by (with_reducible repeat (first | refine blk_drewN ?_ _ | refine blk_drew ?_ | refine blk_alloc ?_ _)); refine blk_put (cs := #[.int .i64 t405, .int .i64 t406, .int .i64 0]) ?_ 2 _ rfl; (with_reducible repeat (first | refine blk_drewN ?_ _ | refine blk_drew ?_ | refine blk_alloc ?_ _)); refine blk_put (cs := #[.int .i64 t405, .int .i64 0, .int .i64 0]) ?_ 1 _ rfl; (with_reducible repeat (first | refine blk_drewN ?_ _ | refine blk_drew ?_ | refine blk_alloc ?_ _)); refine blk_put (cs := #[.int .i64 0, .int .i64 0, .int .i64 0]) ?_ 0 _ rfl; (with_reducible repeat (first | refine blk_drewN ?_ _ | refine blk_drew ?_ | refine blk_alloc ?_ _)); exact BK408.out) hb); replace HB := Aside0.mk (below_step zqs hb); (try clear hb); (try clear hb2); (try clear hk); (try clear hi)))
                            go_ret
                            exact ⟨zE, zqs⟩
                          · rw [if_neg c97] at H
                            exact absurd H (by simp)
                        · rw [if_neg c96] at H
                          exact absurd H (by simp)
                      · replace c95 := Bool.eq_false_iff.mpr c95
                        subst c95
                        have H1 : (if t398 = 5 then ((tellurionlaw06_known.f).bind fun t411 => (some t411)) else (none)) = some r := by rw [if_neg (show ¬ (false = true) by decide)] at H; exact H
                        clear H
                        have H := H1
                        clear H1
                        by_cases c116 : t398 = 5
                        · rw [if_pos c116] at H
                          have c116b0 : (t398 == 5) = true := beq_iff_eq.mpr c116
                          have c116b1 : (t398 != 5) = false := bne_eq_false_iff_eq.mpr c116
                          clear c116
                          replace H := Option.bind_eq_some_iff.mp H
                          obtain ⟨t411, A1170, H⟩ := H
                          replace H : (some t411) = some r := H
                          have A117 := Aside0.mk A1170
                          clear A1170
                          obtain rfl := Option.some.inj H
                          have hnb118 := NB374_375.out
                          have hnc118 := NB375_374.out
                          have hnb119 := NB374_394.out
                          have hnc119 := NB394_374.out
                          have hnb120 := NB374_399.out
                          have hnc120 := NB399_374.out
                          have hcz121_0 := zC BK374
                          have hfz121_0 := zF BK374
                          have hnb122 := NB394_375.out
                          have hnc122 := NB375_394.out
                          have hnb123 := NB394_399.out
                          have hnc123 := NB399_394.out
                          have hcz124_0 := zC BK394
                          have hfz124_0 := zF BK394
                          go_wp2_with (first | ((with_reducible refine gate_callee (f := 27) rfl ?_); refine zGl (some 123) Tryz.func27 #[.agg #[.int .i64 a0_0, .slice A0_1 l0_1.length c0_1], .agg #[.int .i64 t390, .int .i64 t391, .int .i64 t392]] ?_; (with_reducible refine (qNext.calls kj69 a0_0 _ _ l0_1 t390 t391 t392 t405 t406 t407 _ ?side1 ?side2 A93.out).mono ?_); (case side1 => repeat (first | exact (Kd.C_below HR0_1.out HB.out) | (with_reducible refine Kd.C_alloc ?_ _) | (with_reducible refine Kd.C_drewN ?_ _) | (with_reducible refine Kd.C_drew ?_))); (case side2 => exact HC0_1.out); rintro e w125 ⟨rfl, hb⟩; refine ⟨_, rfl, ?_⟩; replace BK374 := zbN BK374 hb; replace BK375 := zbN BK375 hb; replace BK394 := zbN BK394 hb; replace BK399 := zbN BK399 hb; replace HB := Aside0.mk (below_step zqs hb); (try clear hb); (try clear hb2); (try clear hk); (try clear hi)) | ((with_reducible refine zG 17 rfl ?_); refine zBox 17 #[.int .i64 0, .int .i64 0, .int .i64 0] 38 ?_; intro gb408 hg w126 hbox hb; have BK408 := Aside0.mk (hbox); have GW408 := Aside0.mk ((by rw [hg]; exact (below_size zqs) : w.heap.size ≤ gb408)); have GE408 := Aside0.mk ((by rw [hg]; exact (below_size zqs) : w.heap.size ≤ gb408)); replace HB := Aside0.mk (below_step zqs hb); have NB374_408 := znU hg BK374; have NB408_374 := znV hg BK374; replace BK374 := zbN BK374 hb; have NB375_408 := znU hg BK375; have NB408_375 := znV hg BK375; replace BK375 := zbN BK375 hb; have NB394_408 := znU hg BK394; have NB408_394 := znV hg BK394; replace BK394 := zbN BK394 hb; have NB399_408 := znU hg BK399; have NB408_399 := znV hg BK399; replace BK399 := zbN BK399 hb; clear hb hbox hg; have hnb127 := NB408_374.out; have hnc127 := NB374_408.out; have hnb128 := NB408_375.out; have hnc128 := NB375_408.out; have hnb129 := NB408_394.out; have hnc129 := NB394_408.out; have hnb130 := NB408_399.out; have hnc130 := NB399_408.out; have hcz131_0 := zC BK408; have hfz131_0 := zF BK408) | ((with_reducible refine gate_callee (f := 15) rfl ?_); refine zGl (some 126) Tryz.func15 #[.int .i64 t405] ?_; (with_reducible refine (qYear.calls t405 false _ A94.out).mono ?_); rintro e w' ⟨rfl, ⟨nd, rfl⟩⟩; refine ⟨_, rfl, ?_⟩) | (go_at_call 11; (with_reducible refine (tellurionlaw06_known.calls  t411 _ A117.out (Tab.below HT.out zqs)).mono ?_); rintro e w132 ⟨rfl, hb⟩; replace BK374 := Aside0.mk (blk_below (g := gb374) (o := .cells #[.int .i64 a0_0, .slice A0_1 l0_1.length c0_1] 24 (0, 0)) (by (with_reducible repeat (first | refine blk_drewN ?_ _ | refine blk_drew ?_ | refine blk_alloc ?_ _)); refine blk_far ?_ NB374_408.out _; (with_reducible repeat (first | refine blk_drewN ?_ _ | refine blk_drew ?_ | refine blk_alloc ?_ _)); refine blk_far ?_ NB374_408.out _; (with_reducible repeat (first | refine blk_drewN ?_ _ | refine blk_drew ?_ | refine blk_alloc ?_ _)); refine blk_far ?_ NB374_408.out _; (with_reducible repeat (first | refine blk_drewN ?_ _ | refine blk_drew ?_ | refine blk_alloc ?_ _)); exact BK374.out) hb); replace BK375 := Aside0.mk (blk_below (g := gb375) (o := .cells #[.int .i64 a2_0, .int .i64 a2_1, .int .i64 a2_2] 38 (0, 0)) (by (with_reducible repeat (first | refine blk_drewN ?_ _ | refine blk_drew ?_ | refine blk_alloc ?_ _)); refine blk_far ?_ NB375_408.out _; (with_reducible repeat (first | refine blk_drewN ?_ _ | refine blk_drew ?_ | refine blk_alloc ?_ _)); refine blk_far ?_ NB375_408.out _; (with_reducible repeat (first | refine blk_drewN ?_ _ | refine blk_drew ?_ | refine blk_alloc ?_ _)); refine blk_far ?_ NB375_408.out _; (with_reducible repeat (first | refine blk_drewN ?_ _ | refine blk_drew ?_ | refine blk_alloc ?_ _)); exact BK375.out) hb); replace BK394 := Aside0.mk (blk_below (g := gb394) (o := .cells #[.int .i64 t390, .int .i64 t391, .int .i64 t392] 38 (0, 0)) (by (with_reducible repeat (first | refine blk_drewN ?_ _ | refine blk_drew ?_ | refine blk_alloc ?_ _)); refine blk_far ?_ NB394_408.out _; (with_reducible repeat (first | refine blk_drewN ?_ _ | refine blk_drew ?_ | refine blk_alloc ?_ _)); refine blk_far ?_ NB394_408.out _; (with_reducible repeat (first | refine blk_drewN ?_ _ | refine blk_drew ?_ | refine blk_alloc ?_ _)); refine blk_far ?_ NB394_408.out _; (with_reducible repeat (first | refine blk_drewN ?_ _ | refine blk_drew ?_ | refine blk_alloc ?_ _)); exact BK394.out) hb); replace BK399 := Aside0.mk (blk_below (g := gb399) (o := .cells #[.int .i64 t395, .int .i64 t396, .int .i64 t397] 38 (0, 0)) (by (with_reducible repeat (first | refine blk_drewN ?_ _ | refine blk_drew ?_ | refine blk_alloc ?_ _)); refine blk_far ?_ NB399_408.out _; (with_reducible repeat (first | refine blk_drewN ?_ _ | refine blk_drew ?_ | refine blk_alloc ?_ _)); refine blk_far ?_ NB399_408.out _; (with_reducible repeat (first | refine blk_drewN ?_ _ | refine blk_drew ?_ | refine blk_alloc ?_ _)); refine blk_far ?_ NB399_408.out _; (with_reducible repeat (first | refine blk_drewN ?_ _ | refine blk_drew ?_ | refine blk_alloc ?_ _)); exact BK399.out) hb); replace BK408 := Aside0.mk (blk_below (g := gb408) (o := .cells #[.int .i64 t405, .int .i64 t406, .int .i64 t407] 38 (0, 0)) (by (with_reducible repeat (first | refine blk_drewN ?_ _ | refine blk_drew ?_ | refine blk_alloc ?_ _)); refine blk_put (cs := #[.int .i64 t405, .int .i64 t406, .int .i64 0]) ?_ 2 _ rfl; (with_reducible repeat (first | refine blk_drewN ?_ _ | refine blk_drew ?_ | refine blk_alloc ?_ _)); refine blk_put (cs := #[.int .i64 t405, .int .i64 0, .int .i64 0]) ?_ 1 _ rfl; (with_reducible repeat (first | refine blk_drewN ?_ _ | refine blk_drew ?_ | refine blk_alloc ?_ _)); refine blk_put (cs := #[.int .i64 0, .int .i64 0, .int .i64 0]) ?_ 0 _ rfl; (with_reducible repeat (first | refine blk_drewN ?_ _ | refine blk_drew ?_ | refine blk_alloc ?_ _)); exact BK408.out) hb); replace HB := Aside0.mk (below_step zqs hb); (try clear hb); (try clear hb2); (try clear hk); (try clear hi)))
                          go_ret
                          exact ⟨zE, zqs⟩
                        · rw [if_neg c116] at H
                          exact absurd H (by simp)
              · replace c68 := Bool.eq_false_iff.mpr c68
                subst c68
                have H1 : (none) = some r := by rw [if_neg (show ¬ (false = true) by decide)] at H; exact H
                clear H
                have H := H1
                clear H1
                exact absurd H (by simp)
            · rw [if_neg c66] at H
              have c66b0 : (t393 == 0) = false := beq_eq_false_iff_ne.mpr c66
              have c66b1 : (t393 != 0) = true := bne_iff_ne.mpr c66
              by_cases c133 : t393 = 5
              · rw [if_pos c133] at H
                have c133b0 : (t393 == 5) = true := beq_iff_eq.mpr c133
                have c133b1 : (t393 != 5) = false := bne_eq_false_iff_eq.mpr c133
                clear c133
                by_cases c134 : t398 = 5
                · rw [if_pos c134] at H
                  have c134b0 : (t398 == 5) = true := beq_iff_eq.mpr c134
                  have c134b1 : (t398 != 5) = false := bne_eq_false_iff_eq.mpr c134
                  clear c134
                  replace H := Option.bind_eq_some_iff.mp H
                  obtain ⟨t400, A1350, H⟩ := H
                  replace H : (some t400) = some r := H
                  have A135 := Aside0.mk A1350
                  clear A1350
                  obtain rfl := Option.some.inj H
                  have hnb136 := NB374_375.out
                  have hnc136 := NB375_374.out
                  have hcz137_0 := zC BK374
                  have hfz137_0 := zF BK374
                  go_wp2_with (first | ((with_reducible refine gate_callee (f := 26) rfl ?_); refine zGl (some 67) Tryz.func26 #[.agg #[.int .i64 a0_0, .slice A0_1 l0_1.length c0_1], .int .i64 a1] ?_; (with_reducible refine (dial_Date.calls a0_0 _ _ l0_1 a1 t390 t391 t392 t393 _ ?side1 ?side2 A64.out).mono ?_); (case side1 => repeat (first | exact (Kd.C_below HR0_1.out HB.out) | (with_reducible refine Kd.C_alloc ?_ _) | (with_reducible refine Kd.C_drewN ?_ _) | (with_reducible refine Kd.C_drew ?_))); (case side2 => exact HC0_1.out); rintro e w138 ⟨rfl, hb⟩; refine ⟨_, rfl, ?_⟩; replace BK374 := zbN BK374 hb; replace BK375 := zbN BK375 hb; replace HB := Aside0.mk (below_step zqs hb); (try clear hb); (try clear hb2); (try clear hk); (try clear hi)) | ((with_reducible refine zG 11 rfl ?_); refine zBox 11 #[.int .i64 0, .int .i64 0, .int .i64 0] 38 ?_; intro gb394 hg w139 hbox hb; have BK394 := Aside0.mk (hbox); have GW394 := Aside0.mk ((by rw [hg]; exact (below_size zqs) : w.heap.size ≤ gb394)); have GE394 := Aside0.mk ((by rw [hg]; exact (below_size zqs) : w.heap.size ≤ gb394)); replace HB := Aside0.mk (below_step zqs hb); have NB374_394 := znU hg BK374; have NB394_374 := znV hg BK374; replace BK374 := zbN BK374 hb; have NB375_394 := znU hg BK375; have NB394_375 := znV hg BK375; replace BK375 := zbN BK375 hb; clear hb hbox hg; have hnb140 := NB394_374.out; have hnc140 := NB374_394.out; have hnb141 := NB394_375.out; have hnc141 := NB375_394.out; have hcz142_0 := zC BK394; have hfz142_0 := zF BK394; have hcz143_0 := zC BK374; have hfz143_0 := zF BK374) | ((with_reducible refine gate_callee (f := 26) rfl ?_); refine zGl (some 74) Tryz.func26 #[.agg #[.int .i64 a0_0, .slice A0_1 l0_1.length c0_1], .int .i64 (wrap64 (a1 + 1))] ?_; (with_reducible refine (dial_Date.calls a0_0 _ _ l0_1 (wrap64 (a1 + 1)) t395 t396 t397 t398 _ ?side1 ?side2 A65.out).mono ?_); (case side1 => exact Kd.C_below HR0_1.out zqs); (case side2 => exact HC0_1.out); rintro e w144 ⟨rfl, hb⟩; refine ⟨_, rfl, ?_⟩; replace BK374 := Aside0.mk (blk_below (g := gb374) (o := .cells #[.int .i64 a0_0, .slice A0_1 l0_1.length c0_1] 24 (0, 0)) (by (with_reducible repeat (first | refine blk_drewN ?_ _ | refine blk_drew ?_ | refine blk_alloc ?_ _)); refine blk_far ?_ NB374_394.out _; (with_reducible repeat (first | refine blk_drewN ?_ _ | refine blk_drew ?_ | refine blk_alloc ?_ _)); refine blk_far ?_ NB374_394.out _; (with_reducible repeat (first | refine blk_drewN ?_ _ | refine blk_drew ?_ | refine blk_alloc ?_ _)); refine blk_far ?_ NB374_394.out _; (with_reducible repeat (first | refine blk_drewN ?_ _ | refine blk_drew ?_ | refine blk_alloc ?_ _)); exact BK374.out) hb); replace BK375 := Aside0.mk (blk_below (g := gb375) (o := .cells #[.int .i64 a2_0, .int .i64 a2_1, .int .i64 a2_2] 38 (0, 0)) (by (with_reducible repeat (first | refine blk_drewN ?_ _ | refine blk_drew ?_ | refine blk_alloc ?_ _)); refine blk_far ?_ NB375_394.out _; (with_reducible repeat (first | refine blk_drewN ?_ _ | refine blk_drew ?_ | refine blk_alloc ?_ _)); refine blk_far ?_ NB375_394.out _; (with_reducible repeat (first | refine blk_drewN ?_ _ | refine blk_drew ?_ | refine blk_alloc ?_ _)); refine blk_far ?_ NB375_394.out _; (with_reducible repeat (first | refine blk_drewN ?_ _ | refine blk_drew ?_ | refine blk_alloc ?_ _)); exact BK375.out) hb); replace BK394 := Aside0.mk (blk_below (g := gb394) (o := .cells #[.int .i64 t390, .int .i64 t391, .int .i64 t392] 38 (0, 0)) (by (with_reducible repeat (first | refine blk_drewN ?_ _ | refine blk_drew ?_ | refine blk_alloc ?_ _)); refine blk_put (cs := #[.int .i64 t390, .int .i64 t391, .int .i64 0]) ?_ 2 _ rfl; (with_reducible repeat (first | refine blk_drewN ?_ _ | refine blk_drew ?_ | refine blk_alloc ?_ _)); refine blk_put (cs := #[.int .i64 t390, .int .i64 0, .int .i64 0]) ?_ 1 _ rfl; (with_reducible repeat (first | refine blk_drewN ?_ _ | refine blk_drew ?_ | refine blk_alloc ?_ _)); refine blk_put (cs := #[.int .i64 0, .int .i64 0, .int .i64 0]) ?_ 0 _ rfl; (with_reducible repeat (first | refine blk_drewN ?_ _ | refine blk_drew ?_ | refine blk_alloc ?_ _)); exact BK394.out) hb); replace HB := Aside0.mk (below_step zqs hb); (try clear hb); (try clear hb2); (try clear hk); (try clear hi)) | ((with_reducible refine zG 13 rfl ?_); refine zBox 13 #[.int .i64 0, .int .i64 0, .int .i64 0] 38 ?_; intro gb399 hg w145 hbox hb; have BK399 := Aside0.mk (hbox); have GW399 := Aside0.mk ((by rw [hg]; exact (below_size zqs) : w.heap.size ≤ gb399)); have GE399 := Aside0.mk ((by rw [hg]; exact (below_size zqs) : w.heap.size ≤ gb399)); replace HB := Aside0.mk (below_step zqs hb); have NB374_399 := znU hg BK374; have NB399_374 := znV hg BK374; replace BK374 := zbN BK374 hb; have NB375_399 := znU hg BK375; have NB399_375 := znV hg BK375; replace BK375 := zbN BK375 hb; have NB394_399 := znU hg BK394; have NB399_394 := znV hg BK394; replace BK394 := zbN BK394 hb; clear hb hbox hg; have hnb146 := NB399_374.out; have hnc146 := NB374_399.out; have hnb147 := NB399_375.out; have hnc147 := NB375_399.out; have hnb148 := NB399_394.out; have hnc148 := NB394_399.out; have hcz149_0 := zC BK399; have hfz149_0 := zF BK399) | (go_at_call 11; (with_reducible refine (tellurionlaw06_known.calls  t400 _ A135.out (Tab.below HT.out zqs)).mono ?_); rintro e w150 ⟨rfl, hb⟩; replace BK374 := Aside0.mk (blk_below (g := gb374) (o := .cells #[.int .i64 a0_0, .slice A0_1 l0_1.length c0_1] 24 (0, 0)) (by (with_reducible repeat (first | refine blk_drewN ?_ _ | refine blk_drew ?_ | refine blk_alloc ?_ _)); refine blk_far ?_ NB374_399.out _; (with_reducible repeat (first | refine blk_drewN ?_ _ | refine blk_drew ?_ | refine blk_alloc ?_ _)); refine blk_far ?_ NB374_399.out _; (with_reducible repeat (first | refine blk_drewN ?_ _ | refine blk_drew ?_ | refine blk_alloc ?_ _)); refine blk_far ?_ NB374_399.out _; (with_reducible repeat (first | refine blk_drewN ?_ _ | refine blk_drew ?_ | refine blk_alloc ?_ _)); exact BK374.out) hb); replace BK375 := Aside0.mk (blk_below (g := gb375) (o := .cells #[.int .i64 a2_0, .int .i64 a2_1, .int .i64 a2_2] 38 (0, 0)) (by (with_reducible repeat (first | refine blk_drewN ?_ _ | refine blk_drew ?_ | refine blk_alloc ?_ _)); refine blk_far ?_ NB375_399.out _; (with_reducible repeat (first | refine blk_drewN ?_ _ | refine blk_drew ?_ | refine blk_alloc ?_ _)); refine blk_far ?_ NB375_399.out _; (with_reducible repeat (first | refine blk_drewN ?_ _ | refine blk_drew ?_ | refine blk_alloc ?_ _)); refine blk_far ?_ NB375_399.out _; (with_reducible repeat (first | refine blk_drewN ?_ _ | refine blk_drew ?_ | refine blk_alloc ?_ _)); exact BK375.out) hb); replace BK394 := Aside0.mk (blk_below (g := gb394) (o := .cells #[.int .i64 t390, .int .i64 t391, .int .i64 t392] 38 (0, 0)) (by (with_reducible repeat (first | refine blk_drewN ?_ _ | refine blk_drew ?_ | refine blk_alloc ?_ _)); refine blk_far ?_ NB394_399.out _; (with_reducible repeat (first | refine blk_drewN ?_ _ | refine blk_drew ?_ | refine blk_alloc ?_ _)); refine blk_far ?_ NB394_399.out _; (with_reducible repeat (first | refine blk_drewN ?_ _ | refine blk_drew ?_ | refine blk_alloc ?_ _)); refine blk_far ?_ NB394_399.out _; (with_reducible repeat (first | refine blk_drewN ?_ _ | refine blk_drew ?_ | refine blk_alloc ?_ _)); exact BK394.out) hb); replace BK399 := Aside0.mk (blk_below (g := gb399) (o := .cells #[.int .i64 t395, .int .i64 t396, .int .i64 t397] 38 (0, 0)) (by (with_reducible repeat (first | refine blk_drewN ?_ _ | refine blk_drew ?_ | refine blk_alloc ?_ _)); refine blk_put (cs := #[.int .i64 t395, .int .i64 t396, .int .i64 0]) ?_ 2 _ rfl; (with_reducible repeat (first | refine blk_drewN ?_ _ | refine blk_drew ?_ | refine blk_alloc ?_ _)); refine blk_put (cs := #[.int .i64 t395, .int .i64 0, .int .i64 0]) ?_ 1 _ rfl; (with_reducible repeat (first | refine blk_drewN ?_ _ | refine blk_drew ?_ | refine blk_alloc ?_ _)); refine blk_put (cs := #[.int .i64 0, .int .i64 0, .int .i64 0]) ?_ 0 _ rfl; (with_reducible repeat (first | refine blk_drewN ?_ _ | refine blk_drew ?_ | refine blk_alloc ?_ _)); exact BK399.out) hb); replace HB := Aside0.mk (below_step zqs hb); (try clear hb); (try clear hb2); (try clear hk); (try clear hi)))
                  go_ret
                  exact ⟨zE, zqs⟩
                · rw [if_neg c134] at H
                  have c134b0 : (t398 == 5) = false := beq_eq_false_iff_ne.mpr c134
                  have c134b1 : (t398 != 5) = true := bne_iff_ne.mpr c134
                  by_cases c151 : (wrap64 (a1 + 1)) = a0_0
                  · rw [if_pos c151] at H
                    have c151b0 : ((wrap64 (a1 + 1)) == a0_0) = true := beq_iff_eq.mpr c151
                    have c151b1 : ((wrap64 (a1 + 1)) != a0_0) = false := bne_eq_false_iff_eq.mpr c151
                    clear c151
                    by_cases c152 : t398 = 0
                    · rw [if_pos c152] at H
                      have c152b0 : (t398 == 0) = true := beq_iff_eq.mpr c152
                      have c152b1 : (t398 != 0) = false := bne_eq_false_iff_eq.mpr c152
                      clear c152
                      by_cases c153 : (t395 == 0 && (t396 == 1 && (t397 == 1))) = true
                      · rw [if_pos c153] at H
                        have c153b0 : (t395 == 0 && (t396 == 1 && (t397 == 1))) = true := c153
                        (try (have c153b1 : decide (t395 = 0 && (t396 == 1 && (t397 == 1))) = true := by simpa using c153))
                        (try (have c153b2 : (t395 == 0 && (t396 == 1 && (t397 == 1))) = true := by simpa using c153))
                        clear c153
                        replace H := Option.bind_eq_some_iff.mp H
                        obtain ⟨t401, A1540, H⟩ := H
                        replace H : (some t401) = some r := H
                        have A154 := Aside0.mk A1540
                        clear A1540
                        obtain rfl := Option.some.inj H
                        have hnb155 := NB374_375.out
                        have hnc155 := NB375_374.out
                        have hcz156_0 := zC BK374
                        have hfz156_0 := zF BK374
                        go_wp2_with (first | ((with_reducible refine gate_callee (f := 26) rfl ?_); refine zGl (some 67) Tryz.func26 #[.agg #[.int .i64 a0_0, .slice A0_1 l0_1.length c0_1], .int .i64 a1] ?_; (with_reducible refine (dial_Date.calls a0_0 _ _ l0_1 a1 t390 t391 t392 t393 _ ?side1 ?side2 A64.out).mono ?_); (case side1 => repeat (first | exact (Kd.C_below HR0_1.out HB.out) | (with_reducible refine Kd.C_alloc ?_ _) | (with_reducible refine Kd.C_drewN ?_ _) | (with_reducible refine Kd.C_drew ?_))); (case side2 => exact HC0_1.out); rintro e w157 ⟨rfl, hb⟩; refine ⟨_, rfl, ?_⟩; replace BK374 := zbN BK374 hb; replace BK375 := zbN BK375 hb; replace HB := Aside0.mk (below_step zqs hb); (try clear hb); (try clear hb2); (try clear hk); (try clear hi)) | ((with_reducible refine zG 11 rfl ?_); refine zBox 11 #[.int .i64 0, .int .i64 0, .int .i64 0] 38 ?_; intro gb394 hg w158 hbox hb; have BK394 := Aside0.mk (hbox); have GW394 := Aside0.mk ((by rw [hg]; exact (below_size zqs) : w.heap.size ≤ gb394)); have GE394 := Aside0.mk ((by rw [hg]; exact (below_size zqs) : w.heap.size ≤ gb394)); replace HB := Aside0.mk (below_step zqs hb); have NB374_394 := znU hg BK374; have NB394_374 := znV hg BK374; replace BK374 := zbN BK374 hb; have NB375_394 := znU hg BK375; have NB394_375 := znV hg BK375; replace BK375 := zbN BK375 hb; clear hb hbox hg; have hnb159 := NB394_374.out; have hnc159 := NB374_394.out; have hnb160 := NB394_375.out; have hnc160 := NB375_394.out; have hcz161_0 := zC BK394; have hfz161_0 := zF BK394; have hcz162_0 := zC BK374; have hfz162_0 := zF BK374) | ((with_reducible refine gate_callee (f := 26) rfl ?_); refine zGl (some 74) Tryz.func26 #[.agg #[.int .i64 a0_0, .slice A0_1 l0_1.length c0_1], .int .i64 (wrap64 (a1 + 1))] ?_; (with_reducible refine (dial_Date.calls a0_0 _ _ l0_1 (wrap64 (a1 + 1)) t395 t396 t397 t398 _ ?side1 ?side2 A65.out).mono ?_); (case side1 => exact Kd.C_below HR0_1.out zqs); (case side2 => exact HC0_1.out); rintro e w163 ⟨rfl, hb⟩; refine ⟨_, rfl, ?_⟩; replace BK374 := Aside0.mk (blk_below (g := gb374) (o := .cells #[.int .i64 a0_0, .slice A0_1 l0_1.length c0_1] 24 (0, 0)) (by (with_reducible repeat (first | refine blk_drewN ?_ _ | refine blk_drew ?_ | refine blk_alloc ?_ _)); refine blk_far ?_ NB374_394.out _; (with_reducible repeat (first | refine blk_drewN ?_ _ | refine blk_drew ?_ | refine blk_alloc ?_ _)); refine blk_far ?_ NB374_394.out _; (with_reducible repeat (first | refine blk_drewN ?_ _ | refine blk_drew ?_ | refine blk_alloc ?_ _)); refine blk_far ?_ NB374_394.out _; (with_reducible repeat (first | refine blk_drewN ?_ _ | refine blk_drew ?_ | refine blk_alloc ?_ _)); exact BK374.out) hb); replace BK375 := Aside0.mk (blk_below (g := gb375) (o := .cells #[.int .i64 a2_0, .int .i64 a2_1, .int .i64 a2_2] 38 (0, 0)) (by (with_reducible repeat (first | refine blk_drewN ?_ _ | refine blk_drew ?_ | refine blk_alloc ?_ _)); refine blk_far ?_ NB375_394.out _; (with_reducible repeat (first | refine blk_drewN ?_ _ | refine blk_drew ?_ | refine blk_alloc ?_ _)); refine blk_far ?_ NB375_394.out _; (with_reducible repeat (first | refine blk_drewN ?_ _ | refine blk_drew ?_ | refine blk_alloc ?_ _)); refine blk_far ?_ NB375_394.out _; (with_reducible repeat (first | refine blk_drewN ?_ _ | refine blk_drew ?_ | refine blk_alloc ?_ _)); exact BK375.out) hb); replace BK394 := Aside0.mk (blk_below (g := gb394) (o := .cells #[.int .i64 t390, .int .i64 t391, .int .i64 t392] 38 (0, 0)) (by (with_reducible repeat (first | refine blk_drewN ?_ _ | refine blk_drew ?_ | refine blk_alloc ?_ _)); refine blk_put (cs := #[.int .i64 t390, .int .i64 t391, .int .i64 0]) ?_ 2 _ rfl; (with_reducible repeat (first | refine blk_drewN ?_ _ | refine blk_drew ?_ | refine blk_alloc ?_ _)); refine blk_put (cs := #[.int .i64 t390, .int .i64 0, .int .i64 0]) ?_ 1 _ rfl; (with_reducible repeat (first | refine blk_drewN ?_ _ | refine blk_drew ?_ | refine blk_alloc ?_ _)); refine blk_put (cs := #[.int .i64 0, .int .i64 0, .int .i64 0]) ?_ 0 _ rfl; (with_reducible repeat (first | refine blk_drewN ?_ _ | refine blk_drew ?_ | refine blk_alloc ?_ _)); exact BK394.out) hb); replace HB := Aside0.mk (below_step zqs hb); (try clear hb); (try clear hb2); (try clear hk); (try clear hi)) | ((with_reducible refine zG 13 rfl ?_); refine zBox 13 #[.int .i64 0, .int .i64 0, .int .i64 0] 38 ?_; intro gb399 hg w164 hbox hb; have BK399 := Aside0.mk (hbox); have GW399 := Aside0.mk ((by rw [hg]; exact (below_size zqs) : w.heap.size ≤ gb399)); have GE399 := Aside0.mk ((by rw [hg]; exact (below_size zqs) : w.heap.size ≤ gb399)); replace HB := Aside0.mk (below_step zqs hb); have NB374_399 := znU hg BK374; have NB399_374 := znV hg BK374; replace BK374 := zbN BK374 hb; have NB375_399 := znU hg BK375; have NB399_375 := znV hg BK375; replace BK375 := zbN BK375 hb; have NB394_399 := znU hg BK394; have NB399_394 := znV hg BK394; replace BK394 := zbN BK394 hb; clear hb hbox hg; have hnb165 := NB399_374.out; have hnc165 := NB374_399.out; have hnb166 := NB399_375.out; have hnc166 := NB375_399.out; have hnb167 := NB399_394.out; have hnc167 := NB394_399.out; have hcz168_0 := zC BK399; have hfz168_0 := zF BK399; have hcz169_0 := zC BK374; have hfz169_0 := zF BK374) | (go_at_call 11; (with_reducible refine (tellurionlaw06_known.calls  t401 _ A154.out (Tab.below HT.out zqs)).mono ?_); rintro e w170 ⟨rfl, hb⟩; replace BK374 := Aside0.mk (blk_below (g := gb374) (o := .cells #[.int .i64 a0_0, .slice A0_1 l0_1.length c0_1] 24 (0, 0)) (by (with_reducible repeat (first | refine blk_drewN ?_ _ | refine blk_drew ?_ | refine blk_alloc ?_ _)); refine blk_far ?_ NB374_399.out _; (with_reducible repeat (first | refine blk_drewN ?_ _ | refine blk_drew ?_ | refine blk_alloc ?_ _)); refine blk_far ?_ NB374_399.out _; (with_reducible repeat (first | refine blk_drewN ?_ _ | refine blk_drew ?_ | refine blk_alloc ?_ _)); refine blk_far ?_ NB374_399.out _; (with_reducible repeat (first | refine blk_drewN ?_ _ | refine blk_drew ?_ | refine blk_alloc ?_ _)); exact BK374.out) hb); replace BK375 := Aside0.mk (blk_below (g := gb375) (o := .cells #[.int .i64 a2_0, .int .i64 a2_1, .int .i64 a2_2] 38 (0, 0)) (by (with_reducible repeat (first | refine blk_drewN ?_ _ | refine blk_drew ?_ | refine blk_alloc ?_ _)); refine blk_far ?_ NB375_399.out _; (with_reducible repeat (first | refine blk_drewN ?_ _ | refine blk_drew ?_ | refine blk_alloc ?_ _)); refine blk_far ?_ NB375_399.out _; (with_reducible repeat (first | refine blk_drewN ?_ _ | refine blk_drew ?_ | refine blk_alloc ?_ _)); refine blk_far ?_ NB375_399.out _; (with_reducible repeat (first | refine blk_drewN ?_ _ | refine blk_drew ?_ | refine blk_alloc ?_ _)); exact BK375.out) hb); replace BK394 := Aside0.mk (blk_below (g := gb394) (o := .cells #[.int .i64 t390, .int .i64 t391, .int .i64 t392] 38 (0, 0)) (by (with_reducible repeat (first | refine blk_drewN ?_ _ | refine blk_drew ?_ | refine blk_alloc ?_ _)); refine blk_far ?_ NB394_399.out _; (with_reducible repeat (first | refine blk_drewN ?_ _ | refine blk_drew ?_ | refine blk_alloc ?_ _)); refine blk_far ?_ NB394_399.out _; (with_reducible repeat (first | refine blk_drewN ?_ _ | refine blk_drew ?_ | refine blk_alloc ?_ _)); refine blk_far ?_ NB394_399.out _; (with_reducible repeat (first | refine blk_drewN ?_ _ | refine blk_drew ?_ | refine blk_alloc ?_ _)); exact BK394.out) hb); replace BK399 := Aside0.mk (blk_below (g := gb399) (o := .cells #[.int .i64 t395, .int .i64 t396, .int .i64 t397] 38 (0, 0)) (by (with_reducible repeat (first | refine blk_drewN ?_ _ | refine blk_drew ?_ | refine blk_alloc ?_ _)); refine blk_put (cs := #[.int .i64 t395, .int .i64 t396, .int .i64 0]) ?_ 2 _ rfl; (with_reducible repeat (first | refine blk_drewN ?_ _ | refine blk_drew ?_ | refine blk_alloc ?_ _)); refine blk_put (cs := #[.int .i64 t395, .int .i64 0, .int .i64 0]) ?_ 1 _ rfl; (with_reducible repeat (first | refine blk_drewN ?_ _ | refine blk_drew ?_ | refine blk_alloc ?_ _)); refine blk_put (cs := #[.int .i64 0, .int .i64 0, .int .i64 0]) ?_ 0 _ rfl; (with_reducible repeat (first | refine blk_drewN ?_ _ | refine blk_drew ?_ | refine blk_alloc ?_ _)); exact BK399.out) hb); replace HB := Aside0.mk (below_step zqs hb); (try clear hb); (try clear hb2); (try clear hk); (try clear hi)))
                        go_ret
                        exact ⟨zE, zqs⟩
                      · rw [if_neg c153] at H
                        exact absurd H (by simp)
                    · rw [if_neg c152] at H
                      exact absurd H (by simp)
                  · rw [if_neg c151] at H
                    exact absurd H (by simp)
              · rw [if_neg c133] at H
                exact absurd H (by simp)
end Go.Proofs.YtnllidgonghckaaGreatDoor.X
