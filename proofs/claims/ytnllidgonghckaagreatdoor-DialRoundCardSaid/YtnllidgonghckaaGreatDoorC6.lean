/- What the laws' proofs have in common: contracts of the program's functions, whatever memory they are called in. Conditions stand in each statement (part 7 of 12). -/
import Derived.ArgAppend
import Derived.Below
import Derived.BigQuiet
import Derived.Deep.AppendLies
import Derived.Deep.CutBlock
import Derived.Deep.DeepCutAuto
import Derived.Deep.Draws
import Derived.Deep.LoopGhost
import Derived.Deep.OwnRows
import Derived.Deep.QuietTactic
import Derived.Deep.RegionHeld3
import Derived.Defers
import Derived.KernelRfl
import Derived.Laws.BitsLemmas
import Derived.Laws.BytesArg
import Derived.Laws.CopyOwn
import Derived.Laws.IdiomCopy
import Derived.Laws.MakeOwn
import Derived.Laws.OwnMore
import Derived.Laws.Rows
import Derived.Laws.Slices
import Derived.Laws.StructEq
import Derived.Laws.Tables
import Derived.Lib.AppendStr
import Derived.Lib.ConvBytes
import Derived.Maps.AppendAt
import Derived.OrdersHeld
import Derived.OwnWalk
import Derived.OwnWalkIn
import Derived.RangeFuncCalls
import Derived.RangeFuncKeeps
import Derived.RangeFuncLeaves
import Derived.Recover
import Derived.RowKit
import Derived.RowKit3
import Derived.Tactics
import Derived.Tactics2
import Derived.TacticsInMore
import Derived.Test.YtnllidgonghckaaGreatDoorProg
import Derived.WalkKit
import Derived.WalkLawsBesides
import Derived.WideLaws
import Derived.Test.YtnllidgonghckaaGreatDoorC5
namespace Go.Proofs.YtnllidgonghckaaGreatDoor.X
open Go.RowKit
def wideR (r : Option Nat) : Fence := { Fence.wide with round := r }
variable {F : Fence} {n : Nat} {P : Program} {ops : Array Oper} {Q : Exit → Act → World → Prop}
theorem wpIn_of_wp_op (hF : F = wideR F.round) {o : Oper} {a : Act} {w : World} {K : Act → World → Prop} (hd : ∀ c, o.op ≠ .defer c) (h : o.wp P a w K Q) : o.wpIn F n P a w K Q := by
  generalize F.round = r at hF
  subst hF
  refine ⟨fun _ _ => trivial, ?_⟩
  rw [Oper.semAt_eq _ _ _ hd]
  unfold Oper.wp at h
  generalize (execOp a.eval o).run P w = r at *
  cases r with
  | ok x w' =>
    cases x <;> simp only [Oper.upon, Oper.uponIn] at h ⊢ <;>
      first
        | exact h
        | exact ⟨fun q => by simp [wideR, Fence.wide] at q, (fun h => h : CallsIn Fence.wide _ _ _ _ _ _ → CallsIn (wideR r) _ _ _ _ _ _) (callsIn_wide.2 (h.mono fun e w'' he => by cases e <;> exact he))⟩
        | exact ⟨fun q => by simp [wideR, Fence.wide] at q, fun c cs _ => let ⟨v, w2, hr, hs⟩ := h c cs; ⟨v, w2, hr, stepsIn_wide.2 hs⟩⟩
  | halt x w' => cases x <;> simp only [Oper.upon, Oper.uponIn] at h ⊢ <;> exact h
def noDefer : List Oper → Bool
  | [] => true
  | o :: r => (match o.op with | .defer _ => false | _ => true) && noDefer r
theorem noDefer_head {o : Oper} {r : List Oper} (h : noDefer (o :: r) = true) : (∀ c, o.op ≠ .defer c) ∧ noDefer r = true := by
  simp only [noDefer, Bool.and_eq_true] at h
  refine ⟨fun c hc => ?_, h.2⟩
  rw [hc] at h
  exact absurd h.1 (by simp)
theorem wpListIn_append (hF : F = wideR F.round) {L M : List Oper} (hd : noDefer L = true) (hL : ¬ LetsOut Q) : ∀ {a : Act} {w : World}, wpList P ops (Exit.then (wpListIn F n P ops Q M) Q) L a w → wpListIn F n P ops Q (L ++ M) a w := by
  induction L with
  | nil => intro a w h; exact h
  | cons o r ih =>
    intro a w h
    obtain ⟨h0, h1⟩ := noDefer_head hd
    simp only [wpList] at h
    simp only [List.cons_append, wpListIn]
    split at h
    · rename_i hw
      rw [if_pos hw]
      rcases h with h | ⟨_, h⟩
      · refine Oper.wpIn_mono (fun a w => ih h1) (wpIn_of_wp_op hF h0 ?_)
        unfold Oper.wp at h ⊢
        generalize (execOp a.eval o).run P w = q at *
        cases q with
        | ok x w' =>
          cases x <;> simp only [Oper.upon] at h ⊢ <;>
            first
              | exact h
              | exact Calls.mono h (fun e w'' he => by cases e <;> exact he)
        | halt x w' => cases x <;> simp only [Oper.upon] at h ⊢ <;> exact h
      · exact absurd h hL
    · rename_i hw
      rw [if_neg hw]
      exact ⟨fun _ _ => by rw [hF]; trivial, ih h1 h⟩
theorem wpListIn_of (hF : F = wideR F.round) {L : List Oper} (hd : noDefer L = true) (hL : ¬ LetsOut Q) {a : Act} {w : World} (h : wpList P ops Q L a w) : wpListIn F n P ops Q L a w := by
  have := wpListIn_append hF (M := []) hd hL (a := a) (w := w) (n := n) (ops := ops) (P := P) (Q := Q) ?_
  · simpa using this
  · have e : Exit.then (wpListIn F n P ops Q []) Q = Q := by funext e a w; cases e <;> rfl
    rw [e]; exact h
theorem wpListIn_take (hF : F = wideR F.round) (k : Nat) {L : List Oper} (hd : noDefer (L.take k) = true) (hL : ¬ LetsOut Q) {a : Act} {w : World} (h : wpList P ops (Exit.then (wpListIn F n P ops Q (L.drop k)) Q) (L.take k) a w) : wpListIn F n P ops Q L a w := by
  have := wpListIn_append hF hd hL h
  rwa [List.take_append_drop] at this
theorem yield_event (hF : F = wideR F.round) {o : Oper} {rest : List Oper} {N : Tmp} {l : Nat} {a : Act} {W : World} {x : Operand} {as_ : Array Operand} {ts : Array TypeId} {args : Array Value} {R : Ending → World → Prop} (hgd : o.guard = none) (ho : o.op = .call { callee := .value x, args := as_, argTypes := ts }) (hx : a.eval x = .func (.yield l) #[] #[]) (hargs : as_.map a.eval = args) (hN : o.dst = some N)
    (hy : YieldAt Fence.wide (n - 1) P l args W R) (hp : ∀ e w', R e w' → ∃ v, e = .returned v) (h : ∀ v w', R (.returned v) w' → wpListIn F n P ops Q rest (a.put (some N) v) w') : wpListIn F n P ops Q (o :: rest) a W := by
  refine wpListIn_plain hgd fun K hK => ?_
  obtain ⟨fn, tmps, assign, body, hy, hR⟩ := hy
  have hs : (o.semAt F.round a.eval).run P W = .ok (.round l fn tmps assign body) W := by
    rw [Oper.semAt_eq _ _ _ (fun c hc => by rw [ho] at hc; cases hc)]
    unfold execOp
    simp [ho, resolve, hx, Deferred.ofValue, invoke, hargs, hy]
    try rfl
  generalize hr : F.round = r at hF hs
  subst hF
  refine ⟨fun _ _ => trivial, ?_⟩
  rw [show (wideR r).round = r from rfl, hs]
  simp only [Oper.uponIn]
  refine ⟨fun q => by simp [wideR, Fence.wide] at q, (fun h => h : RoundIn Fence.wide _ _ _ _ _ _ _ _ _ → RoundIn (wideR r) _ _ _ _ _ _ _ _ _) (hR.mono ?_)⟩
  intro e w' hRe
  obtain ⟨v, rfl⟩ := hp e w' hRe
  rw [hN]
  exact hK _ _ (h v w' hRe)
theorem region_in (hF : F = wideR F.round) {id : Nat} {L : List Oper} (hd : noDefer L = true) (hL : ¬ LetsOut Q) {a : Act} {w : World} (h : wpList P L.toArray Q L a w) : (Code.region id L.toArray false).wpIn F n P Q a w :=
  wpIn_region_lit (wpListIn_of hF hd hL h)
theorem wpAnyIn_of (hF : F = wideR F.round) (hd : noDefer ops.toList = true) (hL : ¬ LetsOut Q) {md : Region.Mode} : ∀ (fuel : Nat) (b : Array Bool) (a : Act) (w : World), wpAny P md ops Q fuel b a w → wpAnyIn F n P md ops Q fuel b a w := by
  have hda : ∀ (i : Nat) (o : Oper), ops[i]? = some o → ∀ c, o.op ≠ .defer c := by
    intro i o ho c hc
    have hm : o ∈ ops.toList := Array.mem_toList_iff.2 (Array.mem_of_getElem? ho)
    generalize ops.toList = L at hd hm
    induction L with
    | nil => simp at hm
    | cons x r ih =>
      obtain ⟨h0, h1⟩ := noDefer_head hd
      rcases List.mem_cons.1 hm with rfl | hm
      · exact h0 c hc
      · exact ih h1 hm
  intro fuel
  induction fuel with
  | zero => exact fun b a w h => h
  | succ fuel ih =>
    intro b a w ⟨h0, h1⟩
    refine ⟨h0, fun i hi => ?_⟩
    have h2 := h1 i hi
    unfold wpOp at h2
    unfold wpOpIn
    cases ho : ops[i]? with
    | none => rw [ho] at h2; exact ih _ _ _ h2
    | some o =>
      rw [ho] at h2
      simp only at h2 ⊢
      split at h2
      · rename_i hw
        rw [if_pos hw]
        rcases h2 with h2 | ⟨_, h2⟩
        · exact Oper.wpIn_mono (fun a w => ih _ a w) (wpIn_of_wp_op hF (hda i o ho) h2)
        · exact absurd h2 hL
      · rename_i hw
        rw [if_neg hw]
        exact ⟨fun _ _ => by rw [hF]; trivial, ih _ _ _ h2⟩
theorem region_any_in (hF : F = wideR F.round) {id : Nat} {a : Act} {w : World} (hm : P.follows .mixedOrders = true) (hd : noDefer ops.toList = true) (hL : ¬ LetsOut Q)
    (h : wpAny P .any ops Q ops.size (Array.replicate ops.size false) a { w with drawn := w.drawn + 1 }) : (Code.region id ops true).wpIn F n P Q a w :=
  wpIn_region_any hm (wpAnyIn_of hF hd hL _ _ _ _ h)
open Go.Proofs.YtnllidgonghckaaGreatDoorW.PrintWords Go.Proofs.YtnllidgonghckaaGreatDoorW.PrintLast
theorem start_in (hF : F = wideR F.round) {S : World → Prop} {ds : List Nat} {id m : Nat} {a : Act} {w : World} (b : Array Bool) (hm : P.follows .mixedOrders = true) (hn : ops.size = m) (hl : Array.replicate m false = b) (hd : noDefer ops.toList = true) (hL : ¬ LetsOut Q) (hS : S w.drew)
    (h : S w.drew → wpAnyLast P .any ops Q S ds m b a w.drew) : (Code.region id ops true).wpIn F n P Q a w := by
  subst hn
  subst hl
  exact region_any_in hF hm hd hL (wpAny_of_last _ _ _ _ (h hS))
theorem ev_yield {oi : Oper} {N : Option Tmp} {a : Act} {w : World} {K : Act → World → Prop} (v : Value) (hw : Region.wanted oi (yielded ops a.tmps) = true) (hN : oi.dst = N) (hr : (execOp a.eval oi).run P w = .ok (.value v) w) (h : K (a.put N v) w) :
    if Region.wanted oi (yielded ops a.tmps) = true then Oper.wp P oi a w K Q else K (a.put N undef) w := by
  subst hN
  rw [if_pos hw]
  unfold Oper.wp
  rw [hr]
  exact h
theorem invoke_event {o : Oper} {rest : List Oper} {a : Act} {W : World} {N : Tmp} {f : FuncId} {name : String} {x : Operand} {as_ : Array Operand} {ts : Array TypeId} {V : Value} {args args' : Array Value} (hgd : o.guard = none) (hN : o.dst = some N) (ho : o.op = .call { callee := .invoke x name, args := as_, argTypes := ts })
    (hx : a.eval x = V) (hargs : as_.map a.eval = args) (hm : (callMethod V name args).run P W = .ok (.enter f args') W) (h : Calls P f args' W fun e w' => ∃ v, e = .returned v ∧ wpList P ops Q rest (a.put (some N) v) w') : wpList P ops Q (o :: rest) a W := by
  refine wpList_plain hgd fun K hK => ?_
  have h1 : (execOp a.eval o).run P W = .ok (.enter f args') W := by
    unfold execOp
    simp only [ho, resolve, hx, hargs, Sem.run_bind, Sem.run_pure, Result.andThen_ok, invoke]
    have e1 : (#[V] ++ args)[0]? = some V := by rw [Array.getElem?_append_left (by simp)]; rfl
    have e2 : (#[V] ++ args).extract 1 (#[V] ++ args).size = args := by
      apply Array.ext'
      simp
    rw [e1]
    show (callMethod V name ((#[V] ++ args).extract 1 (#[V] ++ args).size)).run P W = _
    rw [e2]
    exact hm
  unfold Oper.wp
  rw [h1]
  refine h.mono ?_
  rintro e w' ⟨v, rfl, hw⟩
  rw [hN]
  exact hK _ _ hw
theorem store_cell_event {o : Oper} {rest : List Oper} {a : Act} {W W1 : World} (hgd : o.guard = none) (hN : o.dst = none) (ty : TypeId) (x y : Operand) (ho : o.op = .store ty x y) {p : Addr} {v : Value}
    (hx : a.eval x = .pointer (some p)) (hy : a.eval y = v) (hr : (storeVar ty p v).run P W = .ok () W1) (h : ∀ w', w' = W1 → wpList P ops Q rest a w') : wpList P ops Q (o :: rest) a W := by
  refine wpList_plain hgd fun K hK => ?_
  unfold Oper.wp execOp
  simp only [ho, hx, hy, Instr.storeAt, Instr.sureAddr, Sem.run_bind, Sem.run_pure, Result.andThen_ok, hr]
  show K (a.put o.dst undef) _
  rw [hN]
  exact hK _ _ (h _ rfl)
theorem load_row_event {o : Oper} {rest : List Oper} {a : Act} {W : World} {N : Tmp} (hgd : o.guard = none) (hN : o.dst = some N) (ty : TypeId) (x : Operand) (ho : o.op = .load ty x) {g t : Nat} {cells : Array Value} {d : TypeDesc}
    (hg : W.heap[g]? = some (.cells cells t (0, 0))) (hx : a.eval x = .pointer (some ⟨g, 0, none⟩)) (hu : P.underlying ty = some d) (hd : (match d with | .struct _ | .array _ _ => true | _ => false) = true) (hi : (P.info? ty).map (·.size) = some cells.size) (h : wpList P ops Q rest (a.put (some N) (.agg cells)) W) : wpList P ops Q (o :: rest) a W := by
  refine wpList_plain hgd fun K hK => ?_
  unfold Oper.wp execOp
  simp only [ho, hx, Instr.loadAt, Instr.sureAddr, Sem.run_bind, Sem.run_pure, Result.andThen_ok, run_loadVar_row W g t ty cells (0, 0) d hg hu hd hi]
  show K (a.put o.dst (.agg cells)) _
  rw [hN]
  exact hK _ _ h
end Go.Proofs.YtnllidgonghckaaGreatDoor.X
namespace Go.Proofs.YtnllidgonghckaaGreatDoor.X
open Go.RowKit Go.Proofs.YtnllidgonghckaaGreatDoorW.PrintWords Go.Proofs.YtnllidgonghckaaGreatDoorW.PrintLast Go.Proofs.YtnllidgonghckaaGreatDoorW.PrintMore Go.Proofs.YtnllidgonghckaaGreatDoor.Dm
set_option linter.unusedVariables false
set_option linter.unusedSimpArgs false
def moonB (num den add : Int) : Bool := decide (1 ≤ den) && decide (den ≤ 1000) && (decide (29 * den ≤ num) && decide (num ≤ 30 * den)) && (decide (0 ≤ add) && decide (add ≤ num - 1))
theorem moonB_iff {num den add : Int} (h : moonB num den add = true) : 1 ≤ den ∧ den ≤ 1000 ∧ 29 * den ≤ num ∧ num ≤ 30 * den ∧ 0 ≤ add ∧ add ≤ num - 1 := by
  simpa [moonB, and_assoc] using h
def newMoon (num den add k : Int) : Int := (k * num + add) / den
def moonNo (num den add d : Int) : Int := ((d + 1) * den - 1 - add) / num
def ageOf (num den add d : Int) : Int := d - newMoon num den add (moonNo num den add d)
theorem newMoon_step {num den add : Int} (h : moonB num den add = true) (k : Int) : 29 ≤ newMoon num den add (k + 1) - newMoon num den add k ∧ newMoon num den add (k + 1) - newMoon num den add k ≤ 30 := by
  obtain ⟨h1, _, h3, h4, _, _⟩ := moonB_iff h
  unfold newMoon
  have e : (k + 1) * num + add = (k * num + add) + num := by rw [Int.add_mul, Int.one_mul]; omega
  rw [e]
  generalize k * num + add = x
  have hd : 0 < den := by omega
  have a1 : (x + 29 * den) / den = x / den + 29 := by rw [Int.add_mul_ediv_right _ _ (by omega)]
  have a2 : (x + 30 * den) / den = x / den + 30 := by rw [Int.add_mul_ediv_right _ _ (by omega)]
  have b1 : (x + 29 * den) / den ≤ (x + num) / den := Int.ediv_le_ediv hd (by omega)
  have b2 : (x + num) / den ≤ (x + 30 * den) / den := Int.ediv_le_ediv hd (by omega)
  omega
theorem newMoon_le {num den add : Int} (h : moonB num den add = true) (k d : Int) : newMoon num den add k ≤ d ↔ k * num ≤ (d + 1) * den - 1 - add := by
  obtain ⟨h1, _, _, _, _, _⟩ := moonB_iff h
  unfold newMoon
  have : (k * num + add) / den < d + 1 ↔ k * num + add < (d + 1) * den := Int.ediv_lt_iff_lt_mul (by omega)
  constructor
  · intro a
    have := this.1 (by omega)
    omega
  · intro a
    have := this.2 (by omega)
    omega
theorem moonNo_spec {num den add : Int} (h : moonB num den add = true) (d : Int) : newMoon num den add (moonNo num den add d) ≤ d ∧ d < newMoon num den add (moonNo num den add d + 1) := by
  obtain ⟨h1, _, h3, _, _, _⟩ := moonB_iff h
  have hn : 0 < num := by omega
  constructor
  · rw [newMoon_le h]
    exact Int.ediv_mul_le _ (by omega)
  · have := (newMoon_le h (moonNo num den add d + 1) d)
    have hlt : (d + 1) * den - 1 - add < (moonNo num den add d + 1) * num := by
      have := Int.lt_ediv_add_one_mul_self ((d + 1) * den - 1 - add) hn
      exact this
    omega
theorem moonNo_of {num den add : Int} (h : moonB num den add = true) (d k : Int) (h0 : newMoon num den add k ≤ d) (h1 : d < newMoon num den add (k + 1)) : moonNo num den add d = k := by
  obtain ⟨g1, _, g3, _, _, _⟩ := moonB_iff h
  have hn : 0 < num := by omega
  have a := (newMoon_le h k d).1 h0
  have b : ¬ (k + 1) * num ≤ (d + 1) * den - 1 - add := fun q => by have := (newMoon_le h (k + 1) d).2 q; omega
  unfold moonNo
  have c1 : k ≤ ((d + 1) * den - 1 - add) / num := (Int.le_ediv_iff_mul_le hn).2 a
  have c2 : ((d + 1) * den - 1 - add) / num < k + 1 := (Int.ediv_lt_iff_lt_mul hn).2 (by omega)
  omega
theorem ageOf_of {num den add : Int} (h : moonB num den add = true) (d k : Int) (h0 : newMoon num den add k ≤ d) (h1 : d < newMoon num den add (k + 1)) : ageOf num den add d = d - newMoon num den add k := by
  unfold ageOf
  rw [moonNo_of h d k h0 h1]
theorem ageOf_range {num den add : Int} (h : moonB num den add = true) (d : Int) : 0 ≤ ageOf num den add d ∧ ageOf num den add d ≤ 29 := by
  have := moonNo_spec h d
  have := newMoon_step h (moonNo num den add d)
  unfold ageOf
  omega
theorem ageOf_next {num den add : Int} (h : moonB num den add = true) (d : Int) : ageOf num den add (d + 1) = ageOf num den add d + 1 ∨ (ageOf num den add (d + 1) = 0 ∧ 28 ≤ ageOf num den add d) := by
  have a := moonNo_spec h d
  have s := newMoon_step h (moonNo num den add d)
  have s2 := newMoon_step h (moonNo num den add d + 1)
  have e : ageOf num den add d = d - newMoon num den add (moonNo num den add d) := rfl
  by_cases c : d + 1 < newMoon num den add (moonNo num den add d + 1)
  · rw [ageOf_of h (d + 1) (moonNo num den add d) (by omega) c]
    omega
  · rw [ageOf_of h (d + 1) (moonNo num den add d + 1) (by omega) (by omega)]
    omega
theorem ageOf_add {num den add : Int} (h : moonB num den add = true) (d : Int) : ∀ j : Nat, ageOf num den add d + j ≤ 28 → ageOf num den add (d + j) = ageOf num den add d + j
  | 0, _ => by simp
  | j + 1, hj => by
    have ih := ageOf_add h d j (by omega)
    have n := ageOf_next h (d + j)
    have e : d + ((j + 1 : Nat) : Int) = d + j + 1 := by omega
    rw [e]
    omega
theorem full_comes {num den add : Int} (h : moonB num den add = true) (d : Int) : ∃ j : Nat, j ≤ 43 ∧ ageOf num den add (d + j) = 13 := by
  have r := ageOf_range h d
  by_cases c : ageOf num den add d ≤ 13
  · refine ⟨(13 - ageOf num den add d).toNat, by omega, ?_⟩
    rw [ageOf_add h d _ (by omega)]
    omega
  · have a := moonNo_spec h d
    have s := newMoon_step h (moonNo num den add d)
    have s2 := newMoon_step h (moonNo num den add d + 1)
    have e : ageOf num den add d = d - newMoon num den add (moonNo num den add d) := rfl
    have z : ageOf num den add (newMoon num den add (moonNo num den add d + 1)) = 0 := by
      rw [ageOf_of h _ (moonNo num den add d + 1) (Int.le_refl _) (by omega)]
      omega
    have f := ageOf_add h (newMoon num den add (moonNo num den add d + 1)) 13 (by omega)
    refine ⟨(newMoon num den add (moonNo num den add d + 1) + 13 - d).toNat, by omega, ?_⟩
    have e2 : d + ((newMoon num den add (moonNo num den add d + 1) + 13 - d).toNat : Int) = newMoon num den add (moonNo num den add d + 1) + (13 : Nat) := by omega
    rw [e2, f, z]
    rfl
def fullIn (num den add : Int) : Nat → Int → Nat
  | 0, _ => 0
  | k + 1, d => if ageOf num den add d = 13 then 0 else fullIn num den add k (d + 1) + 1
theorem fullIn_spec {num den add : Int} : ∀ (k : Nat) (d : Int), (∃ j : Nat, j < k ∧ ageOf num den add (d + j) = 13) → ageOf num den add (d + fullIn num den add k d) = 13 ∧ (∀ i : Nat, i < fullIn num den add k d → ageOf num den add (d + i) ≠ 13) ∧ fullIn num den add k d < k
  | 0, d, ⟨j, hj, _⟩ => by omega
  | k + 1, d, ⟨j, hj, ha⟩ => by
    unfold fullIn
    by_cases c : ageOf num den add d = 13
    · rw [if_pos c]
      exact ⟨by simpa using c, fun i hi => by omega, by omega⟩
    · rw [if_neg c]
      have hj0 : j ≠ 0 := fun e => by rw [e] at ha; exact c (by simpa using ha)
      obtain ⟨a1, a2, a3⟩ := fullIn_spec k (d + 1) ⟨j - 1, by omega, by rw [← ha]; congr 1; omega⟩
      refine ⟨by rw [← a1]; congr 1; omega, fun i hi => ?_, by omega⟩
      rcases Nat.eq_zero_or_pos i with rfl | hp
      · simpa using c
      · have := a2 (i - 1) (by omega)
        intro q
        apply this
        rw [← q]
        congr 1
        omega
def fullOf (num den add d : Int) : Int := d + fullIn num den add 44 d
theorem fullOf_spec {num den add : Int} (h : moonB num den add = true) (d : Int) : d ≤ fullOf num den add d ∧ fullOf num den add d ≤ d + 43 ∧ ageOf num den add (fullOf num den add d) = 13 ∧ ∀ t, d ≤ t → t < fullOf num den add d → ageOf num den add t ≠ 13 := by
  obtain ⟨j, hj, ha⟩ := full_comes h d
  obtain ⟨a1, a2, a3⟩ := fullIn_spec 44 d ⟨j, by omega, ha⟩
  refine ⟨by unfold fullOf; omega, by unfold fullOf; omega, a1, fun t h0 h1 => ?_⟩
  have := a2 (t - d).toNat (by unfold fullOf at h1; omega)
  intro q
  apply this
  rw [← q]
  congr 1
  omega
theorem tdiv_floor (a b : Int) (hb : 0 < b) : (if Int.tdiv a b * b > a then Int.tdiv a b - 1 else Int.tdiv a b) = a / b := by
  rcases Int.lt_or_le a 0 with h | h
  · have e := Int.tdiv_eq_ediv (a := a) (b := b)
    have hd := Int.ediv_mul_le a (b := b) (by omega)
    by_cases hdv : b ∣ a
    · have : Int.tdiv a b = a / b := by rw [e, if_pos (Or.inr hdv)]; omega
      rw [this, Int.ediv_mul_cancel hdv, if_neg (by omega)]
    · have e2 : Int.tdiv a b = a / b + 1 := by
        rw [e, if_neg (fun q => q.elim (fun q => by omega) hdv), Int.sign_eq_one_of_pos hb]
      have := Int.lt_ediv_add_one_mul_self a hb
      rw [e2, if_pos (by omega)]
      omega
  · rw [Int.tdiv_eq_ediv_of_nonneg h, if_neg (by have := Int.ediv_mul_le a (b := b) (by omega); omega)]
theorem down_f (a b : Int) (hb : 0 < b) (ha : -1000000000000000 ≤ a ∧ a ≤ 1000000000000000) : dial_down.f a b = some (a / b) := by
  have hq : -1000000000000000 ≤ Int.tdiv a b ∧ Int.tdiv a b ≤ 1000000000000000 := by
    have h1 := Int.natAbs_tdiv_le_natAbs a b
    omega
  have hm : -2000000000000000 ≤ Int.tdiv a b * b ∧ Int.tdiv a b * b ≤ 2000000000000000 := by
    have h1 : (Int.tdiv a b * b).natAbs ≤ a.natAbs := by
      rw [Int.natAbs_mul, Int.natAbs_tdiv]
      exact Nat.div_mul_le_self _ _
    omega
  unfold dial_down.f
  rw [if_neg (by omega), wrap_of (Int.tdiv a b) (by omega) (by omega), wrap_of (Int.tdiv a b * b) (by omega) (by omega), wrap_of (Int.tdiv a b - 1) (by omega) (by omega), ← tdiv_floor a b hb]
  split <;> rfl
theorem moon_bd {num den add : Int} (h : moonB num den add = true) (d : Int) (h0 : 0 ≤ d) (h1 : d ≤ 100000000) : 0 ≤ (d + 1) * den ∧ (d + 1) * den ≤ 100000001000 := by
  obtain ⟨g1, g2, _, _, _, _⟩ := moonB_iff h
  constructor
  · exact Int.mul_nonneg (by omega) (by omega)
  · have := Int.mul_le_mul (show d + 1 ≤ 100000001 by omega) g2 (by omega) (by omega)
    omega
theorem age_f {num den add : Int} (h : moonB num den add = true) (d : Int) (h0 : 0 ≤ d) (h1 : d ≤ 100000000) : dial_age.f num den add d = some (ageOf num den add d) := by
  obtain ⟨g1, g2, g3, g4, g5, g6⟩ := moonB_iff h
  have b := moon_bd h d h0 h1
  have n := moonNo_spec h d
  have s := newMoon_step h (moonNo num den add d)
  have kl := (newMoon_le h (moonNo num den add d) d).1 n.1
  have ku : ¬ (moonNo num den add d + 1) * num ≤ (d + 1) * den - 1 - add := fun q => by have := (newMoon_le h (moonNo num den add d + 1) d).2 q; omega
  rw [Int.add_mul, Int.one_mul] at ku
  have hk : -30001 ≤ moonNo num den add d ∧ moonNo num den add d ≤ 100000001000 := by
    unfold moonNo
    have hn : 0 < num := by omega
    constructor
    · have : -30001 < ((d + 1) * den - 1 - add) / num + 1 := by
        have := (Int.le_ediv_iff_mul_le (a := -30001) (b := (d + 1) * den - 1 - add) hn).2 (by have := Int.mul_le_mul_of_nonneg_left (show 1 ≤ num by omega) (show (0:Int) ≤ 30001 by omega); omega)
        omega
      omega
    · have := (Int.ediv_lt_iff_lt_mul (a := (d + 1) * den - 1 - add) (b := 100000001001) hn).2 (by have := Int.mul_le_mul_of_nonneg_left (show 1 ≤ num by omega) (show (0:Int) ≤ 100000001001 by omega); omega)
      omega
  unfold dial_age.f
  rw [wrap_of (d + 1) (by omega) (by omega), wrap_of ((d + 1) * den) (by omega) (by omega), wrap_of (_ - 1) (by omega) (by omega), wrap_of (_ - add) (by omega) (by omega), down_f _ num (by omega) (by omega), Option.bind_some]
  show (dial_down.f (wrap64 (wrap64 (moonNo num den add d * num) + add)) den).bind _ = _
  rw [wrap_of (moonNo num den add d * num) (by omega) (by omega), wrap_of (_ + add) (by omega) (by omega), down_f _ den (by omega) (by omega), Option.bind_some]
  show some (wrap64 (d - newMoon num den add (moonNo num den add d))) = _
  rw [wrap_of _ (by omega) (by omega)]
  rfl
theorem isMoon_f (num den add : Int) : dial_isMoon.f num den add = some (moonB num den add) := by
  unfold dial_isMoon.f moonB
  rw [in_f, Option.bind_some]
  cases h1 : (decide ((1 : Int) ≤ den) && decide (den ≤ 1000)) with
  | false => simp
  | true =>
    have h1' : 1 ≤ den ∧ den ≤ 1000 := by simpa using h1
    rw [if_pos rfl, wrap_of (29 * den) (by omega) (by omega), wrap_of (30 * den) (by omega) (by omega), in_f, Option.bind_some, Bool.true_and]
    cases h2 : (decide (29 * den ≤ num) && decide (num ≤ 30 * den)) with
    | false => simp
    | true =>
      have h2' : 29 * den ≤ num ∧ num ≤ 30 * den := by simpa using h2
      rw [if_pos rfl, wrap_of (num - 1) (by omega) (by omega), in_f, Option.bind_some, Bool.true_and]
end Go.Proofs.YtnllidgonghckaaGreatDoor.X
namespace Go.Proofs.YtnllidgonghckaaGreatDoor.X
open Go.RowKit Go.Proofs.YtnllidgonghckaaGreatDoorW.PrintWords Go.Proofs.YtnllidgonghckaaGreatDoorW.PrintLast Go.Proofs.YtnllidgonghckaaGreatDoorW.PrintMore Go.Proofs.YtnllidgonghckaaGreatDoor.Dm
set_option linter.unusedVariables false
set_option linter.unusedSimpArgs false
attribute [local go_sem] max2_int min2_int max_two min_two max_three min_three max_four min_four
set_option maxHeartbeats 8000000 in
set_option maxRecDepth 100000 in
theorem date_away_true {ep : Int} {A : Option Addr} {c : Nat} {cs F : List Int} {a5 : Addr} {c5 mb : Nat} {w W : World} (m0 m1 m2 : Int) (h : Opd ep A c cs F a5 c5 mb w W) (day pos : Int) (hbs : slices_BinarySearch_int_int.f 14 F day = some (pos, true)) (hp : 0 ≤ pos ∧ pos ≤ 4002) (hy : yearB pos = false) :
    Calls Tryz.prog 64 #[.agg #[.int .i64 ep, .slice A cs.length c, .int .i64 m0, .int .i64 m1, .int .i64 m2, .slice (some a5) F.length c5, .map (some mb)], .int .i64 day] W fun e w' => e = .panicked [{ v := .iface 121 (.agg #[.int .i64 day]), recovered := false }] ∧ Below W.heap.size W w' := by
  have hu38 := Tryz.underlying38
  have hu83 := Tryz.underlying83
  have hu121 := Tryz.underlying121
  have OP := Aside0.mk h
  have HBS := Aside0.mk hbs
  have HY := Aside0.mk hy
  have HW := Aside0.mk (Below.refl W.heap.size W)
  have wp1 : IntKind.i64.wrap (pos - 1) = pos - 1 := (i64_w _).trans (wrap_of (pos - 1) (by omega) (by omega))
  clear h hbs hy
  go_enter Tryz.func64, Tryz.ntmps64
  go_wp2_with (first
    | ((with_reducible refine zG 2 rfl ?_); refine zBox 2 #[.int .i64 ep, .slice A cs.length c, .int .i64 m0, .int .i64 m1, .int .i64 m2, .slice (some a5) F.length c5, .map (some mb)] 83 ?_; intro g1 hg w1 hbox hb; have GEg1 := zge hg HW; replace HW := zW HW hb; have BKg1 := Aside0.mk hbox; clear hb hbox hg)
    | ((with_reducible refine zG 4 rfl ?_); refine zBox 4 #[.int .i64 0, .int .i64 0, .int .i64 0] 38 ?_; intro g2 hg w2 hbox hb; have GEg2 := zge hg HW; replace HW := zW HW hb; replace BKg1 := zb BKg1 hb; have BKg2 := Aside0.mk hbox; clear hb hbox hg; have za0 := zC BKg1)
    | (go_at_call 90; (with_reducible refine (slices_BinarySearch_int_int.calls 14 (some a5) c5 F day pos true _ (OP.out.below HW.out).fr.1 (OP.out.below HW.out).fr.2 HBS.out).mono ?_); rintro e w3 ⟨rfl, hb⟩; replace HW := Aside0.mk (below_thenN HW.out (by first | exact hb | exact hb.below)); clear hb BKg1 BKg2)
    | (go_at_call 47; (with_reducible refine (isYear_l pos false HY.out _).mono ?_); rintro e w4 ⟨rfl, hb⟩; replace HW := zW HW hb; clear hb))
  exact ⟨rfl, rfl, HW.out⟩
set_option maxHeartbeats 8000000 in
set_option maxRecDepth 100000 in
theorem date_away_false {ep : Int} {A : Option Addr} {c : Nat} {cs F : List Int} {a5 : Addr} {c5 mb : Nat} {w W : World} (m0 m1 m2 : Int) (h : Opd ep A c cs F a5 c5 mb w W) (day pos : Int) (hbs : slices_BinarySearch_int_int.f 14 F day = some (pos, false)) (hp : 0 ≤ pos ∧ pos ≤ 4002) (hy : yearB (pos - 1) = false) :
    Calls Tryz.prog 64 #[.agg #[.int .i64 ep, .slice A cs.length c, .int .i64 m0, .int .i64 m1, .int .i64 m2, .slice (some a5) F.length c5, .map (some mb)], .int .i64 day] W fun e w' => e = .panicked [{ v := .iface 121 (.agg #[.int .i64 day]), recovered := false }] ∧ Below W.heap.size W w' := by
  have hu38 := Tryz.underlying38
  have hu83 := Tryz.underlying83
  have hu121 := Tryz.underlying121
  have OP := Aside0.mk h
  have HBS := Aside0.mk hbs
  have HY := Aside0.mk hy
  have HW := Aside0.mk (Below.refl W.heap.size W)
  have wp1 : IntKind.i64.wrap (pos - 1) = pos - 1 := (i64_w _).trans (wrap_of (pos - 1) (by omega) (by omega))
  clear h hbs hy
  go_enter Tryz.func64, Tryz.ntmps64
  go_wp2_with (first
    | ((with_reducible refine zG 2 rfl ?_); refine zBox 2 #[.int .i64 ep, .slice A cs.length c, .int .i64 m0, .int .i64 m1, .int .i64 m2, .slice (some a5) F.length c5, .map (some mb)] 83 ?_; intro g1 hg w1 hbox hb; have GEg1 := zge hg HW; replace HW := zW HW hb; have BKg1 := Aside0.mk hbox; clear hb hbox hg)
    | ((with_reducible refine zG 4 rfl ?_); refine zBox 4 #[.int .i64 0, .int .i64 0, .int .i64 0] 38 ?_; intro g2 hg w2 hbox hb; have GEg2 := zge hg HW; replace HW := zW HW hb; replace BKg1 := zb BKg1 hb; have BKg2 := Aside0.mk hbox; clear hb hbox hg; have za0 := zC BKg1)
    | (go_at_call 90; (with_reducible refine (slices_BinarySearch_int_int.calls 14 (some a5) c5 F day pos false _ (OP.out.below HW.out).fr.1 (OP.out.below HW.out).fr.2 HBS.out).mono ?_); rintro e w3 ⟨rfl, hb⟩; replace HW := Aside0.mk (below_thenN HW.out (by first | exact hb | exact hb.below)); clear hb BKg1 BKg2)
    | (go_at_call 47; (with_reducible refine (isYear_l (pos - 1) false HY.out _).mono ?_); rintro e w4 ⟨rfl, hb⟩; replace HW := zW HW hb; clear hb))
  exact ⟨rfl, rfl, HW.out⟩
end Go.Proofs.YtnllidgonghckaaGreatDoor.X
namespace Go.Proofs.YtnllidgonghckaaGreatDoor.X
open Go.RowKit Go.Proofs.YtnllidgonghckaaGreatDoorW.PrintWords Go.Proofs.YtnllidgonghckaaGreatDoor.Dm
set_option linter.unusedVariables false
theorem less_f (a b : Int) : cmp_Less_int.f a b = some (decide (a < b)) := by
  unfold cmp_Less_int.f cmp_isNaN_int.f
  simp
theorem nan_f (a : Int) : slices_isNaN_int.f a = some false := by
  unfold slices_isNaN_int.f
  simp
def Place (l : List Int) (x pos : Int) : Prop := 0 ≤ pos ∧ pos ≤ l.length ∧ (∀ t, 0 ≤ t → t < pos → rd l t < x) ∧ (∀ t, pos ≤ t → t < l.length → x ≤ rd l t)
theorem bs_l (l : List Int) (x : Int) (hn : (l.length : Int) ≤ 1000000) (hs : ∀ s t, 0 ≤ s → s ≤ t → t < (l.length : Int) → rd l s ≤ rd l t) : ∀ (k : Nat) (i j : Int), 0 ≤ i → i ≤ j → j ≤ l.length → (∀ t, 0 ≤ t → t < i → rd l t < x) → (∀ t, j ≤ t → t < l.length → x ≤ rd l t) → j - i < 2 ^ k →
    ∃ pos, slices_BinarySearch_int_int.l0 (k + 1) l x l.length i j = some (pos, decide (pos < (l.length : Int) ∧ rd l pos = x)) ∧ Place l x pos
  | k, i, j, hi, hij, hj, hlo, hhi, hk => by
    unfold slices_BinarySearch_int_int.l0
    by_cases h : i < j
    · have e0 : wrap64 (i + j) = i + j := wrap_of _ (by omega) (by omega)
      have e1 : IntKind.u64.wrap (i + j) = i + j := by
        unfold IntKind.wrap
        simp [IntKind.bits, IntKind.signed]
        omega
      have e2 : wrap64 ((i + j) / 2) = (i + j) / 2 := wrap_of _ (by omega) (by omega)
      rw [if_pos h, e0, e1, e2, if_pos (by omega), if_pos (by omega), less_f, Option.bind_some]
      cases k with
      | zero => simp at hk; omega
      | succ k =>
        have hk2 : (2 : Int) ^ (k + 1) = 2 * 2 ^ k := by rw [Int.pow_succ]; omega
        rw [hk2] at hk
        by_cases hc : rd l ((i + j) / 2) < x
        · rw [decide_eq_true hc, if_pos rfl, wrap_of ((i + j) / 2 + 1) (by omega) (by omega)]
          refine bs_l l x hn hs k ((i + j) / 2 + 1) j (by omega) (by omega) hj (fun t h0 h1 => ?_) hhi (by omega)
          exact Int.lt_of_le_of_lt (hs t ((i + j) / 2) h0 (by omega) (by omega)) hc
        · rw [decide_eq_false hc, if_neg (by simp)]
          refine bs_l l x hn hs k i ((i + j) / 2) hi (by omega) (by omega) hlo (fun t h0 h1 => ?_) (by omega)
          exact Int.le_trans (Int.not_lt.mp hc) (hs _ t (by omega) h0 h1)
    · have hij' : i = j := by omega
      subst hij'
      rw [if_neg h]
      refine ⟨i, ?_, hi, hj, hlo, hhi⟩
      by_cases hl : i < (l.length : Int)
      · rw [if_pos hl, if_pos hi, if_pos hl]
        by_cases hx : rd l i = x
        · rw [if_pos hx, decide_eq_true ⟨hl, hx⟩]
        · rw [if_neg hx, nan_f, Option.bind_some, if_neg (by simp), decide_eq_false (fun hh => hx hh.2)]
      · rw [if_neg hl, decide_eq_false (fun hh => hl hh.1)]
theorem bs_f (k : Nat) (l : List Int) (x : Int) (hn : (l.length : Int) < 2 ^ k) (hn2 : (l.length : Int) ≤ 1000000) (hs : ∀ s t, 0 ≤ s → s ≤ t → t < (l.length : Int) → rd l s ≤ rd l t) :
    ∃ pos, slices_BinarySearch_int_int.f (k + 1) l x = some (pos, decide (pos < (l.length : Int) ∧ rd l pos = x)) ∧ Place l x pos :=
  bs_l l x hn2 hs k 0 l.length (by omega) (by omega) (by omega) (fun t h0 h1 => by omega) (fun t h0 h1 => by omega) (by omega)
end Go.Proofs.YtnllidgonghckaaGreatDoor.X
namespace Go.Proofs.YtnllidgonghckaaGreatDoor.X
open Go.RowKit Go.Proofs.YtnllidgonghckaaGreatDoorW.PrintWords Go.Proofs.YtnllidgonghckaaGreatDoor.Dm
set_option linter.unusedVariables false
def yearTo (ep : Int) (cs : List Int) (day : Int) : Nat → Int
  | 0 => -1
  | n + 1 => if fday ep cs n ≤ day then n else yearTo ep cs day n
theorem yearTo_spec (ep : Int) (cs : List Int) (day : Int) : ∀ n, -1 ≤ yearTo ep cs day n ∧ yearTo ep cs day n < n ∧ (0 ≤ yearTo ep cs day n → fday ep cs (yearTo ep cs day n).toNat ≤ day) ∧ (∀ t : Nat, yearTo ep cs day n < t → t < n → day < fday ep cs t)
  | 0 => ⟨by simp [yearTo], by simp [yearTo], by simp [yearTo], fun t h1 h2 => by omega⟩
  | n + 1 => by
    obtain ⟨h1, h2, h3, h4⟩ := yearTo_spec ep cs day n
    unfold yearTo
    by_cases h : fday ep cs n ≤ day
    · rw [if_pos h]
      exact ⟨by omega, by omega, fun _ => by simpa using h, fun t a b => by omega⟩
    · rw [if_neg h]
      refine ⟨h1, by omega, h3, fun t a b => ?_⟩
      rcases Nat.lt_or_ge t n with c | c
      · exact h4 t a c
      · have : t = n := by omega
        subst this
        omega
def yearOf (ep : Int) (cs : List Int) (day : Int) : Int := yearTo ep cs day 4002
theorem fday_succ (ep : Int) (cs : List Int) (n : Nat) : fday ep cs (n + 1) = fday ep cs n + ylen cs n := rfl
theorem fday_lt (ep : Int) (cs : List Int) (n : Nat) : fday ep cs n < fday ep cs (n + 1) := by
  have := ylen_range cs n
  rw [fday_succ]
  omega
theorem fday_mono (ep : Int) (cs : List Int) : ∀ (m n : Nat), m ≤ n → fday ep cs m ≤ fday ep cs n
  | m, 0, h => by
    have : m = 0 := by omega
    subst this
    exact Int.le_refl _
  | m, n + 1, h => by
    rcases Nat.lt_or_ge m (n + 1) with c | c
    · have := fday_mono ep cs m n (by omega)
      have := fday_lt ep cs n
      omega
    · have : m = n + 1 := by omega
      subst this
      exact Int.le_refl _
theorem fday_strict (ep : Int) (cs : List Int) (m n : Nat) (h : m < n) : fday ep cs m < fday ep cs n := by
  have := fday_mono ep cs (m + 1) n h
  have := fday_lt ep cs m
  omega
theorem firsts_sorted (ep : Int) (cs : List Int) (s t : Int) (h0 : 0 ≤ s) (h1 : s ≤ t) (h2 : t < ((firsts ep cs).length : Int)) : rd (firsts ep cs) s ≤ rd (firsts ep cs) t := by
  rw [firsts_length] at h2
  rw [rd_firsts ep cs s h0 (by omega), rd_firsts ep cs t (by omega) (by omega)]
  exact fday_mono ep cs _ _ (by omega)
theorem search_year (ep : Int) (cs : List Int) (day : Int) : ∃ pos, slices_BinarySearch_int_int.f 14 (firsts ep cs) day = some (pos, decide (pos < ((firsts ep cs).length : Int) ∧ rd (firsts ep cs) pos = day)) ∧ 0 ≤ pos ∧ pos ≤ 4002 ∧
    (if (decide (pos < ((firsts ep cs).length : Int) ∧ rd (firsts ep cs) pos = day)) = true then pos else pos - 1) = yearOf ep cs day := by
  obtain ⟨pos, hf, h0, h1, h2, h3⟩ := bs_f 13 (firsts ep cs) day (by rw [firsts_length]; decide) (by rw [firsts_length]; decide) (firsts_sorted ep cs)
  have hl : ((firsts ep cs).length : Int) = 4002 := by rw [firsts_length]; rfl
  refine ⟨pos, hf, h0, by omega, ?_⟩
  obtain ⟨y1, y2, y3, y4⟩ := yearTo_spec ep cs day 4002
  have hy : yearOf ep cs day = yearTo ep cs day 4002 := rfl
  rw [hy]
  generalize yearTo ep cs day 4002 = Y at *
  have lo : ∀ t : Int, 0 ≤ t → t < pos → fday ep cs t.toNat < day := fun t a b => by have := h2 t a b; rwa [rd_firsts ep cs t a (by omega)] at this
  have hi : ∀ t : Int, pos ≤ t → t < 4002 → day ≤ fday ep cs t.toNat := fun t a b => by have := h3 t a (by omega); rwa [rd_firsts ep cs t (by omega) (by omega)] at this
  have up : pos - 1 ≤ Y := by
    rcases Int.lt_or_le Y (pos - 1) with c | c
    · have a := lo (pos - 1) (by omega) (by omega)
      have b := y4 (pos - 1).toNat (by omega) (by omega)
      omega
    · exact c
  by_cases hc : pos < ((firsts ep cs).length : Int) ∧ rd (firsts ep cs) pos = day
  · rw [decide_eq_true hc, if_pos rfl]
    obtain ⟨c1, c2⟩ := hc
    rw [rd_firsts ep cs pos h0 (by omega)] at c2
    rcases Int.lt_trichotomy pos Y with c | c | c
    · have a := y3 (by omega)
      have b := fday_strict ep cs pos.toNat Y.toNat (by omega)
      omega
    · exact c
    · have b := y4 pos.toNat (by omega) (by omega)
      omega
  · rw [decide_eq_false hc, if_neg (by simp)]
    rcases Int.lt_or_le (pos - 1) Y with c | c
    · have a := y3 (by omega)
      have b := hi Y (by omega) (by omega)
      have e : fday ep cs Y.toNat = day := by omega
      exfalso
      apply hc
      have hp : pos = Y := by
        rcases Int.lt_or_le pos Y with d | d
        · have f := hi pos (Int.le_refl _) (by omega)
          have g := fday_strict ep cs pos.toNat Y.toNat (by omega)
          omega
        · omega
      rw [hp]
      exact ⟨by omega, by rw [rd_firsts ep cs Y (by omega) (by omega)]; exact e⟩
    · omega
def mloop : List Int → Int → Int → Option (Int × Int)
  | [], _, _ => none
  | n :: r, left, i => if left < n then some (i + 1, left + 1) else mloop r (left - n) (i + 1)
def dateOf (ep : Int) (cs : List Int) (day : Int) : Option (Int × Int × Int) :=
  if yearB (yearOf ep cs day) = true then (mloop (mlist (leapB cs (yearOf ep cs day))) (day - fday ep cs (yearOf ep cs day).toNat) 0).map (fun p => (yearOf ep cs day, p.1, p.2)) else none
theorem l0_loop : ∀ (l : List Int) (k : Nat) (x5 left : Int) (i : Nat) (L : List Int), L.drop i = l → l.length < k → L.length ≤ 12 → (∀ x ∈ l, 0 ≤ x ∧ x ≤ 1000) → 0 ≤ left ∧ left ≤ 10000000 →
    dial_opened_date.l0 k x5 left L L.length i = (mloop l left i).map (fun p => (x5, p.1, p.2))
  | [], k, x5, left, i, L, hd, hk, h12, hm, hl => by
    obtain ⟨k, rfl⟩ : ∃ j, k = j + 1 := ⟨k - 1, by simp at hk; omega⟩
    have hi : L.length ≤ i := by
      have := congrArg List.length hd
      simp at this
      omega
    unfold dial_opened_date.l0 mloop
    rw [if_neg (by omega)]
    rfl
  | n :: r, k, x5, left, i, L, hd, hk, h12, hm, hl => by
    obtain ⟨k, rfl⟩ : ∃ j, k = j + 1 := ⟨k - 1, by simp at hk; omega⟩
    have hi : i < L.length := by
      have := congrArg List.length hd
      simp at this
      omega
    have hdr := List.drop_eq_getElem_cons hi
    rw [hd] at hdr
    injection hdr with h1 h2
    have hr : rd L (i : Int) = n := by
      unfold rd
      rw [List.getD_eq_getElem?_getD, Int.toNat_natCast, List.getElem?_eq_getElem hi, Option.getD_some, h1]
    have hn := hm n List.mem_cons_self
    unfold dial_opened_date.l0 mloop
    rw [if_pos (by omega), if_pos (by omega), if_pos (by omega), hr]
    by_cases c : left < n
    · rw [if_pos c, if_pos c, wrap_of ((i : Int) + 1) (by omega) (by omega), wrap_of (left + 1) (by omega) (by omega)]
      rfl
    · rw [if_neg c, if_neg c, wrap_of (left - n) (by omega) (by omega), wrap_of ((i : Int) + 1) (by omega) (by omega)]
      have ih := l0_loop r k x5 (left - n) (i + 1) L h2.symm (by simp at hk; omega) h12 (fun x hx => hm x (List.mem_cons_of_mem _ hx)) (by omega)
      simpa using ih
theorem mloop_some : ∀ (l : List Int) (left i : Int), 0 ≤ left → left < l.foldl (· + ·) 0 → ∃ p, mloop l left i = some p
  | [], left, i, h0, h => by simp at h; omega
  | n :: r, left, i, h0, h => by
    unfold mloop
    by_cases c : left < n
    · rw [if_pos c]; exact ⟨_, rfl⟩
    · rw [if_neg c]
      refine mloop_some r (left - n) (i + 1) (by omega) ?_
      rw [List.foldl_cons] at h
      have key : ∀ (l : List Int) (a : Int), l.foldl (· + ·) a = a + l.foldl (· + ·) 0 := fun l => by
        induction l with
        | nil => intro a; simp
        | cons x r ih => intro a; rw [List.foldl_cons, List.foldl_cons, ih (a + x), ih (0 + x)]; omega
      rw [key] at h
      omega
theorem yearOf_spec (ep : Int) (cs : List Int) (day : Int) (h : yearB (yearOf ep cs day) = true) : fday ep cs (yearOf ep cs day).toNat ≤ day ∧ day < fday ep cs (yearOf ep cs day).toNat + ylen cs (yearOf ep cs day) := by
  have hy := yearB_iff h
  obtain ⟨y1, y2, y3, y4⟩ := yearTo_spec ep cs day 4002
  have e : yearOf ep cs day = yearTo ep cs day 4002 := rfl
  rw [e] at hy ⊢
  refine ⟨y3 hy.1, ?_⟩
  have := y4 ((yearTo ep cs day 4002).toNat + 1) (by omega) (by omega)
  rw [fday_succ, show (((yearTo ep cs day 4002).toNat : Nat) : Int) = yearTo ep cs day 4002 by omega] at this
  exact this
theorem dateOf_some (ep : Int) (cs : List Int) (day : Int) (h : yearB (yearOf ep cs day) = true) : ∃ p, dateOf ep cs day = some p := by
  obtain ⟨h1, h2⟩ := yearOf_spec ep cs day h
  obtain ⟨p, hp⟩ := mloop_some (mlist (leapB cs (yearOf ep cs day))) (day - fday ep cs (yearOf ep cs day).toNat) 0 (by omega) (by rw [mlist_sum]; unfold ylen at h2; omega)
  exact ⟨_, by unfold dateOf; rw [if_pos h, hp]; rfl⟩
theorem date_f (ep : Int) (cs : List Int) (m0 m1 m2 : Int) (mb : Option Nat) (day y mo d : Int) (he : 0 ≤ ep ∧ ep ≤ 1000) (hnz : ∀ n ∈ cs, n ≠ 0) (hl : cs.length ≤ 3) (h : dateOf ep cs day = some (y, mo, d)) :
    dial_opened_date.f 14 ep cs m0 m1 m2 (firsts ep cs) mb day = some (y, mo, d) := by
  obtain ⟨pos, hf, p0, p1, hy⟩ := search_year ep cs day
  have hyb : yearB (yearOf ep cs day) = true := by
    unfold dateOf at h
    split at h
    · assumption
    · simp at h
  have hyr := yearB_iff hyb
  obtain ⟨s1, s2⟩ := yearOf_spec ep cs day hyb
  have hq := fday_bd ep cs (yearOf ep cs day).toNat he (by omega)
  have hyl := ylen_range cs (yearOf ep cs day)
  have key : ∀ k, k = 13 → dial_opened_date.j0 (k + 1) day (yearOf ep cs day) ep cs m0 m1 m2 (firsts ep cs) mb = some (y, mo, d) := by
    intro k hk
    rw [dial_opened_date.j0, isYear_f, Option.bind_some, if_pos hyb, if_pos hyr.1, if_pos (by rw [firsts_length]; omega), leap_f k ep cs m0 m1 m2 _ mb _ hnz (by omega) (by omega), Option.bind_some, months_f, Option.bind_some, rd_firsts ep cs _ hyr.1 (by omega), wrap_of (day - _) (by omega) (by omega)]
    have := l0_loop (mlist (leapB cs (yearOf ep cs day))) k (yearOf ep cs day) (day - fday ep cs (yearOf ep cs day).toNat) 0 (mlist (leapB cs (yearOf ep cs day))) rfl (by rw [mlist_length]; omega) (by rw [mlist_length]; omega) (fun x hx => mlist_mem _ x hx) (by omega)
    simp only [Int.ofNat_zero] at this
    refine Eq.trans this ?_
    unfold dateOf at h
    rw [if_pos hyb] at h
    exact h
  unfold dial_opened_date.f
  rw [hf, Option.bind_some]
  simp only
  split at hy
  · rename_i hc
    rw [if_pos hc, hy]
    exact key 13 rfl
  · rename_i hc
    rw [if_neg hc, wrap_of (pos - 1) (by omega) (by omega), hy]
    exact key 13 rfl
theorem date_b {ep : Int} {A : Option Addr} {c : Nat} {cs F : List Int} {a5 : Addr} {c5 mb : Nat} {w W : World} (m0 m1 m2 : Int) (h : Opd ep A c cs F a5 c5 mb w W) (day y mo d : Int) (hd : dateOf ep cs day = some (y, mo, d)) :
    Calls Tryz.prog 64 #[.agg #[.int .i64 ep, .slice A cs.length c, .int .i64 m0, .int .i64 m1, .int .i64 m2, .slice (some a5) F.length c5, .map (some mb)], .int .i64 day] W fun e w' => e = .returned (.agg #[.int .i64 y, .int .i64 mo, .int .i64 d]) ∧ Below W.heap.size W w' :=
  dial_opened_date.calls 14 ep A c cs m0 m1 m2 (some a5) c5 F (some mb) day y mo d W h.cr h.c h.fr.1 h.fr.2 (by rw [← h.hF]; exact date_f ep cs m0 m1 m2 (some mb) day y mo d ⟨(calB_iff h.cal).1, (calB_iff h.cal).2.1⟩ h.mem h.l3 hd)
theorem date_n {ep : Int} {A : Option Addr} {c : Nat} {cs F : List Int} {a5 : Addr} {c5 mb : Nat} {w W : World} (m0 m1 m2 : Int) (h : Opd ep A c cs F a5 c5 mb w W) (day : Int) (hd : dateOf ep cs day = none) :
    Calls Tryz.prog 64 #[.agg #[.int .i64 ep, .slice A cs.length c, .int .i64 m0, .int .i64 m1, .int .i64 m2, .slice (some a5) F.length c5, .map (some mb)], .int .i64 day] W fun e w' => e = .panicked [{ v := .iface 121 (.agg #[.int .i64 day]), recovered := false }] ∧ Below W.heap.size W w' := by
  have hyb : yearB (yearOf ep cs day) = false := by
    cases hb : yearB (yearOf ep cs day) with
    | false => rfl
    | true => obtain ⟨p, hp⟩ := dateOf_some ep cs day hb; rw [hd] at hp; cases hp
  obtain ⟨pos, hf, p0, p1, hy⟩ := search_year ep cs day
  rw [h.hF] at hf hy
  rw [← hy] at hyb
  cases hc : decide (pos < (F.length : Int) ∧ rd F pos = day) with
  | true =>
    rw [hc] at hf hyb
    exact date_away_true m0 m1 m2 h day pos hf ⟨p0, p1⟩ (by simpa using hyb)
  | false =>
    rw [hc] at hf hyb
    exact date_away_false m0 m1 m2 h day pos hf ⟨p0, p1⟩ (by simpa using hyb)
end Go.Proofs.YtnllidgonghckaaGreatDoor.X
namespace Go.Proofs.YtnllidgonghckaaGreatDoor.X
open Go.RowKit Go.Proofs.YtnllidgonghckaaGreatDoorW.PrintWords Go.Proofs.YtnllidgonghckaaGreatDoorW.PrintLast Go.Proofs.YtnllidgonghckaaGreatDoorW.PrintMore Go.Proofs.YtnllidgonghckaaGreatDoor.Dm
set_option linter.unusedVariables false
set_option linter.unusedSimpArgs false
attribute [local go_sem] max2_int min2_int max_two min_two max_three min_three max_four min_four
theorem isDay_l (y : Int) (r : Bool) (hr : dayB y = r) (w : World) : Calls Tryz.prog 59 #[.int .i64 y] w fun e w' => e = .returned (.bool r) ∧ Below w.heap.size w w' :=
  (dial_isDay.calls y _ w ((isDay_f y).trans (congrArg some hr))).mono fun _ _ h => ⟨h.1, h.2.below⟩
end Go.Proofs.YtnllidgonghckaaGreatDoor.X
namespace Go.Proofs.YtnllidgonghckaaGreatDoor.X
open Go.RowKit Go.Proofs.YtnllidgonghckaaGreatDoorW.PrintWords Go.Proofs.YtnllidgonghckaaGreatDoorW.PrintLast Go.Proofs.YtnllidgonghckaaGreatDoorW.PrintMore Go.Proofs.YtnllidgonghckaaGreatDoor.Dm
set_option linter.unusedVariables false
set_option linter.unusedSimpArgs false
attribute [local go_sem] max2_int min2_int max_two min_two max_three min_three max_four min_four
set_option maxHeartbeats 8000000 in
set_option maxRecDepth 100000 in
theorem on_old_ok {ep : Int} {A : Option Addr} {c : Nat} {cs F : List Int} {a5 : Addr} {c5 mb : Nat} {epn : Int} {An : Option Addr} {cn : Nat} {csn Fn : List Int} {a5n : Addr} {c5n mbn : Nat} {w W : World} (h : Opd ep A c cs F a5 c5 mb w W) (hn : Opd epn An cn csn Fn a5n c5n mbn w W) (last day : Int) (y mo d : Int) (hdt : dateOf ep cs day = some (y, mo, d)) (hl : day ≤ last) :
    Calls Tryz.prog 69 #[.agg #[.int .i64 ep, .slice A cs.length c, .int .i64 epn, .slice An csn.length cn, .int .i64 last, .int .i64 ep, .slice A cs.length c, .int .i64 0, .int .i64 0, .int .i64 0, .slice (some a5) F.length c5, .map (some mb), .int .i64 epn, .slice An csn.length cn, .int .i64 0, .int .i64 0, .int .i64 0, .slice (some a5n) Fn.length c5n, .map (some mbn)], .int .i64 day] W fun e w' => e = .returned (.agg #[.int .i64 y, .int .i64 mo, .int .i64 d]) ∧ Below W.heap.size W w' := by
  have hu38 := Tryz.underlying38
  have hu63 := Tryz.underlying63
  have hu83 := Tryz.underlying83
  have hu92 := Tryz.underlying92
  have OP := Aside0.mk h
  have OPn := Aside0.mk hn
  have HW := Aside0.mk (Below.refl W.heap.size W)
  have HDT := Aside0.mk hdt
  have hlb : decide (day ≤ last) = true := decide_eq_true hl
  clear h hn hdt hl
  go_enter Tryz.func69, Tryz.ntmps69
  go_wp2_with (first
    | ((with_reducible refine zG 2 rfl ?_); refine zBox 2 #[.int .i64 ep, .slice A cs.length c, .int .i64 epn, .slice An csn.length cn, .int .i64 last, .int .i64 ep, .slice A cs.length c, .int .i64 0, .int .i64 0, .int .i64 0, .slice (some a5) F.length c5, .map (some mb), .int .i64 epn, .slice An csn.length cn, .int .i64 0, .int .i64 0, .int .i64 0, .slice (some a5n) Fn.length c5n, .map (some mbn)] 92 ?_; intro g1 hg w1 hbox hb; have GEg1 := zge hg HW; replace HW := zW HW hb; have BKg1 := Aside0.mk hbox; clear hb hbox hg)
    | ((with_reducible refine zG 4 rfl ?_); refine zBox 4 #[.int .i64 0, .int .i64 0, .int .i64 0] 38 ?_; intro g2 hg w2 hbox hb; have GEg2 := zge hg HW; have NEg1_g2 := zne hg BKg1; replace HW := zW HW hb; replace BKg1 := zb BKg1 hb; have BKg2 := Aside0.mk hbox; clear hb hbox hg; have zl := zC BKg1)
    | (go_at_call 64; (with_reducible refine (date_b 0 0 0 (OP.out.below HW.out) day y mo d HDT.out).mono ?_); rintro e w3 ⟨rfl, hb⟩; replace HW := zW HW hb; replace BKg1 := zb BKg1 hb; replace BKg2 := zb BKg2 hb; clear hb)
    | ((with_reducible refine zH 38 4 rfl ?_); refine zSto 38 4 #[.int .i64 y, .int .i64 mo, .int .i64 d] BKg2 ?_; intro w9 hw; replace HW := Aside0.mk (show Below W.heap.size W w9 by rw [hw]; exact below_setRow HW.out GEg2.out _); replace BKg2 := znew hw BKg2; clear hw))
  refine bodyPost_ret (results_cell_row rfl _ _ g2 38 #[.int .i64 y, .int .i64 mo, .int .i64 d] (0, 0) _ rfl BKg2.out Tryz.underlying38 rfl (by kernel_rfl)) rfl ?_
  exact ⟨rfl, HW.out⟩
set_option maxHeartbeats 8000000 in
set_option maxRecDepth 100000 in
theorem on_old_none {ep : Int} {A : Option Addr} {c : Nat} {cs F : List Int} {a5 : Addr} {c5 mb : Nat} {epn : Int} {An : Option Addr} {cn : Nat} {csn Fn : List Int} {a5n : Addr} {c5n mbn : Nat} {w W : World} (h : Opd ep A c cs F a5 c5 mb w W) (hn : Opd epn An cn csn Fn a5n c5n mbn w W) (last day : Int) (hdt : dateOf ep cs day = none) (hl : day ≤ last) :
    Calls Tryz.prog 69 #[.agg #[.int .i64 ep, .slice A cs.length c, .int .i64 epn, .slice An csn.length cn, .int .i64 last, .int .i64 ep, .slice A cs.length c, .int .i64 0, .int .i64 0, .int .i64 0, .slice (some a5) F.length c5, .map (some mb), .int .i64 epn, .slice An csn.length cn, .int .i64 0, .int .i64 0, .int .i64 0, .slice (some a5n) Fn.length c5n, .map (some mbn)], .int .i64 day] W fun e w' => e = .panicked [{ v := .iface 121 (.agg #[.int .i64 day]), recovered := false }] ∧ Below W.heap.size W w' := by
  have hu38 := Tryz.underlying38
  have hu63 := Tryz.underlying63
  have hu83 := Tryz.underlying83
  have hu92 := Tryz.underlying92
  have OP := Aside0.mk h
  have OPn := Aside0.mk hn
  have HW := Aside0.mk (Below.refl W.heap.size W)
  have HDT := Aside0.mk hdt
  have hlb : decide (day ≤ last) = true := decide_eq_true hl
  clear h hn hdt hl
  go_enter Tryz.func69, Tryz.ntmps69
  go_wp2_with (first
    | ((with_reducible refine zG 2 rfl ?_); refine zBox 2 #[.int .i64 ep, .slice A cs.length c, .int .i64 epn, .slice An csn.length cn, .int .i64 last, .int .i64 ep, .slice A cs.length c, .int .i64 0, .int .i64 0, .int .i64 0, .slice (some a5) F.length c5, .map (some mb), .int .i64 epn, .slice An csn.length cn, .int .i64 0, .int .i64 0, .int .i64 0, .slice (some a5n) Fn.length c5n, .map (some mbn)] 92 ?_; intro g1 hg w1 hbox hb; have GEg1 := zge hg HW; replace HW := zW HW hb; have BKg1 := Aside0.mk hbox; clear hb hbox hg)
    | ((with_reducible refine zG 4 rfl ?_); refine zBox 4 #[.int .i64 0, .int .i64 0, .int .i64 0] 38 ?_; intro g2 hg w2 hbox hb; have GEg2 := zge hg HW; have NEg1_g2 := zne hg BKg1; replace HW := zW HW hb; replace BKg1 := zb BKg1 hb; have BKg2 := Aside0.mk hbox; clear hb hbox hg; have zl := zC BKg1)
    | (go_at_call 64; (with_reducible refine (date_n 0 0 0 (OP.out.below HW.out) day HDT.out).mono ?_); rintro e w3 ⟨rfl, hb⟩; replace HW := zW HW hb; clear hb BKg1 BKg2))
  exact ⟨rfl, rfl, HW.out⟩
set_option maxHeartbeats 8000000 in
set_option maxRecDepth 100000 in
theorem on_new_ok {ep : Int} {A : Option Addr} {c : Nat} {cs F : List Int} {a5 : Addr} {c5 mb : Nat} {epn : Int} {An : Option Addr} {cn : Nat} {csn Fn : List Int} {a5n : Addr} {c5n mbn : Nat} {w W : World} (h : Opd ep A c cs F a5 c5 mb w W) (hn : Opd epn An cn csn Fn a5n c5n mbn w W) (last day : Int) (y mo d : Int) (hdt : dateOf epn csn day = some (y, mo, d)) (hl : ¬ day ≤ last) :
    Calls Tryz.prog 69 #[.agg #[.int .i64 ep, .slice A cs.length c, .int .i64 epn, .slice An csn.length cn, .int .i64 last, .int .i64 ep, .slice A cs.length c, .int .i64 0, .int .i64 0, .int .i64 0, .slice (some a5) F.length c5, .map (some mb), .int .i64 epn, .slice An csn.length cn, .int .i64 0, .int .i64 0, .int .i64 0, .slice (some a5n) Fn.length c5n, .map (some mbn)], .int .i64 day] W fun e w' => e = .returned (.agg #[.int .i64 y, .int .i64 mo, .int .i64 d]) ∧ Below W.heap.size W w' := by
  have hu38 := Tryz.underlying38
  have hu63 := Tryz.underlying63
  have hu83 := Tryz.underlying83
  have hu92 := Tryz.underlying92
  have OP := Aside0.mk h
  have OPn := Aside0.mk hn
  have HW := Aside0.mk (Below.refl W.heap.size W)
  have HDT := Aside0.mk hdt
  have hlb : decide (day ≤ last) = false := decide_eq_false hl
  clear h hn hdt hl
  go_enter Tryz.func69, Tryz.ntmps69
  go_wp2_with (first
    | ((with_reducible refine zG 2 rfl ?_); refine zBox 2 #[.int .i64 ep, .slice A cs.length c, .int .i64 epn, .slice An csn.length cn, .int .i64 last, .int .i64 ep, .slice A cs.length c, .int .i64 0, .int .i64 0, .int .i64 0, .slice (some a5) F.length c5, .map (some mb), .int .i64 epn, .slice An csn.length cn, .int .i64 0, .int .i64 0, .int .i64 0, .slice (some a5n) Fn.length c5n, .map (some mbn)] 92 ?_; intro g1 hg w1 hbox hb; have GEg1 := zge hg HW; replace HW := zW HW hb; have BKg1 := Aside0.mk hbox; clear hb hbox hg)
    | ((with_reducible refine zG 4 rfl ?_); refine zBox 4 #[.int .i64 0, .int .i64 0, .int .i64 0] 38 ?_; intro g2 hg w2 hbox hb; have GEg2 := zge hg HW; have NEg1_g2 := zne hg BKg1; replace HW := zW HW hb; replace BKg1 := zb BKg1 hb; have BKg2 := Aside0.mk hbox; clear hb hbox hg; have zl := zC BKg1)
    | (go_at_call 64; (with_reducible refine (date_b 0 0 0 (OPn.out.below HW.out) day y mo d HDT.out).mono ?_); rintro e w3 ⟨rfl, hb⟩; replace HW := zW HW hb; replace BKg1 := zb BKg1 hb; replace BKg2 := zb BKg2 hb; clear hb)
    | ((with_reducible refine zH 38 4 rfl ?_); refine zSto 38 4 #[.int .i64 y, .int .i64 mo, .int .i64 d] BKg2 ?_; intro w9 hw; replace HW := Aside0.mk (show Below W.heap.size W w9 by rw [hw]; exact below_setRow HW.out GEg2.out _); replace BKg2 := znew hw BKg2; clear hw))
  refine bodyPost_ret (results_cell_row rfl _ _ g2 38 #[.int .i64 y, .int .i64 mo, .int .i64 d] (0, 0) _ rfl BKg2.out Tryz.underlying38 rfl (by kernel_rfl)) rfl ?_
  exact ⟨rfl, HW.out⟩
set_option maxHeartbeats 8000000 in
set_option maxRecDepth 100000 in
theorem on_new_none {ep : Int} {A : Option Addr} {c : Nat} {cs F : List Int} {a5 : Addr} {c5 mb : Nat} {epn : Int} {An : Option Addr} {cn : Nat} {csn Fn : List Int} {a5n : Addr} {c5n mbn : Nat} {w W : World} (h : Opd ep A c cs F a5 c5 mb w W) (hn : Opd epn An cn csn Fn a5n c5n mbn w W) (last day : Int) (hdt : dateOf epn csn day = none) (hl : ¬ day ≤ last) :
    Calls Tryz.prog 69 #[.agg #[.int .i64 ep, .slice A cs.length c, .int .i64 epn, .slice An csn.length cn, .int .i64 last, .int .i64 ep, .slice A cs.length c, .int .i64 0, .int .i64 0, .int .i64 0, .slice (some a5) F.length c5, .map (some mb), .int .i64 epn, .slice An csn.length cn, .int .i64 0, .int .i64 0, .int .i64 0, .slice (some a5n) Fn.length c5n, .map (some mbn)], .int .i64 day] W fun e w' => e = .panicked [{ v := .iface 121 (.agg #[.int .i64 day]), recovered := false }] ∧ Below W.heap.size W w' := by
  have hu38 := Tryz.underlying38
  have hu63 := Tryz.underlying63
  have hu83 := Tryz.underlying83
  have hu92 := Tryz.underlying92
  have OP := Aside0.mk h
  have OPn := Aside0.mk hn
  have HW := Aside0.mk (Below.refl W.heap.size W)
  have HDT := Aside0.mk hdt
  have hlb : decide (day ≤ last) = false := decide_eq_false hl
  clear h hn hdt hl
  go_enter Tryz.func69, Tryz.ntmps69
  go_wp2_with (first
    | ((with_reducible refine zG 2 rfl ?_); refine zBox 2 #[.int .i64 ep, .slice A cs.length c, .int .i64 epn, .slice An csn.length cn, .int .i64 last, .int .i64 ep, .slice A cs.length c, .int .i64 0, .int .i64 0, .int .i64 0, .slice (some a5) F.length c5, .map (some mb), .int .i64 epn, .slice An csn.length cn, .int .i64 0, .int .i64 0, .int .i64 0, .slice (some a5n) Fn.length c5n, .map (some mbn)] 92 ?_; intro g1 hg w1 hbox hb; have GEg1 := zge hg HW; replace HW := zW HW hb; have BKg1 := Aside0.mk hbox; clear hb hbox hg)
    | ((with_reducible refine zG 4 rfl ?_); refine zBox 4 #[.int .i64 0, .int .i64 0, .int .i64 0] 38 ?_; intro g2 hg w2 hbox hb; have GEg2 := zge hg HW; have NEg1_g2 := zne hg BKg1; replace HW := zW HW hb; replace BKg1 := zb BKg1 hb; have BKg2 := Aside0.mk hbox; clear hb hbox hg; have zl := zC BKg1)
    | (go_at_call 64; (with_reducible refine (date_n 0 0 0 (OPn.out.below HW.out) day HDT.out).mono ?_); rintro e w3 ⟨rfl, hb⟩; replace HW := zW HW hb; clear hb BKg1 BKg2))
  exact ⟨rfl, rfl, HW.out⟩
def onOf (ep : Int) (cs : List Int) (epn : Int) (csn : List Int) (last day : Int) : Option (Int × Int × Int) := if day ≤ last then dateOf ep cs day else dateOf epn csn day
theorem on_b {ep : Int} {A : Option Addr} {c : Nat} {cs F : List Int} {a5 : Addr} {c5 mb : Nat} {epn : Int} {An : Option Addr} {cn : Nat} {csn Fn : List Int} {a5n : Addr} {c5n mbn : Nat} {w W : World} (h : Opd ep A c cs F a5 c5 mb w W) (hn : Opd epn An cn csn Fn a5n c5n mbn w W) (last day : Int) (y mo d : Int) (hdt : onOf ep cs epn csn last day = some (y, mo, d)) : Calls Tryz.prog 69 #[.agg #[.int .i64 ep, .slice A cs.length c, .int .i64 epn, .slice An csn.length cn, .int .i64 last, .int .i64 ep, .slice A cs.length c, .int .i64 0, .int .i64 0, .int .i64 0, .slice (some a5) F.length c5, .map (some mb), .int .i64 epn, .slice An csn.length cn, .int .i64 0, .int .i64 0, .int .i64 0, .slice (some a5n) Fn.length c5n, .map (some mbn)], .int .i64 day] W fun e w' => e = .returned (.agg #[.int .i64 y, .int .i64 mo, .int .i64 d]) ∧ Below W.heap.size W w' := by
  unfold onOf at hdt
  by_cases hl : day ≤ last
  · rw [if_pos hl] at hdt
    exact on_old_ok h hn last day y mo d hdt hl
  · rw [if_neg hl] at hdt
    exact on_new_ok h hn last day y mo d hdt hl
theorem on_n {ep : Int} {A : Option Addr} {c : Nat} {cs F : List Int} {a5 : Addr} {c5 mb : Nat} {epn : Int} {An : Option Addr} {cn : Nat} {csn Fn : List Int} {a5n : Addr} {c5n mbn : Nat} {w W : World} (h : Opd ep A c cs F a5 c5 mb w W) (hn : Opd epn An cn csn Fn a5n c5n mbn w W) (last day : Int) (hdt : onOf ep cs epn csn last day = none) : Calls Tryz.prog 69 #[.agg #[.int .i64 ep, .slice A cs.length c, .int .i64 epn, .slice An csn.length cn, .int .i64 last, .int .i64 ep, .slice A cs.length c, .int .i64 0, .int .i64 0, .int .i64 0, .slice (some a5) F.length c5, .map (some mb), .int .i64 epn, .slice An csn.length cn, .int .i64 0, .int .i64 0, .int .i64 0, .slice (some a5n) Fn.length c5n, .map (some mbn)], .int .i64 day] W fun e w' => e = .panicked [{ v := .iface 121 (.agg #[.int .i64 day]), recovered := false }] ∧ Below W.heap.size W w' := by
  unfold onOf at hdt
  by_cases hl : day ≤ last
  · rw [if_pos hl] at hdt
    exact on_old_none h hn last day hdt hl
  · rw [if_neg hl] at hdt
    exact on_new_none h hn last day hdt hl
end Go.Proofs.YtnllidgonghckaaGreatDoor.X
namespace Go.Proofs.YtnllidgonghckaaGreatDoor.X
open Go.RowKit Go.Proofs.YtnllidgonghckaaGreatDoorW.PrintWords Go.Proofs.YtnllidgonghckaaGreatDoorW.PrintLast Go.Proofs.YtnllidgonghckaaGreatDoorW.PrintMore Go.Proofs.YtnllidgonghckaaGreatDoor.Dm
set_option linter.unusedVariables false
set_option linter.unusedSimpArgs false
attribute [local go_sem] max2_int min2_int max_two min_two max_three min_three max_four min_four
def On10.T : Bool × List (List Nat × List Nat) := (true, [([], []), ([0], [0]), ([], []), ([1, 2, 1], [1, 2]), ([3, 3, 0, 1, 2, 3], [3])])
def On10.B : List Nat := [0, 1, 0, 7, 15]
theorem On10.tab : rtab .any (opsOf Tryz.f67 0) = On10.T := by kernel_rfl
theorem On10.bits : waitsOk On10.T.2 On10.B = true := by kernel_rfl
set_option maxHeartbeats 8000000 in
set_option maxRecDepth 100000 in
theorem on1_ok (ep : Int) (A : Option Addr) (c : Nat) (cs : List Int) (epn : Int) (An : Option Addr) (cn : Nat) (csn : List Int) (last : Int) (day : Int) (g1 gd go : Nat) (w0 W : World) (hB : Below w0.heap.size w0 W) (hr : Kd.C (Kd.int .i64) w0 A cs.length cs) (hc : cs.length ≤ c) (hrn : Kd.C (Kd.int .i64) w0 An csn.length csn) (hcn : csn.length ≤ cn) (hcal : calB ep cs = true) (hcaln : calB epn csn = true) (h1 : W.heap[g1]? = some (.cells #[.int .i64 ep, .slice A cs.length c, .int .i64 epn, .slice An csn.length cn, .int .i64 last] 63 (0, 0))) (hd1 : W.heap[gd]? = some (.cells #[.int .i64 day] 3 (0, 0))) (ho1 : W.heap[go]? = some (.cells #[.int .i64 0, .int .i64 0, .int .i64 0] 38 (0, 0))) (hgo : w0.heap.size ≤ go) (y mo d : Int) (hdt : onOf ep cs epn csn last day = some (y, mo, d)) :
    Calls Tryz.prog 67 #[.pointer (some ⟨g1, 0, none⟩), .pointer (some ⟨gd, 0, none⟩), .pointer (some ⟨go, 0, none⟩)] W fun e w' => e = .returned (.tuple #[]) ∧ w'.heap[go]? = some (.cells #[.int .i64 y, .int .i64 mo, .int .i64 d] 38 (0, 0)) ∧ ((∀ k, k < W.heap.size → k ≠ go → w'.heap[k]? = W.heap[k]?) ∧ W.heap.size ≤ w'.heap.size) ∧ Below w0.heap.size w0 w' := by
  have hu24 := Tryz.underlying24
  have hu38 := Tryz.underlying38
  have hu45 := Tryz.underlying45
  have hu63 := Tryz.underlying63
  have hu92 := Tryz.underlying92
  obtain ⟨Fn, hFn⟩ : ∃ F, firsts epn csn = F := ⟨_, rfl⟩
  have HFFn := Aside0.mk hFn
  have HRn := Aside0.mk hrn
  have HCn := Aside0.mk hcn
  have HCALn := Aside0.mk hcaln
  clear hFn hrn hcn hcaln
  have hu83 := Tryz.underlying83
  obtain ⟨F, hF⟩ : ∃ F, firsts ep cs = F := ⟨_, rfl⟩
  have HFF := Aside0.mk hF
  have HB := Aside0.mk hB
  have HW := Aside0.mk (Below.refl W.heap.size W)
  have HR := Aside0.mk hr
  have HC := Aside0.mk hc
  have HCAL := Aside0.mk hcal
  have HDT := Aside0.mk hdt
  have HGO := Aside0.mk hgo
  have BKg1 := Aside0.mk h1
  have BKgd := Aside0.mk hd1
  have BKgo := Aside0.mk ho1
  clear hF hB hr hc hcal hdt hgo h1 hd1 ho1
  go_enter Tryz.func67, Tryz.ntmps67
  replace HB := zWD HB
  replace HW := zWD HW
  replace BKg1 := zbD BKg1
  replace BKgd := zbD BKgd
  replace BKgo := zbD BKgo
  refine zStart 5 (fun w' => zCells w' g1 0 [.int .i64 ep, .slice A cs.length c, .int .i64 epn, .slice An csn.length cn, .int .i64 last] ∧ w'.cell? ⟨gd, 0, none⟩ = some (.int .i64 day)) #[false, false, false, false, false] On10.tab On10.bits ⟨zS BKg1, zx BKgd 0⟩ (fun hHeld HT_ HW_ => ?_)
  generalize W.drew = wd at HB HW BKg1 BKgd BKgo hHeld ⊢
  refine zT 0 (some 3) HT_ HW_ hHeld ?_
  refine zT 2 (some 5) HT_ HW_ hHeld ?_
  refine zGo 1 (some 4) HT_ Tryz.func68 #[.agg #[.int .i64 ep, .slice A cs.length c, .int .i64 epn, .slice An csn.length cn, .int .i64 last]] ?_
  with_reducible refine (opens_opd ep A c cs epn An cn csn last w0 _ HR.out HC.out HRn.out HCn.out HCAL.out HCALn.out HB.out F Fn HFF.out HFFn.out).mono ?_
  rintro e wd_1 ⟨a5, c5, mb, a5n, c5n, mbn, rfl, ho, hon, hb⟩
  replace HB := zW HB hb
  replace HW := zW HW hb
  replace BKg1 := zb BKg1 hb
  replace BKgd := zb BKgd hb
  replace BKgo := zb BKgo hb
  have OP := Aside0.mk ho; have OPn := Aside0.mk hon; clear hon
  clear ho
  clear hb hHeld
  refine zV ⟨zS BKg1, zx BKgd 0⟩ (fun hHeld => ?_)
  refine zGo 3 (some 6) HT_ Tryz.func69 #[.agg #[.int .i64 ep, .slice A cs.length c, .int .i64 epn, .slice An csn.length cn, .int .i64 last, .int .i64 ep, .slice A cs.length c, .int .i64 0, .int .i64 0, .int .i64 0, .slice (some a5) F.length c5, .map (some mb), .int .i64 epn, .slice An csn.length cn, .int .i64 0, .int .i64 0, .int .i64 0, .slice (some a5n) Fn.length c5n, .map (some mbn)], .int .i64 day] ?_
  with_reducible refine (on_b OP.out OPn.out last day y mo d HDT.out).mono ?_
  rintro e wd_2 ⟨rfl, hb⟩
  replace HB := zW HB hb
  replace HW := zW HW hb
  replace BKg1 := zb BKg1 hb
  replace BKgd := zb BKgd hb
  replace BKgo := zb BKgo hb
  replace OP := zo OP hb
  replace OPn := zo OPn hb
  clear hb hHeld
  refine zV ⟨zS BKg1, zx BKgd 0⟩ (fun hHeld => ?_)
  refine one_ (i := 4) (N := none) #[true, true, true, true, true] rfl rfl (one_of HT_.out (by kernel_rfl)) (by decide) (fun K hK => ?_)
  refine store_row_step (by rfl) rfl 38 _ _ rfl #[.int .i64 y, .int .i64 mo, .int .i64 d] BKgo.out (by rfl) (by rfl) (by kernel_rfl) rfl (by simp [Value.oneCell']) ?_
  intro w' hw
  have n0_go := Aside0.mk (show w'.heap[go]? = some (.cells #[.int .i64 y, .int .i64 mo, .int .i64 d] 38 (0, 0)) by rw [hw]; exact row_new BKgo.out _)
  have n0_HB := Aside0.mk (show Below w0.heap.size w0 w' by rw [hw]; exact below_setRow HB.out HGO.out _)
  have n0_K := Aside0.mk (show (∀ k, k < W.heap.size → k ≠ go → w'.heap[k]? = W.heap[k]?) ∧ W.heap.size ≤ w'.heap.size by rw [hw]; exact ⟨fun k hk hne => (setRow_other _ go k _ hne).trans (HW.out.block k hk), by rw [size_setRow]; exact HW.out.size⟩)
  have n0_g1 := Aside0.mk (show w'.heap[g1]? = some (.cells #[.int .i64 ep, .slice A cs.length c, .int .i64 epn, .slice An csn.length cn, .int .i64 last] 63 (0, 0)) by rw [hw]; exact row_far _ (blk_ne BKg1.out BKgo.out (by decide)) BKg1.out)
  have n0_gd := Aside0.mk (show w'.heap[gd]? = some (.cells #[.int .i64 day] 3 (0, 0)) by rw [hw]; exact row_far _ (blk_ne BKgd.out BKgo.out (by decide)) BKgd.out)
  clear hw hHeld BKgo HB HW BKg1 BKgd OP OPn
  have BKgo := n0_go
  have HB := n0_HB
  have HK_ := n0_K
  have BKg1 := n0_g1
  have BKgd := n0_gd
  clear n0_go n0_HB n0_K n0_g1 n0_gd
  refine hK.out _ _ ⟨zS BKg1, zx BKgd 0⟩ (fun hHeld => ?_)
  clear hK K
  refine done_ (done_of HT_.out (by kernel_rfl)) ?_
  try go_wp2
  go_end0
  exact ⟨rfl, BKgo.out, HK_.out, HB.out⟩
end Go.Proofs.YtnllidgonghckaaGreatDoor.X
namespace Go.Proofs.YtnllidgonghckaaGreatDoor.X
open Go.RowKit Go.Proofs.YtnllidgonghckaaGreatDoorW.PrintWords Go.Proofs.YtnllidgonghckaaGreatDoorW.PrintLast Go.Proofs.YtnllidgonghckaaGreatDoorW.PrintMore Go.Proofs.YtnllidgonghckaaGreatDoor.Dm
set_option linter.unusedVariables false
set_option linter.unusedSimpArgs false
attribute [local go_sem] max2_int min2_int max_two min_two max_three min_three max_four min_four
theorem on_try_ok (ep : Int) (A : Option Addr) (c : Nat) (cs : List Int) (epn : Int) (An : Option Addr) (cn : Nat) (csn : List Int) (last : Int) (day y mo d : Int) (w W : World) (g1 gd gr go : Nat) (hr : Kd.C (Kd.int .i64) w A cs.length cs) (hc : cs.length ≤ c) (hrn : Kd.C (Kd.int .i64) w An csn.length csn) (hcn : csn.length ≤ cn) (hcal : calB ep cs = true) (hcaln : calB epn csn = true) (hdt : onOf ep cs epn csn last day = some (y, mo, d)) (hB : Below w.heap.size w W)
    (h1 : W.heap[g1]? = some (.cells #[.int .i64 ep, .slice A cs.length c, .int .i64 epn, .slice An csn.length cn, .int .i64 last] 63 (0, 0))) (h2 : W.heap[gd]? = some (.cells #[.int .i64 day] 3 (0, 0))) (h3 : W.heap[gr]? = some (.cells #[.int .i64 0, .int .i64 0, .int .i64 0] 38 (0, 0))) (h4 : W.heap[go]? = some (.cells #[.int .i64 0, .int .i64 0, .int .i64 0] 38 (0, 0))) (hne : gr ≠ go) (hgo : w.heap.size ≤ go) :
    Calls Tryz.prog 62 #[.func (.func 67) #[] #[.pointer (some ⟨g1, 0, none⟩), .pointer (some ⟨gd, 0, none⟩), .pointer (some ⟨go, 0, none⟩)]] W fun e w' => e = .returned (.int .i64 0) ∧ w'.heap[go]? = some (.cells #[.int .i64 y, .int .i64 mo, .int .i64 d] 38 (0, 0)) ∧ w'.heap[gr]? = some (.cells #[.int .i64 0, .int .i64 0, .int .i64 0] 38 (0, 0)) ∧ Below w.heap.size w w' := by
  refine (try_calls 67 _ Tryz.func67 (by kernel_rfl) rfl _ W (fun r w2 => r = 0 ∧ w2.heap[go]? = some (.cells #[.int .i64 y, .int .i64 mo, .int .i64 d] 38 (0, 0)) ∧ w2.heap[gr]? = some (.cells #[.int .i64 0, .int .i64 0, .int .i64 0] 38 (0, 0)) ∧ Below w.heap.size w w2) ?_ ?_).mono ?_
  · rintro r w2 w3 ⟨e1, e2, e3, e4⟩ hs hk hsz ho ht hou
    have b := hB.size
    exact ⟨e1, (hk _ (blk_lt e2) (Nat.ne_of_lt (blk_lt h4))).trans e2, (hk _ (blk_lt e3) (Nat.ne_of_lt (blk_lt h3))).trans e3, ⟨ho.trans e4.os, ht.trans e4.tape, hou.trans e4.output, Nat.le_trans e4.size hsz, fun k hk' => (hk k (by omega) (by omega)).trans (e4.block k hk')⟩⟩
  · intro w1 hw1 hb
    refine (on1_ok ep A c cs epn An cn csn last day g1 gd go w w1 (below_thenN hB hb) hr hc hrn hcn hcal hcaln (blk_below h1 hb) (blk_below h2 hb) (blk_below h4 hb) hgo y mo d hdt).mono ?_
    rintro e w2 ⟨rfl, q1, ⟨q2, q3⟩, q4⟩
    have l4 := blk_lt h4
    exact ⟨(q2 _ (blk_lt hw1) (by omega)).trans hw1, .inl ⟨rfl, rfl, q1, (q2 _ (blk_lt (blk_below h3 hb)) hne).trans (blk_below h3 hb), q4⟩⟩
  · rintro e w' ⟨r, rfl, rfl, q⟩
    exact ⟨rfl, q⟩
set_option maxHeartbeats 8000000 in
set_option maxRecDepth 100000 in
theorem On_ok (ep : Int) (A : Option Addr) (c : Nat) (cs : List Int) (epn : Int) (An : Option Addr) (cn : Nat) (csn : List Int) (last : Int) (day : Int) (w : World) (hr : Kd.C (Kd.int .i64) w A cs.length cs) (hc : cs.length ≤ c) (hrn : Kd.C (Kd.int .i64) w An csn.length csn) (hcn : csn.length ≤ cn) (hrl : realmB ep cs epn csn last = true) (hdy : dayB day = true) (y mo d : Int) (hdt : onOf ep cs epn csn last day = some (y, mo, d)) :
    Calls Tryz.prog 33 #[.agg #[.int .i64 ep, .slice A cs.length c, .int .i64 epn, .slice An csn.length cn, .int .i64 last], .int .i64 day] w fun e w' => e = .returned (.tuple #[.agg #[.int .i64 y, .int .i64 mo, .int .i64 d], .int .i64 0]) ∧ Below w.heap.size w w' := by
  have hu63 := Tryz.underlying63
  have hu38 := Tryz.underlying38
  have hmf : ∀ (fn : Fn) (first cap : Array Value) (w : World), (Instr.makeFunc fn first cap).run Tryz.prog w = .ok (.func fn first cap) w := fun _ _ _ _ => rfl
  have HB := Aside0.mk (Below.refl w.heap.size w)
  have HR := Aside0.mk hr
  have HC := Aside0.mk hc
  have HRn := Aside0.mk hrn
  have HCn := Aside0.mk hcn
  clear hr hc hrn hcn
  have hb3 : calB ep cs = true ∧ calB epn csn = true := by
    have := hrl
    simp only [realmB, Bool.and_eq_true] at this
    exact this.1
  have HCAL := Aside0.mk hb3.1
  have HCALn := Aside0.mk hb3.2
  have HREALM := Aside0.mk hrl
  clear hb3
  have HDY := Aside0.mk hdy
  have HDT := Aside0.mk hdt
  clear hrl hdy hdt
  go_enter Tryz.func33, Tryz.ntmps33
  go_wp2_with (first
    | ((with_reducible refine zG 2 rfl ?_); refine zBox 2 #[.int .i64 ep, .slice A cs.length c, .int .i64 epn, .slice An csn.length cn, .int .i64 last] 63 ?_; intro g1 hg w1 hbox hb; have GEg1 := zge hg HB; replace HB := zW HB hb; have BKg1 := Aside0.mk hbox; clear hb hbox hg)
    | ((with_reducible refine zG 3 rfl ?_); refine zBox 3 #[.int .i64 day] 3 ?_; intro gd hg w2 hbox hb; have GEgd := zge hg HB; have NEg1_gd := zne hg BKg1; replace HB := zW HB hb; replace BKg1 := zb BKg1 hb; have BKgd := Aside0.mk hbox; clear hb hbox hg)
    | ((with_reducible refine zG 4 rfl ?_); refine zBox 4 #[.int .i64 0, .int .i64 0, .int .i64 0] 38 ?_; intro gr hg w3 hbox hb; have GEgr := zge hg HB; have NEg1_gr := zne hg BKg1; have NEgd_gr := zne hg BKgd; replace HB := zW HB hb; replace BKg1 := zb BKg1 hb; replace BKgd := zb BKgd hb; have BKgr := Aside0.mk hbox; clear hb hbox hg; have za0 := zC BKg1)
    | (go_at_call 66; (with_reducible refine (isRealm_l ep A c cs epn An cn csn last true HREALM.out w _ HR.out HC.out HRn.out HCn.out HB.out).mono ?_); rintro e w4 ⟨rfl, hb⟩; replace HB := zW HB hb; replace BKg1 := zb BKg1 hb; replace BKgd := zb BKgd hb; replace BKgr := zb BKgr hb; clear hb; have zd0 : w4.cell? ⟨gd, 0, none⟩ = some (.int .i64 day) := zx BKgd 0)
    | (go_at_call 59; (with_reducible refine (isDay_l day true HDY.out _).mono ?_); rintro e w5 ⟨rfl, hb⟩; replace HB := zW HB hb; replace BKg1 := zb BKg1 hb; replace BKgd := zb BKgd hb; replace BKgr := zb BKgr hb; clear hb; have zr0 := zC BKgr; have zf0 := zF BKgr)
    | ((with_reducible refine zG 6 rfl ?_); refine zBox 6 #[.int .i64 0, .int .i64 0, .int .i64 0] 38 ?_; intro go hg w6 hbox hb; have GEgo := zge hg HB; have NEg1_go := zne hg BKg1; have NEgd_go := zne hg BKgd; have NEgr_go := zne hg BKgr; replace HB := zW HB hb; replace BKg1 := zb BKg1 hb; replace BKgd := zb BKgd hb; replace BKgr := zb BKgr hb; have BKgo := Aside0.mk hbox; clear hb hbox hg)
    | (go_at_call 62; (with_reducible refine (on_try_ok ep A c cs epn An cn csn last day y mo d w _ g1 gd gr go HR.out HC.out HRn.out HCn.out HCAL.out HCALn.out HDT.out HB.out BKg1.out BKgd.out BKgr.out BKgo.out NEgr_go.out GEgo.out).mono ?_); rintro e w7 ⟨rfl, hgo, hgr, hb⟩; clear HB BKgr BKgo BKg1 BKgd; have HB := Aside0.mk hb; have BKgr := Aside0.mk hgr; have BKgo := Aside0.mk hgo; clear hb hgr hgo; have zo0 := zC BKgo)
    | ((with_reducible refine zH 38 4 rfl ?_); refine zSto 38 4 #[.int .i64 y, .int .i64 mo, .int .i64 d] BKgr ?_; intro w9 hw; replace HB := Aside0.mk (show Below w.heap.size w w9 by rw [hw]; exact below_setRow HB.out GEgr.out _); replace BKgr := znew hw BKgr; clear hw))
  refine bodyPost_ret (results_ct rfl _ _ gr 38 #[.int .i64 y, .int .i64 mo, .int .i64 d] (0, 0) _ rfl BKgr.out Tryz.underlying38 rfl (by kernel_rfl)) rfl ?_
  exact ⟨rfl, HB.out⟩
end Go.Proofs.YtnllidgonghckaaGreatDoor.X
