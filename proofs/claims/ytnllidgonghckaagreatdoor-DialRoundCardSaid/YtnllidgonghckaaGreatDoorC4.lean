/- What the laws' proofs have in common: contracts of the program's functions, whatever memory they are called in. Conditions stand in each statement (part 5 of 12). -/
import Derived.ArgAppend
import Derived.Below
import Derived.BigQuiet
import Derived.Deep.AppendLies
import Derived.Deep.CutBlock
import Derived.Deep.DeepCutAuto
import Derived.Deep.Draws
import Derived.Deep.LoopGhost
import Derived.Deep.OwnRows
import Derived.Deep.QuietTactic
import Derived.Deep.RegionHeld3
import Derived.KernelRfl
import Derived.Laws.BitsLemmas
import Derived.Laws.BytesArg
import Derived.Laws.CopyOwn
import Derived.Laws.IdiomCopy
import Derived.Laws.MakeOwn
import Derived.Laws.OwnMore
import Derived.Laws.Rows
import Derived.Laws.Slices
import Derived.Laws.StructEq
import Derived.Laws.Tables
import Derived.Lib.AppendStr
import Derived.Lib.ConvBytes
import Derived.Maps.AppendAt
import Derived.OrdersHeld
import Derived.OwnWalk
import Derived.RowKit
import Derived.RowKit3
import Derived.Tactics
import Derived.Test.YtnllidgonghckaaGreatDoorProg
import Derived.WalkKit
import Derived.WideLaws
import Derived.Test.YtnllidgonghckaaGreatDoorC3
namespace Go.Proofs.YtnllidgonghckaaGreatDoor.X
open Go.RowKit Go.Proofs.YtnllidgonghckaaGreatDoorW.PrintWords Go.Proofs.YtnllidgonghckaaGreatDoorW.PrintLast Go.Proofs.YtnllidgonghckaaGreatDoorW.PrintMore Go.Proofs.YtnllidgonghckaaGreatDoor.Dm
set_option linter.unusedVariables false
theorem Opd.setRow {ep : Int} {A : Option Addr} {c : Nat} {cs F : List Int} {a5 : Addr} {c5 mb : Nat} {w W : World} {go t : Nat} {cells : Array Value} (ht : 3 ≠ t) (z : w.heap.size ≤ go) (o : W.heap[go]? = some (.cells cells t (0, 0))) (h : Opd ep A c cs F a5 c5 mb w W) (new : Array Value) : Opd ep A c cs F a5 c5 mb w (W.setRow go new) :=
  ⟨h.hF, h.cal, h.rc, h.c, Kd.R_mono (Kd.R_step (Kd.R_types h.f o (by simpa [Kd.int, Kd.scalar] using ht)) (fun k hk _ => setRow_other W go k new hk.2)) (fun k hk => hk.1),
    (let ⟨es, cl, hm⟩ := h.m; ⟨es, cl, (setRow_other W go mb new (fun e => by have e' : mb = go := e; rw [e', o] at hm; cases hm)).trans hm⟩), below_setRow h.b z new, h.zmb⟩
theorem row_new {W : World} {g t : Nat} {cells : Array Value} (h : W.heap[g]? = some (.cells cells t (0, 0))) (new : Array Value) : (W.setRow g new).heap[g]? = some (.cells new t (0, 0)) := setRow_heap W g cells new t (0, 0) h
theorem row_far {W : World} {g k : Nat} {o : Obj} (new : Array Value) (ne : k ≠ g) (h : W.heap[k]? = some o) : (W.setRow g new).heap[k]? = some o := (setRow_other W g k new ne).trans h
section
variable {P : Program} {ops : Array Oper} {rest : List Oper} {o : Oper} {a : Act} {Q : Exit → Act → World → Prop} {Kc : Act → World → Prop} {W : World}
theorem store_row_step (hw : Region.wanted o (yielded ops a.tmps) = true) (hN : o.dst = none) (ty : TypeId) (x y : Operand) (ho : o.op = .store ty x y) {g t : Nat} {old : Array Value} (new : Array Value)
    (hg : W.heap[g]? = some (.cells old t (0, 0))) (hx : a.eval x = .pointer (some ⟨g, 0, none⟩)) (hy : a.eval y = .agg new) (hi : (P.info? ty).map (·.size) = some new.size) (hold : old.size = new.size) (h1 : new.all (·.oneCell') = true)
    (h : ∀ w', w' = W.setRow g new → Kc a w') : if Region.wanted o (yielded ops a.tmps) = true then Oper.wp P o a W Kc Q else Kc (a.put none undef) W := by
  rw [if_pos hw]
  unfold Oper.wp execOp
  simp only [ho, hx, hy, Instr.storeAt, Instr.sureAddr, Sem.run_bind, Sem.run_pure, Result.andThen_ok, run_storeVar_row W g t ty old new hg hi hold h1]
  show Kc (a.put o.dst undef) _
  rw [hN]
  exact h _ rfl
theorem store_row_event (hgd : o.guard = none) (hN : o.dst = none) (ty : TypeId) (x y : Operand) (ho : o.op = .store ty x y) {g t : Nat} {old : Array Value} (new : Array Value)
    (hg : W.heap[g]? = some (.cells old t (0, 0))) (hx : a.eval x = .pointer (some ⟨g, 0, none⟩)) (hy : a.eval y = .agg new) (hi : (P.info? ty).map (·.size) = some new.size) (hold : old.size = new.size) (h1 : new.all (·.oneCell') = true)
    (h : ∀ w', w' = W.setRow g new → wpList P ops Q rest a w') : wpList P ops Q (o :: rest) a W := by
  refine wpList_plain hgd fun K hK => ?_
  unfold Oper.wp execOp
  simp only [ho, hx, hy, Instr.storeAt, Instr.sureAddr, Sem.run_bind, Sem.run_pure, Result.andThen_ok, run_storeVar_row W g t ty old new hg hi hold h1]
  show K (a.put o.dst undef) _
  rw [hN]
  exact hK _ _ (h _ rfl)
end
end Go.Proofs.YtnllidgonghckaaGreatDoor.X
namespace Go.Proofs.YtnllidgonghckaaGreatDoor.X
open Go.RowKit Go.Proofs.YtnllidgonghckaaGreatDoorW.PrintWords Go.Proofs.YtnllidgonghckaaGreatDoorW.PrintLast Go.Proofs.YtnllidgonghckaaGreatDoorW.PrintMore Go.Proofs.YtnllidgonghckaaGreatDoor.Dm
section
variable {V W1 : World} {g t k : Nat} {o : Obj} {cs : Array Value}
theorem zfar {new : Array Value} (hw : W1 = V.setRow g new) (ne : k ≠ g) (h : Aside0 (V.heap[k]? = some o)) : Aside0 (W1.heap[k]? = some o) := ⟨by rw [hw]; exact row_far _ ne h.out⟩
theorem znew {new : Array Value} (hw : W1 = V.setRow g new) (h : Aside0 (V.heap[g]? = some (.cells cs t (0, 0)))) : Aside0 (W1.heap[g]? = some (.cells new t (0, 0))) := ⟨by rw [hw]; exact row_new h.out _⟩
theorem zWS {w0 : World} {new : Array Value} (hw : W1 = V.setRow g new) (z : Aside0 (w0.heap.size ≤ g)) (h : Aside0 (Below w0.heap.size w0 V)) : Aside0 (Below w0.heap.size w0 W1) := ⟨by rw [hw]; exact below_setRow h.out z.out new⟩
theorem zoS {ep : Int} {A : Option Addr} {c : Nat} {l F : List Int} {a5 : Addr} {c5 mb : Nat} {w : World} {new : Array Value} (hw : W1 = V.setRow g new) (z : Aside0 (w.heap.size ≤ g)) (b : Aside0 (V.heap[g]? = some (.cells cs t (0, 0)))) (h : Aside0 (Opd ep A c l F a5 c5 mb w V)) (ht : 3 ≠ t := by decide) : Aside0 (Opd ep A c l F a5 c5 mb w W1) := ⟨by rw [hw]; exact h.out.setRow ht z.out b.out _⟩
end
section
variable {P : Program} {Q : Exit → Act → World → Prop} {ops : Array Oper} {o : Oper} {rest : List Oper} {a : Act} {W : World}
theorem zSto (ty : TypeId) (p : Tmp) (new : Array Value) {v : Operand} {g t : Nat} {old : Array Value} (b : Aside0 (W.heap[g]? = some (.cells old t (0, 0)))) (h : ∀ w', w' = W.setRow g new → wpList P ops Q rest a w')
    (ho : o.op = .store ty (.tmp p) v := by rfl) (hgd : o.guard = none := by rfl) (hN : o.dst = none := by rfl) (hx : a.eval (.tmp p) = .pointer (some ⟨g, 0, none⟩) := by first | rfl | (go_simp; done)) (hy : a.eval v = .agg new := by first | rfl | (go_simp; done))
    (hi : (P.info? ty).map (·.size) = some new.size := by kernel_rfl) (hold : old.size = new.size := by rfl) (h1 : new.all (·.oneCell') = true := by simp [Value.oneCell']) : wpList P ops Q (o :: rest) a W :=
  store_row_event hgd hN ty (.tmp p) v ho new b.out hx hy hi hold h1 h
end
end Go.Proofs.YtnllidgonghckaaGreatDoor.X
namespace Go.Proofs.YtnllidgonghckaaGreatDoor.X
open Go.RowKit Go.Proofs.YtnllidgonghckaaGreatDoorW.PrintWords Go.Proofs.YtnllidgonghckaaGreatDoorW.PrintLast Go.Proofs.YtnllidgonghckaaGreatDoorW.PrintMore Go.Proofs.YtnllidgonghckaaGreatDoor.Dm
set_option linter.unusedVariables false
set_option linter.unusedSimpArgs false
attribute [local go_sem] max2_int min2_int max_two min_two max_three min_three max_four min_four
def letterA (ep : Int) (cs : List Int) (y : Int) : Int := 7 - (wday (fday ep cs y.toNat) + 6) % 7
def letterB (ep : Int) (cs : List Int) (y : Int) : Int := if leapB cs y then (letterA ep cs y + 5) % 7 + 1 else letterA ep cs y
theorem yearB_iff {y : Int} (h : yearB y = true) : 0 ≤ y ∧ y ≤ 4000 := by simpa [yearB] using h
theorem fday_bd (ep : Int) (cs : List Int) (y : Nat) (he : 0 ≤ ep ∧ ep ≤ 1000) (hy : y ≤ 4002) : 0 ≤ fday ep cs y ∧ fday ep cs y ≤ 1466000 := by
  have := fday_range ep cs y
  omega
set_option maxHeartbeats 8000000 in
set_option maxRecDepth 100000 in
theorem Letters_good (ep : Int) (A : Option Addr) (c : Nat) (cs : List Int) (y : Int) (w : World) (hr : Kd.C (Kd.int .i64) w A cs.length cs) (hc : cs.length ≤ c) (hcal : calB ep cs = true) (hy : yearB y = true) :
    Calls Tryz.prog 12 #[.agg #[.int .i64 ep, .slice A cs.length c], .int .i64 y] w fun e w' => e = .returned (.tuple #[.int .i64 (letterA ep cs y), .int .i64 (letterB ep cs y), .int .i64 0]) ∧ Below w.heap.size w w' := by
  obtain ⟨he0, he1, hl1, hl3, hmem⟩ := calB_iff hcal
  obtain ⟨hy0, hy1⟩ := yearB_iff hy
  obtain ⟨F, hF⟩ : ∃ F, firsts ep cs = F := ⟨_, rfl⟩
  obtain ⟨q, hq⟩ : ∃ q, fday ep cs y.toNat = q := ⟨_, rfl⟩
  have hqb := fday_bd ep cs y.toNat ⟨he0, he1⟩ (by omega)
  rw [hq] at hqb
  obtain ⟨q0, q1⟩ := hqb
  obtain ⟨d, hd⟩ : ∃ d, wday q = d := ⟨_, rfl⟩
  have hdb := wday_bd q
  rw [hd] at hdb
  obtain ⟨d0, d1⟩ := hdb
  have HFF := Aside0.mk hF
  have HD := Aside0.mk hd
  have HCAL := Aside0.mk hcal
  have HQ := Aside0.mk hq
  have HFL := Aside0.mk (show F.length = 4002 by rw [← hF]; exact firsts_length _ _)
  have RQ := Aside0.mk (show rd F y = q by rw [← hq, ← hF]; exact rd_firsts ep cs y hy0 (by omega))
  have HY0 := Aside0.mk hy0
  have HYF := Aside0.mk (show y < (F.length : Int) by rw [HFL.out]; omega)
  have HWB := Aside0.mk (show 0 ≤ q ∧ q ≤ 1000000000 by omega)
  clear hF hq hd hmem
  have hu24 := Tryz.underlying24
  have hu83 := Tryz.underlying83
  have HB := Aside0.mk (Below.refl w.heap.size w)
  have HR := Aside0.mk hr
  have HC := Aside0.mk hc
  clear hr hc
  cases hlp : leapB cs y
  all_goals
    have HLP := Aside0.mk hlp
    go_enter Tryz.func12, Tryz.ntmps12
    go_wp2_with (first
      | ((with_reducible refine zG 2 rfl ?_); refine zBox 2 #[.int .i64 ep, .slice A cs.length c] 24 ?_; intro g1 hg w1 hbox hb; have GEg1 := zge hg HB; replace HB := zW HB hb; have BKg1 := Aside0.mk hbox; clear hb hbox hg; have c0 := zC BKg1)
      | (go_at_call 46; (with_reducible refine (isCal_b ep A c cs w _ HR.out HC.out HB.out).mono ?_); rintro e w2 ⟨rfl, hb⟩; replace HB := zW HB hb; replace BKg1 := zb BKg1 hb; clear hb)
      | (go_at_call 47; (with_reducible refine (isYear_b y _).mono ?_); rintro e w3 ⟨rfl, hb⟩; replace HB := zW HB hb; replace BKg1 := zb BKg1 hb; clear hb; have d0 : w3.cell? ⟨g1, 0, none⟩ = some (.int .i64 ep) := zx BKg1 0; have d1 : w3.cell? ⟨g1, 1, none⟩ = some (.slice A cs.length c) := zx BKg1 1)
      | (go_at_call 48; (with_reducible refine (open_opd ep A c cs 0 0 0 w _ HR.out HC.out HCAL.out HB.out F HFF.out).mono ?_); rintro e w4 ⟨a5, c5, mb, rfl, ho, hb⟩; have OP := Aside0.mk ho; clear HB BKg1; clear ho hb)
      | ((with_reducible refine zG 7 rfl ?_); refine zBox 7 #[.int .i64 0, .slice none 0 0, .int .i64 0, .int .i64 0, .int .i64 0, .slice none 0 0, .map none] 83 ?_; intro go hg w5 hbox hb; have GEgo := zgo hg OP; replace OP := zo OP hb; have BKgo := Aside0.mk hbox; clear hb hbox hg; have z0 := zC BKgo; have f0 := zF BKgo)
      | ((with_reducible refine zH 83 7 rfl ?_); refine zSto 83 7 #[.int .i64 ep, .slice A cs.length c, .int .i64 0, .int .i64 0, .int .i64 0, .slice (some a5) F.length c5, .map (some mb)] BKgo ?_; intro w6 hw; replace OP := zoS hw GEgo BKgo OP; replace BKgo := znew hw BKgo; clear hw; have k0 := zC BKgo; obtain ⟨ad, ead, had⟩ := Kd.at_int OP.out.fr.1 y HY0.out HYF.out; cases ead; (rw [RQ.out] at had); have p1 := eq_true HY0.out; have p2 := eq_true HYF.out)
      | (go_at_call 49; (with_reducible refine (weekday_b q _ HWB.out.1 HWB.out.2).mono ?_); rintro e w7 ⟨rfl, hb⟩; replace OP := zo OP hb; replace BKgo := zb BKgo hb; clear hb; have m0 := zC BKgo; rw [HD.out])
      | (go_at_call 50; (with_reducible refine (leap_b 0 0 0 OP.out y).mono ?_); rintro e w8 ⟨rfl, hb⟩; replace OP := zo OP hb; replace BKgo := zb BKgo hb; clear hb))
    go_ret3
    refine ⟨?_, OP.out.b⟩
    simp only [letterA, letterB, HQ.out, HD.out, HLP.out]
    first | rfl | (simp; done)
end Go.Proofs.YtnllidgonghckaaGreatDoor.X
namespace Go.Proofs.YtnllidgonghckaaGreatDoor.X
open Go.RowKit Go.Proofs.YtnllidgonghckaaGreatDoorW.PrintWords Go.Proofs.YtnllidgonghckaaGreatDoorW.PrintLast Go.Proofs.YtnllidgonghckaaGreatDoorW.PrintMore Go.Proofs.YtnllidgonghckaaGreatDoor.Dm
set_option linter.unusedVariables false
set_option linter.unusedSimpArgs false
attribute [local go_sem] max2_int min2_int max_two min_two max_three min_three max_four min_four
def inB (a b c : Int) : Bool := decide (b ≤ a) && decide (a ≤ c)
def mdays (cs : List Int) (y mo : Int) : Int := rd (mlist (leapB cs y)) (mo - 1)
def dateB (cs : List Int) (y mo d : Int) : Bool := yearB y && inB mo 1 12 && inB d 1 (mdays cs y mo)
theorem in_b (a b c : Int) (w : World) : Calls Tryz.prog 70 #[.int .i64 a, .int .i64 b, .int .i64 c] w fun e w' => e = .returned (.bool (inB a b c)) ∧ Below w.heap.size w w' :=
  (dial_in.calls a b c _ w (in_f a b c)).mono fun _ _ h => ⟨h.1, h.2.below⟩
theorem in_l (a b c : Int) (r : Bool) (hr : inB a b c = r) (w : World) : Calls Tryz.prog 70 #[.int .i64 a, .int .i64 b, .int .i64 c] w fun e w' => e = .returned (.bool r) ∧ Below w.heap.size w w' :=
  (dial_in.calls a b c _ w ((in_f a b c).trans (congrArg some hr))).mono fun _ _ h => ⟨h.1, h.2.below⟩
theorem isYear_l (y : Int) (r : Bool) (hr : yearB y = r) (w : World) : Calls Tryz.prog 47 #[.int .i64 y] w fun e w' => e = .returned (.bool r) ∧ Below w.heap.size w w' :=
  (dial_isYear.calls y _ w ((isYear_f y).trans (congrArg some hr))).mono fun _ _ h => ⟨h.1, h.2.below⟩
theorem months_b (lp : Bool) (w : World) : Calls Tryz.prog 85 #[.bool lp] w fun e w' => ∃ (ad : Addr) (cz : Nat), e = .returned (.slice (some ad) 12 cz) ∧ Kd.C (Kd.int .i64) w' (some ad) 12 (mlist lp) ∧ Below w.heap.size w w' := by
  refine (dial_months.calls lp _ w (months_f lp)).mono ?_
  rintro e w' ⟨v, rfl, hR, hb⟩
  obtain ⟨A, cz, rfl, _, hC⟩ := Kd.R_reads hR
  obtain ⟨ad, e, _⟩ := Kd.at_int hC 0 (by omega) (by rw [mlist_length]; omega)
  cases e
  exact ⟨ad, cz, rfl, hC, hb⟩
theorem mlist_rd (lp : Bool) (ix : Int) : 0 ≤ rd (mlist lp) ix ∧ rd (mlist lp) ix ≤ 31 := by
  unfold rd
  rw [List.getD_eq_getElem?_getD]
  rcases Nat.lt_or_ge ix.toNat (mlist lp).length with h | h
  · rw [List.getElem?_eq_getElem h, Option.getD_some]
    have : ∀ x ∈ mlist lp, 0 ≤ x ∧ x ≤ 31 := by cases lp <;> decide
    exact this _ (List.getElem_mem h)
  · rw [List.getElem?_eq_none h]; simp
theorem isDate_f (k : Nat) (ep : Int) (cs : List Int) (m0 m1 m2 : Int) (fs : List Int) (mb : Option Nat) (y mo d : Int) (hnz : ∀ n ∈ cs, n ≠ 0) (hl : cs.length ≤ 1000) (hk : cs.length < k) :
    dial_opened_isDate.f k ep cs m0 m1 m2 fs mb y mo d = some (dateB cs y mo d) := by
  unfold dial_opened_isDate.f dateB
  rw [isYear_f, Option.bind_some]
  cases hy : yearB y with
  | false => simp
  | true =>
    rw [if_pos rfl, in_f, Option.bind_some]
    cases hm : (decide ((1 : Int) ≤ mo) && decide (mo ≤ 12)) with
    | false => simp [inB, hm]
    | true =>
      have hm' : 1 ≤ mo ∧ mo ≤ 12 := by simpa using hm
      rw [if_pos rfl, leap_f k ep cs m0 m1 m2 fs mb y hnz hl hk, Option.bind_some, months_f, Option.bind_some, wrap_of (mo - 1) (by omega) (by omega), if_pos (by omega), if_pos (by rw [mlist_length]; omega), in_f, Option.bind_some]
      simp [inB, hm, mdays]
      rfl
theorem isDate_b {ep : Int} {A : Option Addr} {c : Nat} {cs F : List Int} {a5 : Addr} {c5 mb : Nat} {w W : World} (m0 m1 m2 : Int) (h : Opd ep A c cs F a5 c5 mb w W) (y mo d : Int) (r : Bool) (hr : dateB cs y mo d = r) :
    Calls Tryz.prog 56 #[.agg #[.int .i64 ep, .slice A cs.length c, .int .i64 m0, .int .i64 m1, .int .i64 m2, .slice (some a5) F.length c5, .map (some mb)], .agg #[.int .i64 y, .int .i64 mo, .int .i64 d]] W fun e w' => e = .returned (.bool r) ∧ Below W.heap.size W w' :=
  dial_opened_isDate.calls 5 ep A c cs m0 m1 m2 (some a5) c5 F (some mb) y mo d _ W h.cr h.c h.fr.1 h.fr.2 ((isDate_f 5 ep cs m0 m1 m2 F (some mb) y mo d h.mem (by have := h.l3; omega) (by have := h.l3; omega)).trans (congrArg some hr))
def mbefore (cs : List Int) (y mo : Int) : Int := ((mlist (leapB cs y)).take (mo - 1).toNat).foldl (· + ·) 0
def dayOf (ep : Int) (cs : List Int) (y mo d : Int) : Int := fday ep cs y.toNat + mbefore cs y mo + d - 1
theorem mbefore_bd (cs : List Int) (y mo : Int) : 0 ≤ mbefore cs y mo ∧ mbefore cs y mo ≤ 366 := by
  unfold mbefore
  have key : ∀ (lp : Bool) (n : Nat), n ≤ 12 → 0 ≤ ((mlist lp).take n).foldl (· + ·) 0 ∧ ((mlist lp).take n).foldl (· + ·) 0 ≤ 366 := by
    intro lp n hn
    have : n = 0 ∨ n = 1 ∨ n = 2 ∨ n = 3 ∨ n = 4 ∨ n = 5 ∨ n = 6 ∨ n = 7 ∨ n = 8 ∨ n = 9 ∨ n = 10 ∨ n = 11 ∨ n = 12 := by omega
    rcases this with rfl | rfl | rfl | rfl | rfl | rfl | rfl | rfl | rfl | rfl | rfl | rfl | rfl <;> cases lp <;> decide
  rcases Nat.lt_or_ge (mo - 1).toNat 13 with h | h
  · exact key _ _ (by omega)
  · rw [List.take_of_length_le (by rw [mlist_length]; omega), ← List.take_of_length_le (l := mlist (leapB cs y)) (i := 12) (by rw [mlist_length]; omega)]
    exact key _ 12 (by omega)
theorem dateB_iff {cs : List Int} {y mo d : Int} (h : dateB cs y mo d = true) : 0 ≤ y ∧ y ≤ 4000 ∧ 1 ≤ mo ∧ mo ≤ 12 ∧ 1 ≤ d ∧ d ≤ mdays cs y mo := by
  simp only [dateB, inB, Bool.and_eq_true, decide_eq_true_eq] at h
  obtain ⟨⟨h1, h2, h3⟩, h4, h5⟩ := h
  have := yearB_iff h1
  exact ⟨this.1, this.2, h2, h3, h4, h5⟩
theorem day_f (k : Nat) (ep : Int) (cs : List Int) (m0 m1 m2 : Int) (mb : Option Nat) (y mo d : Int) (he : 0 ≤ ep ∧ ep ≤ 1000) (hnz : ∀ n ∈ cs, n ≠ 0) (hl : cs.length ≤ 1000) (hk : cs.length < k) (hk2 : 12 < k) (hd : 0 ≤ y ∧ y ≤ 4000 ∧ 1 ≤ mo ∧ mo ≤ 12 ∧ 1 ≤ d ∧ d ≤ 31) :
    dial_opened_day.f k ep cs m0 m1 m2 (firsts ep cs) mb y mo d = some (dayOf ep cs y mo d) := by
  obtain ⟨h1, h2, h3, h4, h5, h6⟩ := hd
  have hq := fday_bd ep cs y.toNat he (by omega)
  have hb := mbefore_bd cs y mo
  unfold dial_opened_day.f
  rw [if_pos h1, if_pos (by rw [firsts_length]; omega), leap_f k ep cs m0 m1 m2 _ mb y hnz hl hk, Option.bind_some, months_f, Option.bind_some, wrap_of (mo - 1) (by omega) (by omega), if_pos (by omega), if_pos (by rw [mlist_length]; omega),
    sum_f k _ (by rw [List.length_take, mlist_length]; omega) (fun x hx => mlist_mem _ x (List.mem_of_mem_take hx)) (by rw [List.length_take, mlist_length]; omega), Option.bind_some, rd_firsts ep cs y h1 (by omega)]
  unfold mbefore at hb
  unfold dayOf mbefore
  rw [wrap_of (fday ep cs y.toNat + _) (by omega) (by omega), wrap_of (_ + d) (by omega) (by omega), wrap_of (_ - 1) (by omega) (by omega)]
theorem day_b {ep : Int} {A : Option Addr} {c : Nat} {cs F : List Int} {a5 : Addr} {c5 mb : Nat} {w W : World} (m0 m1 m2 : Int) (h : Opd ep A c cs F a5 c5 mb w W) (y mo d : Int) (hd : 0 ≤ y ∧ y ≤ 4000 ∧ 1 ≤ mo ∧ mo ≤ 12 ∧ 1 ≤ d ∧ d ≤ 31) :
    Calls Tryz.prog 57 #[.agg #[.int .i64 ep, .slice A cs.length c, .int .i64 m0, .int .i64 m1, .int .i64 m2, .slice (some a5) F.length c5, .map (some mb)], .agg #[.int .i64 y, .int .i64 mo, .int .i64 d]] W fun e w' => e = .returned (.int .i64 (dayOf ep cs y mo d)) ∧ Below W.heap.size W w' :=
  dial_opened_day.calls 14 ep A c cs m0 m1 m2 (some a5) c5 F (some mb) y mo d _ W h.cr h.c h.fr.1 h.fr.2 (by rw [← h.hF]; exact day_f 14 ep cs m0 m1 m2 (some mb) y mo d ⟨(calB_iff h.cal).1, (calB_iff h.cal).2.1⟩ h.mem (by have := h.l3; omega) (by have := h.l3; omega) (by omega) hd)
set_option maxHeartbeats 8000000 in
set_option maxRecDepth 100000 in
theorem Day_1 (ep : Int) (A : Option Addr) (c : Nat) (cs : List Int) (y mo d : Int) (w : World) (hr : Kd.C (Kd.int .i64) w A cs.length cs) (hc : cs.length ≤ c) (hcal : calB ep cs = true) (hd : dateB cs y mo d = false) :
    Calls Tryz.prog 19 #[.agg #[.int .i64 ep, .slice A cs.length c], .agg #[.int .i64 y, .int .i64 mo, .int .i64 d]] w fun e w' => e = .returned (.tuple #[.int .i64 0, .int .i64 2]) ∧ Below w.heap.size w w' := by
  obtain ⟨F, hF⟩ : ∃ F, firsts ep cs = F := ⟨_, rfl⟩
  have HFF := Aside0.mk hF
  clear hF
  have HD := Aside0.mk hd
  clear hd
  have hu24 := Tryz.underlying24
  have hu38 := Tryz.underlying38
  have hu83 := Tryz.underlying83
  have HB := Aside0.mk (Below.refl w.heap.size w)
  have HR := Aside0.mk hr
  have HC := Aside0.mk hc
  have HCAL := Aside0.mk hcal
  clear hr hc hcal
  go_enter Tryz.func19, Tryz.ntmps19
  go_wp2_with (first
    | ((with_reducible refine zG 2 rfl ?_); refine zBox 2 #[.int .i64 ep, .slice A cs.length c] 24 ?_; intro g1 hg w1 hbox hb; have GEg1 := zge hg HB; replace HB := zW HB hb; have BKg1 := Aside0.mk hbox; clear hb hbox hg)
    | ((with_reducible refine zG 3 rfl ?_); refine zBox 3 #[.int .i64 y, .int .i64 mo, .int .i64 d] 38 ?_; intro g2 hg w2 hbox hb; have GEg2 := zge hg HB; replace HB := zW HB hb; replace BKg1 := zb BKg1 hb; have BKg2 := Aside0.mk hbox; clear hb hbox hg; have za0 := zC BKg1)
    | (go_at_call 46; (with_reducible refine (isCal_l ep A c cs true HCAL.out w _ HR.out HC.out HB.out).mono ?_); rintro e w3 ⟨rfl, hb⟩; replace HB := zW HB hb; replace BKg1 := zb BKg1 hb; replace BKg2 := zb BKg2 hb; clear hb; have zb0 := zC BKg1)
    | (go_at_call 48; (with_reducible refine (open_opd ep A c cs 0 0 0 w _ HR.out HC.out HCAL.out HB.out F HFF.out).mono ?_); rintro e w4 ⟨a5, c5, mb, rfl, ho, hb⟩; have OP := Aside0.mk ho; replace BKg2 := zb BKg2 hb; clear HB BKg1; clear ho hb)
    | ((with_reducible refine zG 6 rfl ?_); refine zBox 6 #[.int .i64 0, .slice none 0 0, .int .i64 0, .int .i64 0, .int .i64 0, .slice none 0 0, .map none] 83 ?_; intro go hg w5 hbox hb; have GEgo := zgo hg OP; have NEg2_go := zne hg BKg2; replace OP := zo OP hb; replace BKg2 := zb BKg2 hb; have BKgo := Aside0.mk hbox; clear hb hbox hg; have zz0 := zC BKgo; have zf0 := zF BKgo)
    | ((with_reducible refine zH 83 6 rfl ?_); refine zSto 83 6 #[.int .i64 ep, .slice A cs.length c, .int .i64 0, .int .i64 0, .int .i64 0, .slice (some a5) F.length c5, .map (some mb)] BKgo ?_; intro w6 hw; replace OP := zoS hw GEgo BKgo OP; replace BKg2 := zfar hw NEg2_go.out BKg2; replace BKgo := znew hw BKgo; clear hw; have zc0 := zC BKgo; have zd0 := zC BKg2)
    | (go_at_call 56; (with_reducible refine (isDate_b 0 0 0 OP.out y mo d false HD.out).mono ?_); rintro e w7 ⟨rfl, hb⟩; replace OP := zo OP hb; replace BKg2 := zb BKg2 hb; replace BKgo := zb BKgo hb; clear hb))
  go_ret2
  exact ⟨rfl, OP.out.b⟩
set_option maxHeartbeats 8000000 in
set_option maxRecDepth 100000 in
theorem Day_2 (ep : Int) (A : Option Addr) (c : Nat) (cs : List Int) (y mo d : Int) (w : World) (hr : Kd.C (Kd.int .i64) w A cs.length cs) (hc : cs.length ≤ c) (hcal : calB ep cs = true) (hd : dateB cs y mo d = true) :
    Calls Tryz.prog 19 #[.agg #[.int .i64 ep, .slice A cs.length c], .agg #[.int .i64 y, .int .i64 mo, .int .i64 d]] w fun e w' => e = .returned (.tuple #[.int .i64 (dayOf ep cs y mo d), .int .i64 0]) ∧ Below w.heap.size w w' := by
  obtain ⟨F, hF⟩ : ∃ F, firsts ep cs = F := ⟨_, rfl⟩
  have HFF := Aside0.mk hF
  clear hF
  have HD := Aside0.mk hd
  have HDB := Aside0.mk (show 0 ≤ y ∧ y ≤ 4000 ∧ 1 ≤ mo ∧ mo ≤ 12 ∧ 1 ≤ d ∧ d ≤ 31 from have h := dateB_iff hd; ⟨h.1, h.2.1, h.2.2.1, h.2.2.2.1, h.2.2.2.2.1, Int.le_trans h.2.2.2.2.2 (mlist_rd _ _).2⟩)
  clear hd
  have hu24 := Tryz.underlying24
  have hu38 := Tryz.underlying38
  have hu83 := Tryz.underlying83
  have HB := Aside0.mk (Below.refl w.heap.size w)
  have HR := Aside0.mk hr
  have HC := Aside0.mk hc
  have HCAL := Aside0.mk hcal
  clear hr hc hcal
  go_enter Tryz.func19, Tryz.ntmps19
  go_wp2_with (first
    | ((with_reducible refine zG 2 rfl ?_); refine zBox 2 #[.int .i64 ep, .slice A cs.length c] 24 ?_; intro g1 hg w1 hbox hb; have GEg1 := zge hg HB; replace HB := zW HB hb; have BKg1 := Aside0.mk hbox; clear hb hbox hg)
    | ((with_reducible refine zG 3 rfl ?_); refine zBox 3 #[.int .i64 y, .int .i64 mo, .int .i64 d] 38 ?_; intro g2 hg w2 hbox hb; have GEg2 := zge hg HB; replace HB := zW HB hb; replace BKg1 := zb BKg1 hb; have BKg2 := Aside0.mk hbox; clear hb hbox hg; have za0 := zC BKg1)
    | (go_at_call 46; (with_reducible refine (isCal_l ep A c cs true HCAL.out w _ HR.out HC.out HB.out).mono ?_); rintro e w3 ⟨rfl, hb⟩; replace HB := zW HB hb; replace BKg1 := zb BKg1 hb; replace BKg2 := zb BKg2 hb; clear hb; have zb0 := zC BKg1)
    | (go_at_call 48; (with_reducible refine (open_opd ep A c cs 0 0 0 w _ HR.out HC.out HCAL.out HB.out F HFF.out).mono ?_); rintro e w4 ⟨a5, c5, mb, rfl, ho, hb⟩; have OP := Aside0.mk ho; replace BKg2 := zb BKg2 hb; clear HB BKg1; clear ho hb)
    | ((with_reducible refine zG 6 rfl ?_); refine zBox 6 #[.int .i64 0, .slice none 0 0, .int .i64 0, .int .i64 0, .int .i64 0, .slice none 0 0, .map none] 83 ?_; intro go hg w5 hbox hb; have GEgo := zgo hg OP; have NEg2_go := zne hg BKg2; replace OP := zo OP hb; replace BKg2 := zb BKg2 hb; have BKgo := Aside0.mk hbox; clear hb hbox hg; have zz0 := zC BKgo; have zf0 := zF BKgo)
    | ((with_reducible refine zH 83 6 rfl ?_); refine zSto 83 6 #[.int .i64 ep, .slice A cs.length c, .int .i64 0, .int .i64 0, .int .i64 0, .slice (some a5) F.length c5, .map (some mb)] BKgo ?_; intro w6 hw; replace OP := zoS hw GEgo BKgo OP; replace BKg2 := zfar hw NEg2_go.out BKg2; replace BKgo := znew hw BKgo; clear hw; have zc0 := zC BKgo; have zd0 := zC BKg2)
    | (go_at_call 56; (with_reducible refine (isDate_b 0 0 0 OP.out y mo d true HD.out).mono ?_); rintro e w7 ⟨rfl, hb⟩; replace OP := zo OP hb; replace BKg2 := zb BKg2 hb; replace BKgo := zb BKgo hb; clear hb; have ze0 := zC BKgo; have zg0 := zC BKg2)
    | (go_at_call 57; (with_reducible refine (day_b 0 0 0 OP.out y mo d HDB.out).mono ?_); rintro e w8 ⟨rfl, hb⟩; replace OP := zo OP hb; replace BKg2 := zb BKg2 hb; replace BKgo := zb BKgo hb; clear hb))
  go_ret2
  exact ⟨rfl, OP.out.b⟩
end Go.Proofs.YtnllidgonghckaaGreatDoor.X
namespace Go.Proofs.YtnllidgonghckaaGreatDoor.X
open Go.RowKit Go.Proofs.YtnllidgonghckaaGreatDoorW.PrintWords Go.Proofs.YtnllidgonghckaaGreatDoorW.PrintLast Go.Proofs.YtnllidgonghckaaGreatDoorW.PrintMore Go.Proofs.YtnllidgonghckaaGreatDoor.Dm
set_option linter.unusedVariables false
set_option linter.unusedSimpArgs false
attribute [local go_sem] max2_int min2_int max_two min_two max_three min_three max_four min_four
theorem Opd.at {ep : Int} {A : Option Addr} {c : Nat} {cs F : List Int} {a5 : Addr} {c5 mb : Nat} {w W : World} (h : Opd ep A c cs F a5 c5 mb w W) (y : Int) (h0 : 0 ≤ y) (h1 : y < (F.length : Int)) : W.cell? (a5.add y.toNat) = some (.int .i64 (rd F y)) := by
  obtain ⟨ad, e, hx⟩ := Kd.at_int h.fr.1 y h0 h1
  cases e
  exact hx
theorem leap_l {ep : Int} {A : Option Addr} {c : Nat} {cs F : List Int} {a5 : Addr} {c5 mb : Nat} {w W : World} (m0 m1 m2 : Int) (h : Opd ep A c cs F a5 c5 mb w W) (y : Int) (r : Bool) (hr : leapB cs y = r) :
    Calls Tryz.prog 50 #[.agg #[.int .i64 ep, .slice A cs.length c, .int .i64 m0, .int .i64 m1, .int .i64 m2, .slice (some a5) F.length c5, .map (some mb)], .int .i64 y] W fun e w' => e = .returned (.bool r) ∧ Below W.heap.size W w' := by
  subst hr
  exact leap_b m0 m1 m2 h y
theorem weekday_l (q d : Int) (w : World) (hd : wday q = d) (h0 : 0 ≤ q) (h1 : q ≤ 1000000000) : Calls Tryz.prog 49 #[.int .i64 q] w fun e w' => e = .returned (.int .i64 d) ∧ Below w.heap.size w w' := by
  subst hd
  exact weekday_b q w h0 h1
def likeB (ep : Int) (cs : List Int) (y z : Int) : Bool := (leapB cs z == leapB cs y) && (wday (fday ep cs z.toNat) == wday (fday ep cs y.toNat))
def likeR (ep : Int) (cs : List Int) (y z : Int) : Option Nat := (List.range' z.toNat (4001 - z.toNat)).find? (fun n => likeB ep cs y n)
theorem likeR_step (ep : Int) (cs : List Int) (y z : Int) (h0 : 0 ≤ z) (h1 : z ≤ 4000) : likeR ep cs y z = if likeB ep cs y z then some z.toNat else likeR ep cs y (z + 1) := by
  unfold likeR
  obtain ⟨n, rfl⟩ : ∃ n : Nat, z = n := ⟨z.toNat, by omega⟩
  have e1 : 4001 - (n : Int).toNat = (4001 - ((n : Int) + 1).toNat) + 1 := by omega
  have e2 : ((n : Int) + 1).toNat = (n : Int).toNat + 1 := by omega
  rw [e1, List.range'_succ, List.find?_cons, e2]
  simp only [Int.toNat_natCast]
  cases likeB ep cs y n <;> rfl
theorem likeR_end (ep : Int) (cs : List Int) (y z : Int) (h1 : 4000 < z) : likeR ep cs y z = none := by
  unfold likeR
  rw [show 4001 - z.toNat = 0 by omega]
  rfl
def likeV : Option Nat → Int × Int
  | some n => (n, 0)
  | none => (0, 5)
def Like7.T : Bool × List (List Nat × List Nat) := (true, [([], []), ([], []), ([0, 1], [0, 1]), ([], []), ([], []), ([3, 4, 2], [3, 4]), ([2, 5], [2, 5]), ([6, 5], [6]), ([7], [7]), ([8, 7], [7, 8]), ([7], [7]), ([9, 10, 7], [7, 9, 10]), ([11, 7], [7, 11]), ([12, 7, 7], [7, 12]), ([7], [7]), ([14, 7], [7, 14]), ([7], [7]), ([15, 16, 7], [7, 15, 16]), ([17, 7], [7, 17]), ([18, 13, 7], [7, 18]), ([13, 19, 7], [7, 13, 19]), ([7, 20], [7, 20])])
def Like7.B : List Nat := [0, 0, 3, 0, 0, 31, 63, 127, 255, 511, 255, 2047, 4095, 8191, 255, 16639, 255, 114943, 246015, 524287, 1048575, 2097151]
theorem Like7.tab : rtab .any (opsOf Tryz.f13 7) = Like7.T := by kernel_rfl
theorem Like7.bits : waitsOk Like7.T.2 Like7.B = true := by kernel_rfl
set_option maxHeartbeats 8000000 in
set_option maxRecDepth 100000 in
theorem Like_good (ep : Int) (A : Option Addr) (c : Nat) (cs : List Int) (y : Int) (w : World) (hr : Kd.C (Kd.int .i64) w A cs.length cs) (hc : cs.length ≤ c) (hcal : calB ep cs = true) (hy : yearB y = true) (r1 r2 : Int) (hR : likeV (likeR ep cs y (y + 1)) = (r1, r2)) :
    Calls Tryz.prog 13 #[.agg #[.int .i64 ep, .slice A cs.length c], .int .i64 y] w fun e w' => e = .returned (.tuple #[.int .i64 r1, .int .i64 r2]) ∧ Below w.heap.size w w' := by
  obtain ⟨hy0, hy1⟩ := yearB_iff hy
  have hcb := calB_iff hcal
  have HE := Aside0.mk (show 0 ≤ ep ∧ ep ≤ 1000 from ⟨hcb.1, hcb.2.1⟩)
  clear hcb
  obtain ⟨F, hF⟩ : ∃ F, firsts ep cs = F := ⟨_, rfl⟩
  have HFF := Aside0.mk hF
  have HFL := Aside0.mk (show F.length = 4002 by rw [← hF]; exact firsts_length _ _)
  have HY := Aside0.mk hy
  have HCAL := Aside0.mk hcal
  have Y0 := Aside0.mk hy0
  have YF := Aside0.mk (show y < (F.length : Int) by rw [HFL.out]; omega)
  have HRR := Aside0.mk hR
  have wy1 : IntKind.i64.wrap (y + 1) = y + 1 := (i64_w _).trans (wrap_of (y + 1) (by omega) (by omega))
  have Y4 := Aside0.mk hy1
  clear hF hy hcal hR hy1
  have hu24 := Tryz.underlying24
  have hu83 := Tryz.underlying83
  have HB := Aside0.mk (Below.refl w.heap.size w)
  have HR := Aside0.mk hr
  have HC := Aside0.mk hc
  clear hr hc
  go_enter Tryz.func13, Tryz.ntmps13
  go_wp2_with (first
    | ((with_reducible refine zG 2 rfl ?_); refine zBox 2 #[.int .i64 ep, .slice A cs.length c] 24 ?_; intro g1 hg w1 hbox hb; have GEg1 := zge hg HB; replace HB := zW HB hb; have BKg1 := Aside0.mk hbox; clear hb hbox hg; have za0 := zC BKg1)
    | (go_at_call 46; (with_reducible refine (isCal_l ep A c cs true HCAL.out w _ HR.out HC.out HB.out).mono ?_); rintro e w2 ⟨rfl, hb⟩; replace HB := zW HB hb; replace BKg1 := zb BKg1 hb; clear hb)
    | (go_at_call 47; (with_reducible refine (isYear_l y true HY.out _).mono ?_); rintro e w3 ⟨rfl, hb⟩; replace HB := zW HB hb; replace BKg1 := zb BKg1 hb; clear hb; have zb0 := zC BKg1)
    | (go_at_call 48; (with_reducible refine (open_opd ep A c cs 0 0 0 w _ HR.out HC.out HCAL.out HB.out F HFF.out).mono ?_); rintro e w4 ⟨a5, c5, mb, rfl, ho, hb⟩; have OP := Aside0.mk ho; clear HB BKg1; clear ho hb)
    | ((with_reducible refine zG 6 rfl ?_); refine zBox 6 #[.int .i64 0, .slice none 0 0, .int .i64 0, .int .i64 0, .int .i64 0, .slice none 0 0, .map none] 83 ?_; intro go hg w5 hbox hb; have GEgo := zgo hg OP; replace OP := zo OP hb; have BKgo := Aside0.mk hbox; clear hb hbox hg; have zz0 := zC BKgo; have zf0 := zF BKgo)
    | ((with_reducible refine zH 83 6 rfl ?_); refine zSto 83 6 #[.int .i64 ep, .slice A cs.length c, .int .i64 0, .int .i64 0, .int .i64 0, .slice (some a5) F.length c5, .map (some mb)] BKgo ?_; intro w6 hw; replace OP := zoS hw GEgo BKgo OP; replace BKgo := znew hw BKgo; clear hw; have zc0 := zC BKgo))
  go_loopw [7] (fun v7 W => ∃ (z : Int), v7 = .int .i64 z ∧ y + 1 ≤ z ∧ z ≤ 4001 ∧ Aside0 (likeR ep cs y (y + 1) = likeR ep cs y z) ∧ Aside0 (Opd ep A c cs F a5 c5 mb w W) ∧ Aside0 (W.heap[go]? = some (.cells #[.int .i64 ep, .slice A cs.length c, .int .i64 0, .int .i64 0, .int .i64 0, .slice (some a5) F.length c5, .map (some mb)] 83 (0, 0)))) (fun i _ => (4001 - intOf i).toNat)
  case atStart => exact ⟨y + 1, by first | rfl | rw [wy1], by omega, by have := Y4.out; omega, ⟨rfl⟩, ⟨OP.out⟩, ⟨BKgo.out⟩⟩
  case round =>
    clear OP BKgo
    obtain ⟨z, rfl, hz0, hz1, HZ, OP, BKgo⟩ := hrel
    by_cases hz : z ≤ 4000
    · have Z0 := Aside0.mk (show 0 ≤ z by omega)
      have ZF := Aside0.mk (show z < (F.length : Int) by rw [HFL.out]; omega)
      have HST := Aside0.mk (likeR_step ep cs y z Z0.out hz)
      have HQ1 := Aside0.mk (show 0 ≤ rd F z ∧ rd F z ≤ 1000000000 by rw [OP.out.rdF z Z0.out (by omega)]; have := fday_bd ep cs z.toNat HE.out (by omega); omega)
      have HQ2 := Aside0.mk (show 0 ≤ rd F y ∧ rd F y ≤ 1000000000 by have y4 := Y4.out; rw [OP.out.rdF y Y0.out (by omega)]; have := fday_bd ep cs y.toNat HE.out (by omega); omega)
      have RZ := Aside0.mk (OP.out.rdF z Z0.out (by omega))
      have RY := Aside0.mk (show rd F y = fday ep cs y.toNat by have y4 := Y4.out; exact OP.out.rdF y Y0.out (by omega))
      have HQd1 := HQ1
      have HQd2 := HQ2
      clear HQ1 HQ2
      obtain ⟨t1, ht1⟩ : ∃ t, leapB cs z = t := ⟨_, rfl⟩
      obtain ⟨t2, ht2⟩ : ∃ t, leapB cs y = t := ⟨_, rfl⟩
      obtain ⟨d1, hd1⟩ : ∃ d, wday (rd F z) = d := ⟨_, rfl⟩
      obtain ⟨d2, hd2⟩ : ∃ d, wday (rd F y) = d := ⟨_, rfl⟩
      have HLB := Aside0.mk (show likeB ep cs y z = ((t1 == t2) && (d1 == d2)) by unfold likeB; rw [← RZ.out, ← RY.out, ht1, ht2, hd1, hd2])
      have HLt1 := Aside0.mk ht1
      have HLt2 := Aside0.mk ht2
      have Hd1 := Aside0.mk hd1
      have Hd2 := Aside0.mk hd2
      clear ht1 ht2 hd1 hd2
      have wz1 : IntKind.i64.wrap (z + 1) = z + 1 := (i64_w _).trans (wrap_of (z + 1) (by omega) (by omega))
      have hzb : decide (z ≤ 4000) = true := decide_eq_true hz
      have p1 := eq_true Z0.out
      have p2 := eq_true ZF.out
      have p3 := eq_true Y0.out
      have p4 := eq_true YF.out
      by_cases ct : t1 = t2
      · have ctb : (t1 == t2) = true := beq_iff_eq.mpr ct
        have ctd : decide (t1 = t2) = true := decide_eq_true ct
        by_cases cd : d1 = d2
        · have cdb : (d1 == d2) = true := beq_iff_eq.mpr cd
          have cdd : decide (d1 = d2) = true := decide_eq_true cd
          have H1 := Aside0.mk (show z = r1 ∧ 0 = r2 by
            have h := HRR.out
            rw [HZ.out, HST.out, HLB.out, ctb, cdb] at h
            simp only [Bool.and_self, if_true, likeV, Prod.mk.injEq] at h
            have := Z0.out
            omega)
          clear ct cd
          try go_wp2
          replace OP := zoD OP
          replace BKgo := zbD BKgo
          refine zStart 22 (fun w' => zCells w' go 0 [.int .i64 ep, .slice A cs.length c, .int .i64 0, .int .i64 0, .int .i64 0, .slice (some a5) F.length c5, .map (some mb)] ∧ w'.cell? (a5.add (z).toNat) = some (.int .i64 (rd F z)) ∧ w'.cell? (a5.add (y).toNat) = some (.int .i64 (rd F y))) #[false, false, false, false, false, false, false, false, false, false, false, false, false, false, false, false, false, false, false, false, false, false] Like7.tab Like7.bits ⟨zS BKgo, OP.out.at z Z0.out ZF.out, OP.out.at y Y0.out YF.out⟩ (fun hHeld HT_ HW_ => ?_)
          generalize wr.drew = wd at OP BKgo hHeld ⊢
          refine zP 1 (some 26) HT_ ?_
          refine zP 4 (some 29) HT_ ?_
          refine zT 0 (some 25) HT_ HW_ hHeld ?_
          refine zT 3 (some 28) HT_ HW_ hHeld ?_
          refine zGo 2 (some 27) HT_ Tryz.func50 #[.agg #[.int .i64 ep, .slice A cs.length c, .int .i64 0, .int .i64 0, .int .i64 0, .slice (some a5) F.length c5, .map (some mb)], .int .i64 z] ?_
          with_reducible refine (leap_l 0 0 0 OP.out z t1 HLt1.out).mono ?_
          rintro e wd_1 ⟨rfl, hb⟩
          replace OP := zo OP hb
          replace BKgo := zb BKgo hb
          clear hb hHeld
          refine zV ⟨zS BKgo, OP.out.at z Z0.out ZF.out, OP.out.at y Y0.out YF.out⟩ (fun hHeld => ?_)
          refine zGo 5 (some 30) HT_ Tryz.func50 #[.agg #[.int .i64 ep, .slice A cs.length c, .int .i64 0, .int .i64 0, .int .i64 0, .slice (some a5) F.length c5, .map (some mb)], .int .i64 y] ?_
          with_reducible refine (leap_l 0 0 0 OP.out y t2 HLt2.out).mono ?_
          rintro e wd_2 ⟨rfl, hb⟩
          replace OP := zo OP hb
          replace BKgo := zb BKgo hb
          clear hb hHeld
          refine zV ⟨zS BKgo, OP.out.at z Z0.out ZF.out, OP.out.at y Y0.out YF.out⟩ (fun hHeld => ?_)
          refine zP 6 (some 31) HT_ ?_
          refine zP 7 (some 32) HT_ ?_
          refine zP 8 (some 33) HT_ ?_
          refine zP 10 (some 35) HT_ ?_
          refine zP 14 (some 39) HT_ ?_
          refine zP 16 (some 41) HT_ ?_
          refine zT 9 (some 34) HT_ HW_ hHeld ?_
          refine zP 11 (some 36) HT_ ?_
          refine zT 12 (some 37) HT_ HW_ hHeld ?_
          refine zT 15 (some 40) HT_ HW_ hHeld ?_
          refine zP 17 (some 42) HT_ ?_
          refine zT 18 (some 43) HT_ HW_ hHeld ?_
          refine zGo 13 (some 38) HT_ Tryz.func49 #[.int .i64 (rd F z)] ?_
          with_reducible refine (weekday_l (rd F z) d1 _ Hd1.out HQd1.out.1 HQd1.out.2).mono ?_
          rintro e wd_3 ⟨rfl, hb⟩
          replace OP := zo OP hb
          replace BKgo := zb BKgo hb
          clear hb hHeld
          refine zV ⟨zS BKgo, OP.out.at z Z0.out ZF.out, OP.out.at y Y0.out YF.out⟩ (fun hHeld => ?_)
          refine zGo 19 (some 44) HT_ Tryz.func49 #[.int .i64 (rd F y)] ?_
          with_reducible refine (weekday_l (rd F y) d2 _ Hd2.out HQd2.out.1 HQd2.out.2).mono ?_
          rintro e wd_4 ⟨rfl, hb⟩
          replace OP := zo OP hb
          replace BKgo := zb BKgo hb
          clear hb hHeld
          refine zV ⟨zS BKgo, OP.out.at z Z0.out ZF.out, OP.out.at y Y0.out YF.out⟩ (fun hHeld => ?_)
          refine zP 20 (some 45) HT_ ?_
          refine zP 21 (some 46) HT_ ?_
          refine done_ (done_of HT_.out (by kernel_rfl)) ?_
          try go_wp2
          go_ret2
          obtain ⟨rfl, rfl⟩ := H1.out; exact ⟨rfl, OP.out.b⟩
        · have cdb : (d1 == d2) = false := beq_eq_false_iff_ne.mpr cd
          have cdd : decide (d1 = d2) = false := decide_eq_false cd
          have H1 := Aside0.mk (show likeR ep cs y (y + 1) = likeR ep cs y (z + 1) by
            rw [HZ.out, HST.out, HLB.out, ctb, cdb]
            simp)
          clear ct cd
          try go_wp2
          replace OP := zoD OP
          replace BKgo := zbD BKgo
          refine zStart 22 (fun w' => zCells w' go 0 [.int .i64 ep, .slice A cs.length c, .int .i64 0, .int .i64 0, .int .i64 0, .slice (some a5) F.length c5, .map (some mb)] ∧ w'.cell? (a5.add (z).toNat) = some (.int .i64 (rd F z)) ∧ w'.cell? (a5.add (y).toNat) = some (.int .i64 (rd F y))) #[false, false, false, false, false, false, false, false, false, false, false, false, false, false, false, false, false, false, false, false, false, false] Like7.tab Like7.bits ⟨zS BKgo, OP.out.at z Z0.out ZF.out, OP.out.at y Y0.out YF.out⟩ (fun hHeld HT_ HW_ => ?_)
          generalize wr.drew = wd at OP BKgo hHeld ⊢
          refine zP 1 (some 26) HT_ ?_
          refine zP 4 (some 29) HT_ ?_
          refine zT 0 (some 25) HT_ HW_ hHeld ?_
          refine zT 3 (some 28) HT_ HW_ hHeld ?_
          refine zGo 2 (some 27) HT_ Tryz.func50 #[.agg #[.int .i64 ep, .slice A cs.length c, .int .i64 0, .int .i64 0, .int .i64 0, .slice (some a5) F.length c5, .map (some mb)], .int .i64 z] ?_
          with_reducible refine (leap_l 0 0 0 OP.out z t1 HLt1.out).mono ?_
          rintro e wd_1 ⟨rfl, hb⟩
          replace OP := zo OP hb
          replace BKgo := zb BKgo hb
          clear hb hHeld
          refine zV ⟨zS BKgo, OP.out.at z Z0.out ZF.out, OP.out.at y Y0.out YF.out⟩ (fun hHeld => ?_)
          refine zGo 5 (some 30) HT_ Tryz.func50 #[.agg #[.int .i64 ep, .slice A cs.length c, .int .i64 0, .int .i64 0, .int .i64 0, .slice (some a5) F.length c5, .map (some mb)], .int .i64 y] ?_
          with_reducible refine (leap_l 0 0 0 OP.out y t2 HLt2.out).mono ?_
          rintro e wd_2 ⟨rfl, hb⟩
          replace OP := zo OP hb
          replace BKgo := zb BKgo hb
          clear hb hHeld
          refine zV ⟨zS BKgo, OP.out.at z Z0.out ZF.out, OP.out.at y Y0.out YF.out⟩ (fun hHeld => ?_)
          refine zP 6 (some 31) HT_ ?_
          refine zP 7 (some 32) HT_ ?_
          refine zP 8 (some 33) HT_ ?_
          refine zP 10 (some 35) HT_ ?_
          refine zP 14 (some 39) HT_ ?_
          refine zP 16 (some 41) HT_ ?_
          refine zT 9 (some 34) HT_ HW_ hHeld ?_
          refine zP 11 (some 36) HT_ ?_
          refine zT 12 (some 37) HT_ HW_ hHeld ?_
          refine zT 15 (some 40) HT_ HW_ hHeld ?_
          refine zP 17 (some 42) HT_ ?_
          refine zT 18 (some 43) HT_ HW_ hHeld ?_
          refine zGo 13 (some 38) HT_ Tryz.func49 #[.int .i64 (rd F z)] ?_
          with_reducible refine (weekday_l (rd F z) d1 _ Hd1.out HQd1.out.1 HQd1.out.2).mono ?_
          rintro e wd_3 ⟨rfl, hb⟩
          replace OP := zo OP hb
          replace BKgo := zb BKgo hb
          clear hb hHeld
          refine zV ⟨zS BKgo, OP.out.at z Z0.out ZF.out, OP.out.at y Y0.out YF.out⟩ (fun hHeld => ?_)
          refine zGo 19 (some 44) HT_ Tryz.func49 #[.int .i64 (rd F y)] ?_
          with_reducible refine (weekday_l (rd F y) d2 _ Hd2.out HQd2.out.1 HQd2.out.2).mono ?_
          rintro e wd_4 ⟨rfl, hb⟩
          replace OP := zo OP hb
          replace BKgo := zb BKgo hb
          clear hb hHeld
          refine zV ⟨zS BKgo, OP.out.at z Z0.out ZF.out, OP.out.at y Y0.out YF.out⟩ (fun hHeld => ?_)
          refine zP 20 (some 45) HT_ ?_
          refine zP 21 (some 46) HT_ ?_
          refine done_ (done_of HT_.out (by kernel_rfl)) ?_
          try go_wp2
          go_roundw
          case rel => exact ⟨z + 1, by first | rfl | rw [wz1], by omega, by omega, H1, OP, BKgo⟩
          case measure => simp [intOf, wz1]; omega
      · have ctb : (t1 == t2) = false := by simpa using ct
        have ctd : decide (t1 = t2) = false := decide_eq_false ct
        have H1 := Aside0.mk (show likeR ep cs y (y + 1) = likeR ep cs y (z + 1) by
          rw [HZ.out, HST.out, HLB.out, ctb]
          simp)
        clear ct
        try go_wp2
        replace OP := zoD OP
        replace BKgo := zbD BKgo
        refine zStart 22 (fun w' => zCells w' go 0 [.int .i64 ep, .slice A cs.length c, .int .i64 0, .int .i64 0, .int .i64 0, .slice (some a5) F.length c5, .map (some mb)]) #[false, false, false, false, false, false, false, false, false, false, false, false, false, false, false, false, false, false, false, false, false, false] Like7.tab Like7.bits (zS BKgo) (fun hHeld HT_ HW_ => ?_)
        generalize wr.drew = wd at OP BKgo hHeld ⊢
        refine zP 1 (some 26) HT_ ?_
        refine zP 4 (some 29) HT_ ?_
        refine zT 0 (some 25) HT_ HW_ hHeld ?_
        refine zT 3 (some 28) HT_ HW_ hHeld ?_
        refine zGo 2 (some 27) HT_ Tryz.func50 #[.agg #[.int .i64 ep, .slice A cs.length c, .int .i64 0, .int .i64 0, .int .i64 0, .slice (some a5) F.length c5, .map (some mb)], .int .i64 z] ?_
        with_reducible refine (leap_l 0 0 0 OP.out z t1 HLt1.out).mono ?_
        rintro e wd_1 ⟨rfl, hb⟩
        replace OP := zo OP hb
        replace BKgo := zb BKgo hb
        clear hb hHeld
        refine zV (zS BKgo) (fun hHeld => ?_)
        refine zGo 5 (some 30) HT_ Tryz.func50 #[.agg #[.int .i64 ep, .slice A cs.length c, .int .i64 0, .int .i64 0, .int .i64 0, .slice (some a5) F.length c5, .map (some mb)], .int .i64 y] ?_
        with_reducible refine (leap_l 0 0 0 OP.out y t2 HLt2.out).mono ?_
        rintro e wd_2 ⟨rfl, hb⟩
        replace OP := zo OP hb
        replace BKgo := zb BKgo hb
        clear hb hHeld
        refine zV (zS BKgo) (fun hHeld => ?_)
        refine zP 6 (some 31) HT_ ?_
        refine zP 7 (some 32) HT_ ?_
        refine zO 8 (some 33) HT_ ?_
        refine zO 9 (some 34) HT_ ?_
        refine zO 10 (some 35) HT_ ?_
        refine zO 11 (some 36) HT_ ?_
        refine zO 12 (some 37) HT_ ?_
        refine zO 13 (some 38) HT_ ?_
        refine zO 14 (some 39) HT_ ?_
        refine zO 15 (some 40) HT_ ?_
        refine zO 16 (some 41) HT_ ?_
        refine zO 17 (some 42) HT_ ?_
        refine zO 18 (some 43) HT_ ?_
        refine zO 19 (some 44) HT_ ?_
        refine zO 20 (some 45) HT_ ?_
        refine zP 21 (some 46) HT_ ?_
        refine done_ (done_of HT_.out (by kernel_rfl)) ?_
        try go_wp2
        go_roundw
        case rel => exact ⟨z + 1, by first | rfl | rw [wz1], by omega, by omega, H1, OP, BKgo⟩
        case measure => simp [intOf, wz1]; omega
    · have hzb : decide (z ≤ 4000) = false := decide_eq_false hz
      have H1 := Aside0.mk (show 0 = r1 ∧ 5 = r2 by
        have h := HRR.out
        rw [HZ.out, likeR_end ep cs y z (by omega)] at h
        simpa only [likeV, Prod.mk.injEq] using h)
      clear hz
      go_wp2
      go_ret2
      obtain ⟨rfl, rfl⟩ := H1.out; exact ⟨rfl, OP.out.b⟩
end Go.Proofs.YtnllidgonghckaaGreatDoor.X
namespace Go.Proofs.YtnllidgonghckaaGreatDoor.X
open Go.RowKit Go.Proofs.YtnllidgonghckaaGreatDoorW.PrintWords Go.Proofs.YtnllidgonghckaaGreatDoorW.PrintLast Go.Proofs.YtnllidgonghckaaGreatDoorW.PrintMore Go.Proofs.YtnllidgonghckaaGreatDoor.Dm
set_option linter.unusedVariables false
set_option linter.unusedSimpArgs false
attribute [local go_sem] max2_int min2_int max_two min_two max_three min_three max_four min_four
def Opens1.T : Bool × List (List Nat × List Nat) := (true, [([], []), ([], []), ([1], [1]), ([], []), ([2, 3], [2, 3]), ([], []), ([5], [5]), ([], []), ([6, 7, 4], [6, 7]), ([0, 4, 8], [0, 4, 8]), ([9, 8, 0, 1, 2, 3, 4, 5, 6, 7, 8, 9], [9])])
def Opens1.B : List Nat := [0, 0, 2, 0, 14, 0, 32, 0, 254, 511, 1023]
theorem Opens1.tab : rtab .any (opsOf Tryz.f68 1) = Opens1.T := by kernel_rfl
theorem Opens1.bits : waitsOk Opens1.T.2 Opens1.B = true := by kernel_rfl
set_option maxHeartbeats 8000000 in
set_option maxRecDepth 100000 in
theorem opens_opd (ep : Int) (A : Option Addr) (c : Nat) (cs : List Int) (epn : Int) (An : Option Addr) (cn : Nat) (csn : List Int) (last : Int) (w0 w : World) (hr : Kd.C (Kd.int .i64) w0 A cs.length cs) (hc : cs.length ≤ c) (hrn : Kd.C (Kd.int .i64) w0 An csn.length csn) (hcn : csn.length ≤ cn) (hcal : calB ep cs = true) (hcaln : calB epn csn = true) (hB : Below w0.heap.size w0 w) (F Fn : List Int) (hF : firsts ep cs = F) (hFn : firsts epn csn = Fn) :
    Calls Tryz.prog 68 #[.agg #[.int .i64 ep, .slice A cs.length c, .int .i64 epn, .slice An csn.length cn, .int .i64 last]] w fun e w' => ∃ (a5 : Addr) (c5 mb : Nat) (a5n : Addr) (c5n mbn : Nat), e = .returned (.agg #[.int .i64 ep, .slice A cs.length c, .int .i64 epn, .slice An csn.length cn, .int .i64 last, .int .i64 ep, .slice A cs.length c, .int .i64 0, .int .i64 0, .int .i64 0, .slice (some a5) F.length c5, .map (some mb), .int .i64 epn, .slice An csn.length cn, .int .i64 0, .int .i64 0, .int .i64 0, .slice (some a5n) Fn.length c5n, .map (some mbn)]) ∧
      Opd ep A c cs F a5 c5 mb w0 w' ∧ Opd epn An cn csn Fn a5n c5n mbn w0 w' ∧ Below w.heap.size w w' := by
  have hu24 := Tryz.underlying24
  have hu45 := Tryz.underlying45
  have hu63 := Tryz.underlying63
  have hu83 := Tryz.underlying83
  have hu92 := Tryz.underlying92
  have HB := Aside0.mk hB
  have HW := Aside0.mk (Below.refl w.heap.size w)
  have HR := Aside0.mk hr
  have HC := Aside0.mk hc
  have HRn := Aside0.mk hrn
  have HCn := Aside0.mk hcn
  have HCAL := Aside0.mk hcal
  have HCALn := Aside0.mk hcaln
  have HFF := Aside0.mk hF
  have HFFn := Aside0.mk hFn
  clear hr hc hrn hcn hcal hcaln hF hFn hB
  go_enter Tryz.func68, Tryz.ntmps68
  go_upto_region 1 with (first
    | ((with_reducible refine zG 1 rfl ?_); refine zBox 1 #[.int .i64 ep, .slice A cs.length c, .int .i64 epn, .slice An csn.length cn, .int .i64 last] 63 ?_; intro g1 hg w1 hbox hb; have GEg1 := zge hg HB; replace HB := zW HB hb; replace HW := zW HW hb; have BKg1 := Aside0.mk hbox; clear hb hbox hg)
    | ((with_reducible refine zG 2 rfl ?_); refine zBox 2 #[.int .i64 0, .slice none 0 0, .int .i64 0, .slice none 0 0, .int .i64 0, .int .i64 0, .slice none 0 0, .int .i64 0, .int .i64 0, .int .i64 0, .slice none 0 0, .map none, .int .i64 0, .slice none 0 0, .int .i64 0, .int .i64 0, .int .i64 0, .slice none 0 0, .map none] 92 ?_; intro g2 hg w2 hbox hb; have GW := zge hg HW; have GEg2 := zge hg HB; have NEg1_g2 := zne hg BKg1; replace HB := zW HB hb; replace HW := zW HW hb; replace BKg1 := zb BKg1 hb; have BKg2 := Aside0.mk hbox; clear hb hbox hg))
  replace HB := zWD HB
  replace HW := zWD HW
  replace BKg1 := zbD BKg1
  replace BKg2 := zbD BKg2
  refine zStart 11 (fun w' => zCells w' g1 0 [.int .i64 ep, .slice A cs.length c, .int .i64 epn, .slice An csn.length cn, .int .i64 last]) #[false, false, false, false, false, false, false, false, false, false, false] Opens1.tab Opens1.bits (zS BKg1) (fun hHeld HT_ HW_ => ?_)
  generalize w2.drew = wd at HB HW BKg1 BKg2 hHeld ⊢
  refine zP 1 (some 4) HT_ ?_
  refine zP 3 (some 6) HT_ ?_
  refine zP 5 (some 8) HT_ ?_
  refine zP 7 (some 10) HT_ ?_
  refine zT 0 (some 3) HT_ HW_ hHeld ?_
  refine zT 2 (some 5) HT_ HW_ hHeld ?_
  refine zT 6 (some 9) HT_ HW_ hHeld ?_
  refine zGo 4 (some 7) HT_ Tryz.func48 #[.agg #[.int .i64 ep, .slice A cs.length c], .agg #[.int .i64 0, .int .i64 0, .int .i64 0]] ?_
  with_reducible refine (open_opd ep A c cs 0 0 0 w0 _ HR.out HC.out HCAL.out HB.out F HFF.out).mono ?_
  rintro e wd_1 ⟨a5, c5, mb, rfl, ho, hb⟩
  replace HB := zW HB hb
  replace HW := zW HW hb
  replace BKg1 := zb BKg1 hb
  replace BKg2 := zb BKg2 hb
  have OP := Aside0.mk ho
  clear ho
  clear hb hHeld
  refine zV (zS BKg1) (fun hHeld => ?_)
  refine zGo 8 (some 11) HT_ Tryz.func48 #[.agg #[.int .i64 epn, .slice An csn.length cn], .agg #[.int .i64 0, .int .i64 0, .int .i64 0]] ?_
  with_reducible refine (open_opd epn An cn csn 0 0 0 w0 _ HRn.out HCn.out HCALn.out HB.out Fn HFFn.out).mono ?_
  rintro e wd_2 ⟨a5n, c5n, mbn, rfl, ho, hb⟩
  replace HB := zW HB hb
  replace HW := zW HW hb
  replace BKg1 := zb BKg1 hb
  replace BKg2 := zb BKg2 hb
  replace OP := zo OP hb
  have OPn := Aside0.mk ho
  clear ho
  clear hb hHeld
  refine zV (zS BKg1) (fun hHeld => ?_)
  refine zP 9 (some 12) HT_ ?_
  refine one_ (i := 10) (N := none) #[true, true, true, true, true, true, true, true, true, true, true] rfl rfl (one_of HT_.out (by kernel_rfl)) (by decide) (fun K hK => ?_)
  refine store_row_step (by rfl) rfl 92 _ _ rfl #[.int .i64 ep, .slice A cs.length c, .int .i64 epn, .slice An csn.length cn, .int .i64 last, .int .i64 ep, .slice A cs.length c, .int .i64 0, .int .i64 0, .int .i64 0, .slice (some a5) F.length c5, .map (some mb), .int .i64 epn, .slice An csn.length cn, .int .i64 0, .int .i64 0, .int .i64 0, .slice (some a5n) Fn.length c5n, .map (some mbn)] BKg2.out (by rfl) (by rfl) (by kernel_rfl) rfl (by simp [Value.oneCell']) ?_
  intro w' hw
  have n0_OP := Aside0.mk (show Opd ep A c cs F a5 c5 mb w0 w' by rw [hw]; exact Opd.setRow (by decide) GEg2.out BKg2.out OP.out _)
  have n0_OPn := Aside0.mk (show Opd epn An cn csn Fn a5n c5n mbn w0 w' by rw [hw]; exact Opd.setRow (by decide) GEg2.out BKg2.out OPn.out _)
  have n0_BKg1 := Aside0.mk (show w'.heap[g1]? = some (.cells #[.int .i64 ep, .slice A cs.length c, .int .i64 epn, .slice An csn.length cn, .int .i64 last] 63 (0, 0)) by rw [hw]; exact row_far _ NEg1_g2.out BKg1.out)
  have n0_BKg2 := Aside0.mk (show w'.heap[g2]? = some (.cells #[.int .i64 ep, .slice A cs.length c, .int .i64 epn, .slice An csn.length cn, .int .i64 last, .int .i64 ep, .slice A cs.length c, .int .i64 0, .int .i64 0, .int .i64 0, .slice (some a5) F.length c5, .map (some mb), .int .i64 epn, .slice An csn.length cn, .int .i64 0, .int .i64 0, .int .i64 0, .slice (some a5n) Fn.length c5n, .map (some mbn)] 92 (0, 0)) by rw [hw]; exact row_new BKg2.out _)
  have n0_HB := Aside0.mk (show Below w0.heap.size w0 w' by rw [hw]; exact below_setRow HB.out GEg2.out _)
  have n0_HW := Aside0.mk (show Below w.heap.size w w' by rw [hw]; exact below_setRow HW.out GW.out _)
  clear hw hHeld
  clear OP
  have OP := n0_OP
  clear n0_OP
  clear OPn
  have OPn := n0_OPn
  clear n0_OPn
  clear BKg1
  have BKg1 := n0_BKg1
  clear n0_BKg1
  clear BKg2
  have BKg2 := n0_BKg2
  clear n0_BKg2
  clear HB
  have HB := n0_HB
  clear n0_HB
  clear HW
  have HW := n0_HW
  clear n0_HW
  refine hK.out _ _ (zS BKg1) (fun hHeld => ?_)
  clear hK K
  refine done_ (done_of HT_.out (by kernel_rfl)) ?_
  try go_wp2
  refine bodyPost_ret (results_cell_row rfl _ _ g2 92 #[.int .i64 ep, .slice A cs.length c, .int .i64 epn, .slice An csn.length cn, .int .i64 last, .int .i64 ep, .slice A cs.length c, .int .i64 0, .int .i64 0, .int .i64 0, .slice (some a5) F.length c5, .map (some mb), .int .i64 epn, .slice An csn.length cn, .int .i64 0, .int .i64 0, .int .i64 0, .slice (some a5n) Fn.length c5n, .map (some mbn)] (0, 0) _ rfl BKg2.out Tryz.underlying92 rfl (by kernel_rfl)) rfl ?_
  exact ⟨a5, c5, mb, a5n, c5n, mbn, rfl, OP.out, OPn.out, HW.out⟩
end Go.Proofs.YtnllidgonghckaaGreatDoor.X
namespace Go.Proofs.YtnllidgonghckaaGreatDoor.X
open Go.RowKit Go.Proofs.YtnllidgonghckaaGreatDoorW.PrintWords Go.Proofs.YtnllidgonghckaaGreatDoorW.PrintLast Go.Proofs.YtnllidgonghckaaGreatDoorW.PrintMore Go.Proofs.YtnllidgonghckaaGreatDoor.Dm
set_option linter.unusedVariables false
set_option linter.unusedSimpArgs false
attribute [local go_sem] max2_int min2_int max_two min_two max_three min_three max_four min_four
def Days5.T : Bool × List (List Nat × List Nat) := (true, [([], []), ([0], [0]), ([], []), ([1, 2], [1, 2]), ([3, 3], [3]), ([4], [4]), ([5, 4], [4, 5]), ([4], [4]), ([6, 7, 4, 4], [4, 6, 7]), ([4], [4]), ([9, 4], [4, 9]), ([8, 10, 4], [4, 8, 10]), ([4, 11], [4, 11])])
def Days5.B : List Nat := [0, 1, 0, 7, 15, 31, 63, 31, 255, 31, 543, 2047, 4095]
theorem Days5.tab : rtab .any (opsOf Tryz.f35 5) = Days5.T := by kernel_rfl
theorem Days5.bits : waitsOk Days5.T.2 Days5.B = true := by kernel_rfl
def Days7.T : Bool × List (List Nat × List Nat) := (true, [([], []), ([0], [0]), ([], []), ([1, 2], [1, 2]), ([3, 3], [3]), ([4], [4]), ([5, 4], [4, 5]), ([4], [4]), ([6, 7, 4, 4], [4, 6, 7]), ([4], [4]), ([9, 4], [4, 9]), ([8, 10, 4], [4, 8, 10]), ([4, 11], [4, 11])])
def Days7.B : List Nat := [0, 1, 0, 7, 15, 31, 63, 31, 255, 31, 543, 2047, 4095]
theorem Days7.tab : rtab .any (opsOf Tryz.f35 7) = Days7.T := by kernel_rfl
theorem Days7.bits : waitsOk Days7.T.2 Days7.B = true := by kernel_rfl
theorem day_l {ep : Int} {A : Option Addr} {c : Nat} {cs F : List Int} {a5 : Addr} {c5 mb : Nat} {w W : World} (m0 m1 m2 : Int) (h : Opd ep A c cs F a5 c5 mb w W) (y mo d n : Int) (hn : dayOf ep cs y mo d = n) (hd : 0 ≤ y ∧ y ≤ 4000 ∧ 1 ≤ mo ∧ mo ≤ 12 ∧ 1 ≤ d ∧ d ≤ 31) :
    Calls Tryz.prog 57 #[.agg #[.int .i64 ep, .slice A cs.length c, .int .i64 m0, .int .i64 m1, .int .i64 m2, .slice (some a5) F.length c5, .map (some mb)], .agg #[.int .i64 y, .int .i64 mo, .int .i64 d]] W fun e w' => e = .returned (.int .i64 n) ∧ Below W.heap.size W w' := by
  subst hn
  exact day_b m0 m1 m2 h y mo d hd
def realmB (ep : Int) (cs : List Int) (epn : Int) (csn : List Int) (last : Int) : Bool := calB ep cs && calB epn csn && dayB last
theorem isRealm_f (k : Nat) (ep : Int) (cs : List Int) (epn : Int) (csn : List Int) (last : Int) (hk : 4 < k) : dial_isRealm.f k ep cs epn csn last = some (realmB ep cs epn csn last) := by
  unfold dial_isRealm.f realmB
  rw [isCalendar_f k ep cs hk, Option.bind_some, isCalendar_f k epn csn hk, Option.bind_some, isDay_f, Option.bind_some]
  cases calB ep cs <;> cases calB epn csn <;> simp
theorem isRealm_l (ep : Int) (A : Option Addr) (c : Nat) (cs : List Int) (epn : Int) (An : Option Addr) (cn : Nat) (csn : List Int) (last : Int) (r : Bool) (hr' : realmB ep cs epn csn last = r) (w0 w : World) (hr : Kd.C (Kd.int .i64) w0 A cs.length cs) (hc : cs.length ≤ c) (hrn : Kd.C (Kd.int .i64) w0 An csn.length csn) (hcn : csn.length ≤ cn) (hB : Below w0.heap.size w0 w) :
    Calls Tryz.prog 66 #[.agg #[.int .i64 ep, .slice A cs.length c, .int .i64 epn, .slice An csn.length cn, .int .i64 last]] w fun e w' => e = .returned (.bool r) ∧ Below w.heap.size w w' :=
  dial_isRealm.calls 5 ep A c cs epn An cn csn last _ w (Kd.C_below hr hB) hc (Kd.C_below hrn hB) hcn ((isRealm_f 5 ep cs epn csn last (by omega)).trans (congrArg some hr'))
def dayOld (ep : Int) (cs : List Int) (last y mo d : Int) : List Int := if (dateB cs y mo d && decide (dayOf ep cs y mo d ≤ last)) = true then [dayOf ep cs y mo d] else []
def dayNew (ep : Int) (cs : List Int) (last y mo d : Int) : List Int := if (dateB cs y mo d && decide (last < dayOf ep cs y mo d)) = true then [dayOf ep cs y mo d] else []
set_option maxHeartbeats 8000000 in
set_option maxRecDepth 100000 in
theorem Days_good (ep : Int) (A : Option Addr) (c : Nat) (cs : List Int) (epn : Int) (An : Option Addr) (cn : Nat) (csn : List Int) (last : Int) (y mo d : Int) (w : World) (hr : Kd.C (Kd.int .i64) w A cs.length cs) (hc : cs.length ≤ c) (hrn : Kd.C (Kd.int .i64) w An csn.length csn) (hcn : csn.length ≤ cn) (hrl : realmB ep cs epn csn last = true) (hy : yearB y = true) (hm : inB mo 1 12 = true) (hdd : inB d 1 31 = true) :
    Calls Tryz.prog 35 #[.agg #[.int .i64 ep, .slice A cs.length c, .int .i64 epn, .slice An csn.length cn, .int .i64 last], .agg #[.int .i64 y, .int .i64 mo, .int .i64 d]] w fun e w' => ∃ v, e = .returned (.tuple #[v, .int .i64 0]) ∧ Kd.R (Kd.int .i64) 3 w' w.heap.size (fun _ => True) v (dayOld ep cs last y mo d ++ dayNew epn csn last y mo d) ∧ Below w.heap.size w w' := by
  have hb3 : calB ep cs = true ∧ calB epn csn = true := by
    have := hrl
    simp only [realmB, Bool.and_eq_true] at this
    exact this.1
  have HCAL := Aside0.mk hb3.1
  have HCALn := Aside0.mk hb3.2
  clear hb3
  obtain ⟨F, hF⟩ : ∃ F, firsts ep cs = F := ⟨_, rfl⟩
  obtain ⟨Fn, hFn⟩ : ∃ F, firsts epn csn = F := ⟨_, rfl⟩
  have HFF := Aside0.mk hF
  have HFFn := Aside0.mk hFn
  obtain ⟨L1, hL1⟩ : ∃ L, dayOld ep cs last y mo d = L := ⟨_, rfl⟩
  obtain ⟨L2, hL2⟩ : ∃ L, L1 ++ dayNew epn csn last y mo d = L := ⟨_, rfl⟩
  have HLE := Aside0.mk (show dayOld ep cs last y mo d ++ dayNew epn csn last y mo d = L2 by rw [hL1]; exact hL2)
  have HLN1 := Aside0.mk (show L1.length ≤ 1 by rw [← hL1]; unfold dayOld; split <;> simp)
  unfold dayOld at hL1
  unfold dayNew at hL2
  have HLL1 := Aside0.mk hL1
  have HLL2 := Aside0.mk hL2
  clear hF hFn hL1 hL2
  have HREALM := Aside0.mk hrl
  clear hrl
  have HY := Aside0.mk hy
  clear hy
  have HM := Aside0.mk hm
  clear hm
  have HDD := Aside0.mk hdd
  clear hdd
  have hu24 := Tryz.underlying24
  have hu38 := Tryz.underlying38
  have hu63 := Tryz.underlying63
  have hu83 := Tryz.underlying83
  have hu92 := Tryz.underlying92
  have HB := Aside0.mk (Below.refl w.heap.size w)
  have HR := Aside0.mk hr
  have HC := Aside0.mk hc
  have HRn := Aside0.mk hrn
  have HCn := Aside0.mk hcn
  clear hr hc hrn hcn
  go_enter Tryz.func35, Tryz.ntmps35
  go_upto_region 5 with (first
    | ((with_reducible refine zG 2 rfl ?_); refine zBox 2 #[.int .i64 ep, .slice A cs.length c, .int .i64 epn, .slice An csn.length cn, .int .i64 last] 63 ?_; intro g1 hg w1 hbox hb; have GEg1 := zge hg HB; replace HB := zW HB hb; have BKg1 := Aside0.mk hbox; clear hb hbox hg)
    | ((with_reducible refine zG 3 rfl ?_); refine zBox 3 #[.int .i64 y, .int .i64 mo, .int .i64 d] 38 ?_; intro g2 hg w2 hbox hb; have GEg2 := zge hg HB; have NEg1_g2 := zne hg BKg1; replace HB := zW HB hb; replace BKg1 := zb BKg1 hb; have BKg2 := Aside0.mk hbox; clear hb hbox hg; have za0 := zC BKg1)
    | (go_at_call 66; (with_reducible refine (isRealm_l ep A c cs epn An cn csn last true HREALM.out w _ HR.out HC.out HRn.out HCn.out HB.out).mono ?_); rintro e w3 ⟨rfl, hb⟩; replace HB := zW HB hb; replace BKg1 := zb BKg1 hb; replace BKg2 := zb BKg2 hb; clear hb; have zw30 := zC BKg2)
    | (go_at_call 47; (with_reducible refine (isYear_l y true HY.out _).mono ?_); rintro e w4 ⟨rfl, hb⟩; replace HB := zW HB hb; replace BKg1 := zb BKg1 hb; replace BKg2 := zb BKg2 hb; clear hb; have zw40 := zC BKg2)
    | (go_at_call 70; (with_reducible refine (in_l mo 1 12 true HM.out _).mono ?_); rintro e w5 ⟨rfl, hb⟩; replace HB := zW HB hb; replace BKg1 := zb BKg1 hb; replace BKg2 := zb BKg2 hb; clear hb; have zw50 := zC BKg2)
    | (go_at_call 70; (with_reducible refine (in_l d 1 31 true HDD.out _).mono ?_); rintro e w6 ⟨rfl, hb⟩; replace HB := zW HB hb; replace BKg1 := zb BKg1 hb; replace BKg2 := zb BKg2 hb; clear hb; have zb0 := zC BKg1)
    | (go_at_call 68; (with_reducible refine (opens_opd ep A c cs epn An cn csn last w _ HR.out HC.out HRn.out HCn.out HCAL.out HCALn.out HB.out F Fn HFF.out HFFn.out).mono ?_); rintro e w7 ⟨a5, c5, mb, a5n, c5n, mbn, rfl, ho, hon, hb⟩; have OP := Aside0.mk ho; have OPn := Aside0.mk hon; replace BKg1 := zb BKg1 hb; replace BKg2 := zb BKg2 hb; clear HB; clear ho hon hb)
    | ((with_reducible refine zG 6 rfl ?_); refine zBox 6 #[.int .i64 0, .slice none 0 0, .int .i64 0, .slice none 0 0, .int .i64 0, .int .i64 0, .slice none 0 0, .int .i64 0, .int .i64 0, .int .i64 0, .slice none 0 0, .map none, .int .i64 0, .slice none 0 0, .int .i64 0, .int .i64 0, .int .i64 0, .slice none 0 0, .map none] 92 ?_; intro go hg w8 hbox hb; have GEgo := zgo hg OP; have NEg1_go := zne hg BKg1; have NEg2_go := zne hg BKg2; replace OP := zo OP hb; replace OPn := zo OPn hb; replace BKg1 := zb BKg1 hb; replace BKg2 := zb BKg2 hb; have BKgo := Aside0.mk hbox; clear hb hbox hg)
    | ((with_reducible refine zH 92 6 rfl ?_); refine zSto 92 6 #[.int .i64 ep, .slice A cs.length c, .int .i64 epn, .slice An csn.length cn, .int .i64 last, .int .i64 ep, .slice A cs.length c, .int .i64 0, .int .i64 0, .int .i64 0, .slice (some a5) F.length c5, .map (some mb), .int .i64 epn, .slice An csn.length cn, .int .i64 0, .int .i64 0, .int .i64 0, .slice (some a5n) Fn.length c5n, .map (some mbn)] BKgo ?_; intro w9 hw; replace OP := zoS hw GEgo BKgo OP; replace OPn := zoS hw GEgo BKgo OPn; replace BKg1 := zfar hw NEg1_go.out BKg1; replace BKg2 := zfar hw NEg2_go.out BKg2; replace BKgo := znew hw BKgo; clear hw))
  (try simp only [Act.put, List.setIfInBounds_toArray, List.set_cons_zero, List.set_cons_succ])
  have HB1 := Aside0.mk (Below.refl w9.heap.size w9)
  have HO := Aside0.mk (Kd.R_nil (Kd.int .i64) 3 w9 w9.heap.size (fun _ => True))
  have HLN := Aside0.mk (show ([] : List Int).length ≤ 1 by simp)
  go_cut [43] (fun vb wc => ∃ (b : Bool), vb = .bool b ∧ Aside0 ((dateB cs y mo d && decide (dayOf ep cs y mo d ≤ last)) = b) ∧ Aside0 (Kd.R (Kd.int .i64) 3 wc w9.heap.size (fun _ => True) (.slice none 0 0) (([] : List Int))) ∧ Aside0 (Below w9.heap.size w9 wc))
  case first =>
    cases hd : dateB cs y mo d with
    | false =>
      have HD := Aside0.mk hd
      clear hd
      try go_wp2
      replace HB1 := zWD HB1
      replace HO := zrD HO
      refine zStart 13 (fun w' => zCells w' go 5 [.int .i64 ep, .slice A cs.length c, .int .i64 0, .int .i64 0, .int .i64 0, .slice (some a5) F.length c5, .map (some mb)] ∧ zCells w' g2 0 [.int .i64 y, .int .i64 mo, .int .i64 d] ∧ w'.cell? ⟨g1, 4, none⟩ = some (.int .i64 last)) #[false, false, false, false, false, false, false, false, false, false, false, false, false] Days5.tab Days5.bits ⟨zS (Aside0.mk (blk_below BKgo.out HB1.out)), zS (Aside0.mk (blk_below BKg2.out HB1.out)), (blk_cell (blk_below BKg1.out HB1.out) 4).trans rfl⟩ (fun hHeld HT_ HW_ => ?_)
      generalize w9.drew = wd at HB1 HO hHeld ⊢
      refine zP 0 (some 31) HT_ ?_
      refine zT 1 (some 32) HT_ HW_ hHeld ?_
      refine zT 2 (some 33) HT_ HW_ hHeld ?_
      refine zGo 3 (some 34) HT_ Tryz.func56 #[.agg #[.int .i64 ep, .slice A cs.length c, .int .i64 0, .int .i64 0, .int .i64 0, .slice (some a5) F.length c5, .map (some mb)], .agg #[.int .i64 y, .int .i64 mo, .int .i64 d]] ?_
      with_reducible refine (isDate_b 0 0 0 (OP.out.below HB1.out) y mo d false HD.out).mono ?_
      rintro e wd_1 ⟨rfl, hb⟩
      replace HB1 := zW HB1 hb
      replace HO := zr HO hb
      clear hb hHeld
      refine zV ⟨zS (Aside0.mk (blk_below BKgo.out HB1.out)), zS (Aside0.mk (blk_below BKg2.out HB1.out)), (blk_cell (blk_below BKg1.out HB1.out) 4).trans rfl⟩ (fun hHeld => ?_)
      refine zP 4 (some 35) HT_ ?_
      refine zO 5 (some 36) HT_ ?_
      refine zO 6 (some 37) HT_ ?_
      refine zO 7 (some 38) HT_ ?_
      refine zO 8 (some 39) HT_ ?_
      refine zO 9 (some 40) HT_ ?_
      refine zO 10 (some 41) HT_ ?_
      refine zO 11 (some 42) HT_ ?_
      refine zP 12 (some 43) HT_ ?_
      refine done_ (done_of HT_.out (by kernel_rfl)) ?_
      try go_wp2
      go_meet
      case rel => exact ⟨false, rfl, ⟨by rw [HD.out]; rfl⟩, HO, HB1⟩
    | true =>
      have HD := Aside0.mk hd
      obtain ⟨n, hn⟩ : ∃ n, dayOf ep cs y mo d = n := ⟨_, rfl⟩
      have HN := Aside0.mk hn
      have HBD := Aside0.mk (show 0 ≤ y ∧ y ≤ 4000 ∧ 1 ≤ mo ∧ mo ≤ 12 ∧ 1 ≤ d ∧ d ≤ 31 from have h := dateB_iff hd; ⟨h.1, h.2.1, h.2.2.1, h.2.2.2.1, h.2.2.2.2.1, Int.le_trans h.2.2.2.2.2 (mlist_rd _ _).2⟩)
      by_cases hle : n ≤ last
      · have hle' : decide (n ≤ last) = true := decide_eq_true hle
        have HLE' := Aside0.mk hle'
        clear hd hn hle
        try go_wp2
        replace HB1 := zWD HB1
        replace HO := zrD HO
        refine zStart 13 (fun w' => zCells w' go 5 [.int .i64 ep, .slice A cs.length c, .int .i64 0, .int .i64 0, .int .i64 0, .slice (some a5) F.length c5, .map (some mb)] ∧ zCells w' g2 0 [.int .i64 y, .int .i64 mo, .int .i64 d] ∧ w'.cell? ⟨g1, 4, none⟩ = some (.int .i64 last)) #[false, false, false, false, false, false, false, false, false, false, false, false, false] Days5.tab Days5.bits ⟨zS (Aside0.mk (blk_below BKgo.out HB1.out)), zS (Aside0.mk (blk_below BKg2.out HB1.out)), (blk_cell (blk_below BKg1.out HB1.out) 4).trans rfl⟩ (fun hHeld HT_ HW_ => ?_)
        generalize w9.drew = wd at HB1 HO hHeld ⊢
        refine zP 0 (some 31) HT_ ?_
        refine zT 1 (some 32) HT_ HW_ hHeld ?_
        refine zT 2 (some 33) HT_ HW_ hHeld ?_
        refine zGo 3 (some 34) HT_ Tryz.func56 #[.agg #[.int .i64 ep, .slice A cs.length c, .int .i64 0, .int .i64 0, .int .i64 0, .slice (some a5) F.length c5, .map (some mb)], .agg #[.int .i64 y, .int .i64 mo, .int .i64 d]] ?_
        with_reducible refine (isDate_b 0 0 0 (OP.out.below HB1.out) y mo d true HD.out).mono ?_
        rintro e wd_1 ⟨rfl, hb⟩
        replace HB1 := zW HB1 hb
        replace HO := zr HO hb
        clear hb hHeld
        refine zV ⟨zS (Aside0.mk (blk_below BKgo.out HB1.out)), zS (Aside0.mk (blk_below BKg2.out HB1.out)), (blk_cell (blk_below BKg1.out HB1.out) 4).trans rfl⟩ (fun hHeld => ?_)
        refine zP 4 (some 35) HT_ ?_
        refine zP 5 (some 36) HT_ ?_
        refine zP 9 (some 40) HT_ ?_
        refine zT 6 (some 37) HT_ HW_ hHeld ?_
        refine zT 7 (some 38) HT_ HW_ hHeld ?_
        refine zT 10 (some 41) HT_ HW_ hHeld ?_
        refine zGo 8 (some 39) HT_ Tryz.func57 #[.agg #[.int .i64 ep, .slice A cs.length c, .int .i64 0, .int .i64 0, .int .i64 0, .slice (some a5) F.length c5, .map (some mb)], .agg #[.int .i64 y, .int .i64 mo, .int .i64 d]] ?_
        with_reducible refine (day_l 0 0 0 (OP.out.below HB1.out) y mo d n HN.out HBD.out).mono ?_
        rintro e wd_2 ⟨rfl, hb⟩
        replace HB1 := zW HB1 hb
        replace HO := zr HO hb
        clear hb hHeld
        refine zV ⟨zS (Aside0.mk (blk_below BKgo.out HB1.out)), zS (Aside0.mk (blk_below BKg2.out HB1.out)), (blk_cell (blk_below BKg1.out HB1.out) 4).trans rfl⟩ (fun hHeld => ?_)
        refine zP 11 (some 42) HT_ ?_
        refine zP 12 (some 43) HT_ ?_
        refine done_ (done_of HT_.out (by kernel_rfl)) ?_
        try go_wp2
        go_meet
        case rel => exact ⟨true, rfl, ⟨by rw [HD.out, HN.out, HLE'.out]; rfl⟩, HO, HB1⟩
      · have hle' : decide (n ≤ last) = false := decide_eq_false hle
        have HLE' := Aside0.mk hle'
        clear hd hn hle
        try go_wp2
        replace HB1 := zWD HB1
        replace HO := zrD HO
        refine zStart 13 (fun w' => zCells w' go 5 [.int .i64 ep, .slice A cs.length c, .int .i64 0, .int .i64 0, .int .i64 0, .slice (some a5) F.length c5, .map (some mb)] ∧ zCells w' g2 0 [.int .i64 y, .int .i64 mo, .int .i64 d] ∧ w'.cell? ⟨g1, 4, none⟩ = some (.int .i64 last)) #[false, false, false, false, false, false, false, false, false, false, false, false, false] Days5.tab Days5.bits ⟨zS (Aside0.mk (blk_below BKgo.out HB1.out)), zS (Aside0.mk (blk_below BKg2.out HB1.out)), (blk_cell (blk_below BKg1.out HB1.out) 4).trans rfl⟩ (fun hHeld HT_ HW_ => ?_)
        generalize w9.drew = wd at HB1 HO hHeld ⊢
        refine zP 0 (some 31) HT_ ?_
        refine zT 1 (some 32) HT_ HW_ hHeld ?_
        refine zT 2 (some 33) HT_ HW_ hHeld ?_
        refine zGo 3 (some 34) HT_ Tryz.func56 #[.agg #[.int .i64 ep, .slice A cs.length c, .int .i64 0, .int .i64 0, .int .i64 0, .slice (some a5) F.length c5, .map (some mb)], .agg #[.int .i64 y, .int .i64 mo, .int .i64 d]] ?_
        with_reducible refine (isDate_b 0 0 0 (OP.out.below HB1.out) y mo d true HD.out).mono ?_
        rintro e wd_1 ⟨rfl, hb⟩
        replace HB1 := zW HB1 hb
        replace HO := zr HO hb
        clear hb hHeld
        refine zV ⟨zS (Aside0.mk (blk_below BKgo.out HB1.out)), zS (Aside0.mk (blk_below BKg2.out HB1.out)), (blk_cell (blk_below BKg1.out HB1.out) 4).trans rfl⟩ (fun hHeld => ?_)
        refine zP 4 (some 35) HT_ ?_
        refine zP 5 (some 36) HT_ ?_
        refine zP 9 (some 40) HT_ ?_
        refine zT 6 (some 37) HT_ HW_ hHeld ?_
        refine zT 7 (some 38) HT_ HW_ hHeld ?_
        refine zT 10 (some 41) HT_ HW_ hHeld ?_
        refine zGo 8 (some 39) HT_ Tryz.func57 #[.agg #[.int .i64 ep, .slice A cs.length c, .int .i64 0, .int .i64 0, .int .i64 0, .slice (some a5) F.length c5, .map (some mb)], .agg #[.int .i64 y, .int .i64 mo, .int .i64 d]] ?_
        with_reducible refine (day_l 0 0 0 (OP.out.below HB1.out) y mo d n HN.out HBD.out).mono ?_
        rintro e wd_2 ⟨rfl, hb⟩
        replace HB1 := zW HB1 hb
        replace HO := zr HO hb
        clear hb hHeld
        refine zV ⟨zS (Aside0.mk (blk_below BKgo.out HB1.out)), zS (Aside0.mk (blk_below BKg2.out HB1.out)), (blk_cell (blk_below BKg1.out HB1.out) 4).trans rfl⟩ (fun hHeld => ?_)
        refine zP 11 (some 42) HT_ ?_
        refine zP 12 (some 43) HT_ ?_
        refine done_ (done_of HT_.out (by kernel_rfl)) ?_
        try go_wp2
        go_meet
        case rel => exact ⟨false, rfl, ⟨by rw [HD.out, HN.out, HLE'.out]; rfl⟩, HO, HB1⟩
  case rest =>
    clear HB1 HO
    obtain ⟨b, rfl, HBB, HO, HB1⟩ := hcut
    go_upto_if 43 with (fail)
    (try simp only [Act.put, List.setIfInBounds_toArray, List.set_cons_zero, List.set_cons_succ])
    go_cut [7] (fun v7 wc => ∃ (v : Value), v7 = v ∧ Aside0 (Kd.R (Kd.int .i64) 3 wc w9.heap.size (fun _ => True) v L1) ∧ Aside0 (Below w9.heap.size w9 wc))
    case first =>
      cases b with
      | false =>
        have HL := Aside0.mk (show L1 = ([] : List Int) by rw [← HLL1.out, HBB.out]; simp)
        go_wp2
        go_meet
        case rel => exact ⟨_, rfl, ⟨by rw [HL.out]; exact HO.out⟩, HB1⟩
      | true =>
        have hd : dateB cs y mo d = true := by have := HBB.out; rw [Bool.and_eq_true] at this; exact this.1
        obtain ⟨n, hn⟩ : ∃ n, dayOf ep cs y mo d = n := ⟨_, rfl⟩
        have HN := Aside0.mk hn
        have HBD := Aside0.mk (show 0 ≤ y ∧ y ≤ 4000 ∧ 1 ≤ mo ∧ mo ≤ 12 ∧ 1 ≤ d ∧ d ≤ 31 from have h := dateB_iff hd; ⟨h.1, h.2.1, h.2.2.1, h.2.2.2.1, h.2.2.2.2.1, Int.le_trans h.2.2.2.2.2 (mlist_rd _ _).2⟩)
        have HL := Aside0.mk (show L1 = ([] : List Int) ++ [n] by rw [← HLL1.out, HBB.out, hn]; simp)
        clear hd hn
        have yy0 : wc.cell? ⟨go, 5, none⟩ = some (.int .i64 ep) := (blk_cell (blk_below BKgo.out HB1.out) 5).trans rfl
        have yy1 : wc.cell? ⟨go, 6, none⟩ = some (.slice A cs.length c) := (blk_cell (blk_below BKgo.out HB1.out) 6).trans rfl
        have yy2 : wc.cell? ⟨go, 7, none⟩ = some (.int .i64 0) := (blk_cell (blk_below BKgo.out HB1.out) 7).trans rfl
        have yy3 : wc.cell? ⟨go, 8, none⟩ = some (.int .i64 0) := (blk_cell (blk_below BKgo.out HB1.out) 8).trans rfl
        have yy4 : wc.cell? ⟨go, 9, none⟩ = some (.int .i64 0) := (blk_cell (blk_below BKgo.out HB1.out) 9).trans rfl
        have yy5 : wc.cell? ⟨go, 10, none⟩ = some (.slice (some a5) F.length c5) := (blk_cell (blk_below BKgo.out HB1.out) 10).trans rfl
        have yy6 : wc.cell? ⟨go, 11, none⟩ = some (.map (some mb)) := (blk_cell (blk_below BKgo.out HB1.out) 11).trans rfl
        have xx0 : wc.cell? ⟨g2, 0, none⟩ = some (.int .i64 y) := (blk_cell (blk_below BKg2.out HB1.out) 0).trans rfl
        have xx1 : wc.cell? ⟨g2, 1, none⟩ = some (.int .i64 mo) := (blk_cell (blk_below BKg2.out HB1.out) 1).trans rfl
        have xx2 : wc.cell? ⟨g2, 2, none⟩ = some (.int .i64 d) := (blk_cell (blk_below BKg2.out HB1.out) 2).trans rfl
        go_wp2_with (first
          | (go_at_call 57; (with_reducible refine (day_l 0 0 0 (OP.out.below HB1.out) y mo d n HN.out HBD.out).mono ?_); rintro e wd_3 ⟨rfl, hb⟩; replace HB1 := zW HB1 hb; replace HO := zr HO hb; clear hb)
          | ((with_reducible refine gate_builtin (b := .append) (xs := #[.tmp 44, .tmp 49]) rfl ?_); at_builtin; refine Kd.R_append (Kd.int .i64) (w0 := w9) w9.heap.size rfl (.tmp 44) (.tmp 49) 22 3 (.int .i64 0) 8 rfl Tryz.underlying22 info3 rfl (by decide) (by omega) (.slice none 0 0) (([] : List Int)) n [.int .i64 n] (fun _ => True) (fun _ => False) rfl rfl ?aP (fun _ hk => hk.elim) ?aF ?aO ?aB ?aS ?aL ?_; (case aP => exact rfl); (case aF => exact fun _ _ => trivial); (case aO => exact HO.out); (case aB => exact HB1.out); (case aS => exact HB1.out.size); (case aL => first | (simp; done) | (have := HLN.out; omega)); intro v1 wd_4 ho hb hg _hat; clear HB1 HO; have HB1 := Aside0.mk hb; have HO := Aside0.mk ho; clear hb ho hg _hat))
        go_meet
        case rel => exact ⟨_, rfl, ⟨by rw [HL.out]; exact HO.out⟩, HB1⟩
    case rest =>
      clear HB1 HO HLN HBB
      obtain ⟨v7, e_, HO, HB1⟩ := hcut
      replace e_ := e_.symm
      subst e_
      have HLN := HLN1
      go_upto_region 7 with (fail)
      (try simp only [Act.put, List.setIfInBounds_toArray, List.set_cons_zero, List.set_cons_succ])
      go_cut [63] (fun vb wc => ∃ (b : Bool), vb = .bool b ∧ Aside0 ((dateB csn y mo d && decide (last < dayOf epn csn y mo d)) = b) ∧ Aside0 (Kd.R (Kd.int .i64) 3 wc w9.heap.size (fun _ => True) (v7) (L1)) ∧ Aside0 (Below w9.heap.size w9 wc))
      case first =>
        cases hd : dateB csn y mo d with
        | false =>
          have HDn := Aside0.mk hd
          clear hd
          try go_wp2
          replace HB1 := zWD HB1
          replace HO := zrD HO
          refine zStart 13 (fun w' => zCells w' go 12 [.int .i64 epn, .slice An csn.length cn, .int .i64 0, .int .i64 0, .int .i64 0, .slice (some a5n) Fn.length c5n, .map (some mbn)] ∧ zCells w' g2 0 [.int .i64 y, .int .i64 mo, .int .i64 d] ∧ w'.cell? ⟨g1, 4, none⟩ = some (.int .i64 last)) #[false, false, false, false, false, false, false, false, false, false, false, false, false] Days7.tab Days7.bits ⟨zS (Aside0.mk (blk_below BKgo.out HB1.out)), zS (Aside0.mk (blk_below BKg2.out HB1.out)), (blk_cell (blk_below BKg1.out HB1.out) 4).trans rfl⟩ (fun hHeld HT_ HW_ => ?_)
          generalize wc.drew = we at HB1 HO hHeld ⊢
          refine zP 0 (some 51) HT_ ?_
          refine zT 1 (some 52) HT_ HW_ hHeld ?_
          refine zT 2 (some 53) HT_ HW_ hHeld ?_
          refine zGo 3 (some 54) HT_ Tryz.func56 #[.agg #[.int .i64 epn, .slice An csn.length cn, .int .i64 0, .int .i64 0, .int .i64 0, .slice (some a5n) Fn.length c5n, .map (some mbn)], .agg #[.int .i64 y, .int .i64 mo, .int .i64 d]] ?_
          with_reducible refine (isDate_b 0 0 0 (OPn.out.below HB1.out) y mo d false HDn.out).mono ?_
          rintro e we_1 ⟨rfl, hb⟩
          replace HB1 := zW HB1 hb
          replace HO := zr HO hb
          clear hb hHeld
          refine zV ⟨zS (Aside0.mk (blk_below BKgo.out HB1.out)), zS (Aside0.mk (blk_below BKg2.out HB1.out)), (blk_cell (blk_below BKg1.out HB1.out) 4).trans rfl⟩ (fun hHeld => ?_)
          refine zP 4 (some 55) HT_ ?_
          refine zO 5 (some 56) HT_ ?_
          refine zO 6 (some 57) HT_ ?_
          refine zO 7 (some 58) HT_ ?_
          refine zO 8 (some 59) HT_ ?_
          refine zO 9 (some 60) HT_ ?_
          refine zO 10 (some 61) HT_ ?_
          refine zO 11 (some 62) HT_ ?_
          refine zP 12 (some 63) HT_ ?_
          refine done_ (done_of HT_.out (by kernel_rfl)) ?_
          try go_wp2
          go_meet
          case rel => exact ⟨false, rfl, ⟨by rw [HDn.out]; rfl⟩, HO, HB1⟩
        | true =>
          have HDn := Aside0.mk hd
          obtain ⟨nn, hn⟩ : ∃ n, dayOf epn csn y mo d = n := ⟨_, rfl⟩
          have HNn := Aside0.mk hn
          have HBDn := Aside0.mk (show 0 ≤ y ∧ y ≤ 4000 ∧ 1 ≤ mo ∧ mo ≤ 12 ∧ 1 ≤ d ∧ d ≤ 31 from have h := dateB_iff hd; ⟨h.1, h.2.1, h.2.2.1, h.2.2.2.1, h.2.2.2.2.1, Int.le_trans h.2.2.2.2.2 (mlist_rd _ _).2⟩)
          by_cases hle : last < nn
          · have hle' : decide (last < nn) = true := decide_eq_true hle
            have HLE' := Aside0.mk hle'
            clear hd hn hle
            try go_wp2
            replace HB1 := zWD HB1
            replace HO := zrD HO
            refine zStart 13 (fun w' => zCells w' go 12 [.int .i64 epn, .slice An csn.length cn, .int .i64 0, .int .i64 0, .int .i64 0, .slice (some a5n) Fn.length c5n, .map (some mbn)] ∧ zCells w' g2 0 [.int .i64 y, .int .i64 mo, .int .i64 d] ∧ w'.cell? ⟨g1, 4, none⟩ = some (.int .i64 last)) #[false, false, false, false, false, false, false, false, false, false, false, false, false] Days7.tab Days7.bits ⟨zS (Aside0.mk (blk_below BKgo.out HB1.out)), zS (Aside0.mk (blk_below BKg2.out HB1.out)), (blk_cell (blk_below BKg1.out HB1.out) 4).trans rfl⟩ (fun hHeld HT_ HW_ => ?_)
            generalize wc.drew = we at HB1 HO hHeld ⊢
            refine zP 0 (some 51) HT_ ?_
            refine zT 1 (some 52) HT_ HW_ hHeld ?_
            refine zT 2 (some 53) HT_ HW_ hHeld ?_
            refine zGo 3 (some 54) HT_ Tryz.func56 #[.agg #[.int .i64 epn, .slice An csn.length cn, .int .i64 0, .int .i64 0, .int .i64 0, .slice (some a5n) Fn.length c5n, .map (some mbn)], .agg #[.int .i64 y, .int .i64 mo, .int .i64 d]] ?_
            with_reducible refine (isDate_b 0 0 0 (OPn.out.below HB1.out) y mo d true HDn.out).mono ?_
            rintro e we_1 ⟨rfl, hb⟩
            replace HB1 := zW HB1 hb
            replace HO := zr HO hb
            clear hb hHeld
            refine zV ⟨zS (Aside0.mk (blk_below BKgo.out HB1.out)), zS (Aside0.mk (blk_below BKg2.out HB1.out)), (blk_cell (blk_below BKg1.out HB1.out) 4).trans rfl⟩ (fun hHeld => ?_)
            refine zP 4 (some 55) HT_ ?_
            refine zP 5 (some 56) HT_ ?_
            refine zP 9 (some 60) HT_ ?_
            refine zT 6 (some 57) HT_ HW_ hHeld ?_
            refine zT 7 (some 58) HT_ HW_ hHeld ?_
            refine zT 10 (some 61) HT_ HW_ hHeld ?_
            refine zGo 8 (some 59) HT_ Tryz.func57 #[.agg #[.int .i64 epn, .slice An csn.length cn, .int .i64 0, .int .i64 0, .int .i64 0, .slice (some a5n) Fn.length c5n, .map (some mbn)], .agg #[.int .i64 y, .int .i64 mo, .int .i64 d]] ?_
            with_reducible refine (day_l 0 0 0 (OPn.out.below HB1.out) y mo d nn HNn.out HBDn.out).mono ?_
            rintro e we_2 ⟨rfl, hb⟩
            replace HB1 := zW HB1 hb
            replace HO := zr HO hb
            clear hb hHeld
            refine zV ⟨zS (Aside0.mk (blk_below BKgo.out HB1.out)), zS (Aside0.mk (blk_below BKg2.out HB1.out)), (blk_cell (blk_below BKg1.out HB1.out) 4).trans rfl⟩ (fun hHeld => ?_)
            refine zP 11 (some 62) HT_ ?_
            refine zP 12 (some 63) HT_ ?_
            refine done_ (done_of HT_.out (by kernel_rfl)) ?_
            try go_wp2
            go_meet
            case rel => exact ⟨true, rfl, ⟨by rw [HDn.out, HNn.out, HLE'.out]; rfl⟩, HO, HB1⟩
          · have hle' : decide (last < nn) = false := decide_eq_false hle
            have HLE' := Aside0.mk hle'
            clear hd hn hle
            try go_wp2
            replace HB1 := zWD HB1
            replace HO := zrD HO
            refine zStart 13 (fun w' => zCells w' go 12 [.int .i64 epn, .slice An csn.length cn, .int .i64 0, .int .i64 0, .int .i64 0, .slice (some a5n) Fn.length c5n, .map (some mbn)] ∧ zCells w' g2 0 [.int .i64 y, .int .i64 mo, .int .i64 d] ∧ w'.cell? ⟨g1, 4, none⟩ = some (.int .i64 last)) #[false, false, false, false, false, false, false, false, false, false, false, false, false] Days7.tab Days7.bits ⟨zS (Aside0.mk (blk_below BKgo.out HB1.out)), zS (Aside0.mk (blk_below BKg2.out HB1.out)), (blk_cell (blk_below BKg1.out HB1.out) 4).trans rfl⟩ (fun hHeld HT_ HW_ => ?_)
            generalize wc.drew = we at HB1 HO hHeld ⊢
            refine zP 0 (some 51) HT_ ?_
            refine zT 1 (some 52) HT_ HW_ hHeld ?_
            refine zT 2 (some 53) HT_ HW_ hHeld ?_
            refine zGo 3 (some 54) HT_ Tryz.func56 #[.agg #[.int .i64 epn, .slice An csn.length cn, .int .i64 0, .int .i64 0, .int .i64 0, .slice (some a5n) Fn.length c5n, .map (some mbn)], .agg #[.int .i64 y, .int .i64 mo, .int .i64 d]] ?_
            with_reducible refine (isDate_b 0 0 0 (OPn.out.below HB1.out) y mo d true HDn.out).mono ?_
            rintro e we_1 ⟨rfl, hb⟩
            replace HB1 := zW HB1 hb
            replace HO := zr HO hb
            clear hb hHeld
            refine zV ⟨zS (Aside0.mk (blk_below BKgo.out HB1.out)), zS (Aside0.mk (blk_below BKg2.out HB1.out)), (blk_cell (blk_below BKg1.out HB1.out) 4).trans rfl⟩ (fun hHeld => ?_)
            refine zP 4 (some 55) HT_ ?_
            refine zP 5 (some 56) HT_ ?_
            refine zP 9 (some 60) HT_ ?_
            refine zT 6 (some 57) HT_ HW_ hHeld ?_
            refine zT 7 (some 58) HT_ HW_ hHeld ?_
            refine zT 10 (some 61) HT_ HW_ hHeld ?_
            refine zGo 8 (some 59) HT_ Tryz.func57 #[.agg #[.int .i64 epn, .slice An csn.length cn, .int .i64 0, .int .i64 0, .int .i64 0, .slice (some a5n) Fn.length c5n, .map (some mbn)], .agg #[.int .i64 y, .int .i64 mo, .int .i64 d]] ?_
            with_reducible refine (day_l 0 0 0 (OPn.out.below HB1.out) y mo d nn HNn.out HBDn.out).mono ?_
            rintro e we_2 ⟨rfl, hb⟩
            replace HB1 := zW HB1 hb
            replace HO := zr HO hb
            clear hb hHeld
            refine zV ⟨zS (Aside0.mk (blk_below BKgo.out HB1.out)), zS (Aside0.mk (blk_below BKg2.out HB1.out)), (blk_cell (blk_below BKg1.out HB1.out) 4).trans rfl⟩ (fun hHeld => ?_)
            refine zP 11 (some 62) HT_ ?_
            refine zP 12 (some 63) HT_ ?_
            refine done_ (done_of HT_.out (by kernel_rfl)) ?_
            try go_wp2
            go_meet
            case rel => exact ⟨false, rfl, ⟨by rw [HDn.out, HNn.out, HLE'.out]; rfl⟩, HO, HB1⟩
      case rest =>
        clear HB1 HO
        obtain ⟨bn, rfl, HBB, HO, HB1⟩ := hcut
        go_upto_if 63 with (fail)
        (try simp only [Act.put, List.setIfInBounds_toArray, List.set_cons_zero, List.set_cons_succ])
        go_cut [7] (fun v7 wc => ∃ (v : Value), v7 = v ∧ Aside0 (Kd.R (Kd.int .i64) 3 wc w9.heap.size (fun _ => True) v L2) ∧ Aside0 (Below w9.heap.size w9 wc))
        case first =>
          cases bn with
          | false =>
            have HL := Aside0.mk (show L2 = L1 by rw [← HLL2.out, HBB.out]; simp)
            go_wp2
            go_meet
            case rel => exact ⟨_, rfl, ⟨by rw [HL.out]; exact HO.out⟩, HB1⟩
          | true =>
            have hd : dateB csn y mo d = true := by have := HBB.out; rw [Bool.and_eq_true] at this; exact this.1
            obtain ⟨nn, hn⟩ : ∃ n, dayOf epn csn y mo d = n := ⟨_, rfl⟩
            have HNn := Aside0.mk hn
            have HBDn := Aside0.mk (show 0 ≤ y ∧ y ≤ 4000 ∧ 1 ≤ mo ∧ mo ≤ 12 ∧ 1 ≤ d ∧ d ≤ 31 from have h := dateB_iff hd; ⟨h.1, h.2.1, h.2.2.1, h.2.2.2.1, h.2.2.2.2.1, Int.le_trans h.2.2.2.2.2 (mlist_rd _ _).2⟩)
            have HL := Aside0.mk (show L2 = L1 ++ [nn] by rw [← HLL2.out, HBB.out, hn]; simp)
            clear hd hn
            have yy0 : wc.cell? ⟨go, 12, none⟩ = some (.int .i64 epn) := (blk_cell (blk_below BKgo.out HB1.out) 12).trans rfl
            have yy1 : wc.cell? ⟨go, 13, none⟩ = some (.slice An csn.length cn) := (blk_cell (blk_below BKgo.out HB1.out) 13).trans rfl
            have yy2 : wc.cell? ⟨go, 14, none⟩ = some (.int .i64 0) := (blk_cell (blk_below BKgo.out HB1.out) 14).trans rfl
            have yy3 : wc.cell? ⟨go, 15, none⟩ = some (.int .i64 0) := (blk_cell (blk_below BKgo.out HB1.out) 15).trans rfl
            have yy4 : wc.cell? ⟨go, 16, none⟩ = some (.int .i64 0) := (blk_cell (blk_below BKgo.out HB1.out) 16).trans rfl
            have yy5 : wc.cell? ⟨go, 17, none⟩ = some (.slice (some a5n) Fn.length c5n) := (blk_cell (blk_below BKgo.out HB1.out) 17).trans rfl
            have yy6 : wc.cell? ⟨go, 18, none⟩ = some (.map (some mbn)) := (blk_cell (blk_below BKgo.out HB1.out) 18).trans rfl
            have xx0 : wc.cell? ⟨g2, 0, none⟩ = some (.int .i64 y) := (blk_cell (blk_below BKg2.out HB1.out) 0).trans rfl
            have xx1 : wc.cell? ⟨g2, 1, none⟩ = some (.int .i64 mo) := (blk_cell (blk_below BKg2.out HB1.out) 1).trans rfl
            have xx2 : wc.cell? ⟨g2, 2, none⟩ = some (.int .i64 d) := (blk_cell (blk_below BKg2.out HB1.out) 2).trans rfl
            go_wp2_with (first
              | (go_at_call 57; (with_reducible refine (day_l 0 0 0 (OPn.out.below HB1.out) y mo d nn HNn.out HBDn.out).mono ?_); rintro e we_3 ⟨rfl, hb⟩; replace HB1 := zW HB1 hb; replace HO := zr HO hb; clear hb)
              | ((with_reducible refine gate_builtin (b := .append) (xs := #[.tmp 64, .tmp 69]) rfl ?_); at_builtin; refine Kd.R_append (Kd.int .i64) (w0 := w9) w9.heap.size rfl (.tmp 64) (.tmp 69) 22 3 (.int .i64 0) 8 rfl Tryz.underlying22 info3 rfl (by decide) (by omega) (v7) (L1) nn [.int .i64 nn] (fun _ => True) (fun _ => False) rfl rfl ?aP (fun _ hk => hk.elim) ?aF ?aO ?aB ?aS ?aL ?_; (case aP => exact rfl); (case aF => exact fun _ _ => trivial); (case aO => exact HO.out); (case aB => exact HB1.out); (case aS => exact HB1.out.size); (case aL => first | (simp; done) | (have := HLN.out; omega)); intro v1n we_4 ho hb hg _hat; clear HB1 HO; have HB1 := Aside0.mk hb; have HO := Aside0.mk ho; clear hb ho hg _hat))
            go_meet
            case rel => exact ⟨_, rfl, ⟨by rw [HL.out]; exact HO.out⟩, HB1⟩
        case rest =>
          clear HB1 HO HLN HBB
          obtain ⟨v8, e_, HO, HB1⟩ := hcut
          replace e_ := e_.symm
          subst e_
          go_wp2
          go_ret2
          exact ⟨v8, rfl, by rw [HLE.out]; exact Kd.R_lower HO.out OP.out.b.size, below_then OP.out.b OP.out.b.size HB1.out⟩
end Go.Proofs.YtnllidgonghckaaGreatDoor.X
