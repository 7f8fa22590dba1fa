/- What the laws' proofs have in common: contracts of the program's functions, whatever memory they are called in. Conditions stand in each statement (part 9 of 12). -/
import Derived.ArgAppend
import Derived.Below
import Derived.BigQuiet
import Derived.Deep.AppendLies
import Derived.Deep.CutBlock
import Derived.Deep.DeepCutAuto
import Derived.Deep.Draws
import Derived.Deep.LoopGhost
import Derived.Deep.OwnRows
import Derived.Deep.QuietTactic
import Derived.Deep.RegionHeld3
import Derived.DeepKeys5
import Derived.Defers
import Derived.KernelRfl
import Derived.Laws.BitsLemmas
import Derived.Laws.BytesArg
import Derived.Laws.CopyOwn
import Derived.Laws.IdiomCopy
import Derived.Laws.MakeOwn
import Derived.Laws.OwnMore
import Derived.Laws.Rows
import Derived.Laws.Slices
import Derived.Laws.StructEq
import Derived.Laws.Tables
import Derived.Lib.AppendStr
import Derived.Lib.ConvBytes
import Derived.Maps.AppendAt
import Derived.Maps.OwnOps
import Derived.OrdersHeld
import Derived.OwnWalk
import Derived.OwnWalkIn
import Derived.RangeFuncCalls
import Derived.RangeFuncKeeps
import Derived.RangeFuncLeaves
import Derived.Recover
import Derived.RowKit
import Derived.RowKit3
import Derived.Tactics
import Derived.Tactics2
import Derived.TacticsInMore
import Derived.Test.YtnllidgonghckaaGreatDoorProg
import Derived.WalkKit
import Derived.WalkLawsBesides
import Derived.WideKeyEntry
import Derived.WideLaws
import Derived.Test.YtnllidgonghckaaGreatDoorC7
namespace Go.Proofs.YtnllidgonghckaaGreatDoor.X
open Go.RowKit Go.Proofs.YtnllidgonghckaaGreatDoorW.PrintWords Go.Proofs.YtnllidgonghckaaGreatDoorW.PrintLast Go.Proofs.YtnllidgonghckaaGreatDoorW.PrintMore Go.Proofs.YtnllidgonghckaaGreatDoor.Dm
set_option linter.unusedVariables false
set_option linter.unusedSimpArgs false
theorem intKeys : Maps.Keyed Tryz.prog 3 := Maps.int_keyed Tryz.underlying3
theorem wf_of (y : Int) (h0 : -9223372036854775808 ≤ y) (h1 : y ≤ 9223372036854775807) : (Lit.int .i64 y).wf = true := by
  have a : IntKind.i64.min = -9223372036854775808 := by decide
  have b : IntKind.i64.max = 9223372036854775807 := by decide
  simp only [Lit.wf, a, b, Bool.and_eq_true, decide_eq_true_eq]
  omega
theorem int_key (y : Int) (h : (Lit.int .i64 y).wf = true) : keyOf Tryz.prog 3 (.int .i64 y) = some (.int .i64 y) := Maps.keyOf_int_mk Tryz.underlying3 h
def CMap (cnt : Int → Int) (mm : Nat) (W : World) : Prop := ∃ es cl, W.heap[mm]? = some (.map es cl) ∧ (es.toList.map (·.key)).Nodup ∧ (∀ e ∈ es.toList, ∃ y : Int, (Lit.int .i64 y).wf = true ∧ e.key = .int .i64 y ∧ e.val = .int .i64 (cnt y)) ∧ ∀ y, (∀ e ∈ es.toList, e.key ≠ .int .i64 y) → cnt y = 0
def upd (cnt : Int → Int) (y v : Int) : Int → Int := fun z => if z = y then v else cnt z
theorem upd_eq (cnt : Int → Int) (y v : Int) : upd cnt y v y = v := if_pos rfl
theorem upd_ne (cnt : Int → Int) {y z : Int} (v : Int) (h : z ≠ y) : upd cnt y v z = cnt z := if_neg h
theorem nodup_at {α : Type} {l : List α} (hn : l.Nodup) {i j : Nat} (hi : i < l.length) (hj : j < l.length) (h : l[i] = l[j]) : i = j := by
  have hp := List.pairwise_iff_getElem.1 hn
  rcases Nat.lt_trichotomy i j with c | c | c
  · exact absurd h (hp i j hi hj c)
  · exact c
  · exact absurd h.symm (hp j i hj hi c)
section
variable {cnt : Int → Int} {mm : Nat} {W W1 : World}
theorem CMap.start (hm : W.heap[mm]? = some (.map #[] 0)) : CMap (fun _ => 0) mm W := ⟨_, _, hm, by simp, fun e he => by simp at he, fun _ _ => rfl⟩
theorem CMap.blk (h : CMap cnt mm W) : ∃ es cl, W.heap[mm]? = some (.map es cl) := by obtain ⟨es, cl, hm, _⟩ := h; exact ⟨es, cl, hm⟩
theorem CMap.same (h : CMap cnt mm W) (hb : W1.heap[mm]? = W.heap[mm]?) : CMap cnt mm W1 := by
  obtain ⟨es, cl, hm, he⟩ := h
  exact ⟨es, cl, hb.trans hm, he⟩
theorem CMap.lt (h : CMap cnt mm W) : mm < W.heap.size := by obtain ⟨es, cl, hm, _⟩ := h; exact blk_lt hm
theorem CMap.below (h : CMap cnt mm W) (hb : Below W.heap.size W W1) : CMap cnt mm W1 := h.same (hb.block _ h.lt)
theorem CMap.gr {mb : Nat} (h : CMap cnt mm W) (hg : W.grownBy W1 (some mb)) (hne : mm ≠ mb) : CMap cnt mm W1 := h.same (hg.block _ h.lt (fun e => hne (Option.some.inj e)))
theorem CMap.keys (es : Array MapEntry) (he : ∀ e ∈ es.toList, ∃ y : Int, (Lit.int .i64 y).wf = true ∧ e.key = .int .i64 y ∧ e.val = .int .i64 (cnt y)) : ∀ e ∈ es.toList, ∃ l, keyOf Tryz.prog 3 e.key = some l := fun e h => by
  obtain ⟨y, h0, hk, _⟩ := he e h
  rw [hk]
  exact ⟨_, int_key y h0⟩
theorem CMap.look (h : CMap cnt mm W) (y : Int) (hw : (Lit.int .i64 y).wf = true) : (Instr.lookup 110 (.map (some mm)) (.int .i64 y) false).run Tryz.prog W = .ok (.int .i64 (cnt y)) W := by
  have ht := Tryz.underlying110
  have hz : ∀ u : World, (zeroValue 3).run Tryz.prog u = .ok (.int .i64 0) u := fun u => by kernel_rfl
  obtain ⟨es, cl, hm, hn, he, h0⟩ := h
  rcases intKeys.find W (int_key y hw) es.toList (CMap.keys es he) with ⟨g1, g2⟩ | ⟨j, e0, g1, g2, g3⟩
  · rw [h0 y g2]
    simp [Instr.lookup, run_underlying ht, MapKept.run_getObj_map hm, intKeys.check W _ (int_key y hw), g1, hz, Result.andThen]
  · obtain ⟨z, _, hk, hv⟩ := he e0 (List.mem_of_getElem? g2)
    have : z = y := by
      have := hk.symm.trans g3
      simpa using this
    subst this
    simp [Instr.lookup, run_underlying ht, MapKept.run_getObj_map hm, intKeys.check W _ (int_key z hw), g1, hv, Result.andThen]
theorem CMap.put (h : CMap cnt mm W) (y v : Int) (hw : (Lit.int .i64 y).wf = true) :
    ∃ W1, (Instr.mapUpdate 110 (.map (some mm)) (.int .i64 y) (.int .i64 v)).run Tryz.prog W = .ok () W1 ∧ CMap (upd cnt y v) mm W1 ∧ W.grownBy W1 (some mm) := by
  have ht := Tryz.underlying110
  obtain ⟨es, cl, hm, hn, he, h0⟩ := h
  rcases intKeys.find W (int_key y hw) es.toList (CMap.keys es he) with ⟨g1, g2⟩ | ⟨j, e0, g1, g2, g3⟩
  · refine ⟨ChangeMaps.setBlock W mm (.map (es.push ⟨.int .i64 y, .int .i64 v, cl⟩) (cl + 1)), ?_, ⟨_, _, (MapKept.heap_set hm).1, ?_, ?_, ?_⟩, grown_setBlock _ _ _⟩
    · simp [Instr.mapUpdate, run_underlying ht, MapKept.run_getObj_map hm, intKeys.check W _ (int_key y hw), g1, MapKept.run_setObj_map _ hm, Result.andThen, ChangeMaps.setBlock]
    · simp only [Array.toList_push, List.map_append, List.map_cons, List.map_nil]
      refine List.nodup_append.2 ⟨hn, by simp, fun a ha b hb => ?_⟩
      simp only [List.mem_singleton] at hb
      obtain ⟨e, hme, rfl⟩ := List.mem_map.1 ha
      rw [hb]
      exact g2 e hme
    · intro e hmem
      simp only [Array.toList_push, List.mem_append, List.mem_singleton] at hmem
      rcases hmem with hmem | rfl
      · obtain ⟨z, hz, hk, hv⟩ := he e hmem
        refine ⟨z, hz, hk, ?_⟩
        have : z ≠ y := fun q => g2 e hmem (by rw [hk, q])
        rw [upd_ne _ _ this]
        exact hv
      · exact ⟨y, hw, rfl, by rw [upd_eq]⟩
    · intro z hz
      have a := hz ⟨.int .i64 y, .int .i64 v, cl⟩ (by simp)
      have : z ≠ y := fun q => a (by rw [q])
      rw [upd_ne _ _ this]
      exact h0 z (fun e hme => hz e (by simp only [Array.toList_push, List.mem_append]; exact .inl hme))
  · have hj : es[j]? = some e0 := by simpa using g2
    have hmap : (es.modify j fun e' => { e' with key := (.int .i64 y : Value), val := .int .i64 v }).toList = es.toList.set j { e0 with key := (.int .i64 y : Value), val := .int .i64 v } := by
      rw [Array.toList_modify, ChangeMaps.modify_eq_set _ _ _ _ g2]
    have hlj : j < es.toList.length := by have := List.getElem?_eq_some_iff.1 g2; exact this.1
    refine ⟨ChangeMaps.setBlock W mm (.map (es.modify j fun e' => { e' with key := (.int .i64 y : Value), val := .int .i64 v }) cl), ?_, ⟨_, _, (MapKept.heap_set hm).1, ?_, ?_, ?_⟩, grown_setBlock _ _ _⟩
    · simp [Instr.mapUpdate, run_underlying ht, MapKept.run_getObj_map hm, intKeys.check W _ (int_key y hw), g1, hj, g3, intKeys.stays W (int_key y hw), MapKept.run_setObj_map _ hm, Result.andThen, ChangeMaps.setBlock]
    · rw [hmap, List.map_set]
      have : (es.toList.map (·.key)).set j (.int .i64 y) = es.toList.map (·.key) := WideElems.set_self _ _ _ (by rw [List.getElem?_map, g2]; simp [g3])
      rw [this]
      exact hn
    · intro e hmem
      rw [hmap] at hmem
      obtain ⟨i, hi, rfl⟩ := List.getElem_of_mem hmem
      rw [List.getElem_set]
      by_cases q : j = i
      · rw [if_pos q]
        exact ⟨y, hw, rfl, by rw [upd_eq]⟩
      · rw [if_neg q]
        have hi' : i < es.toList.length := by simpa using hi
        obtain ⟨z, hz, hk, hv⟩ := he (es.toList[i]) (List.getElem_mem hi')
        refine ⟨z, hz, hk, ?_⟩
        have : z ≠ y := by
          intro e1
          have e2 : (es.toList.map (·.key))[i]'(by simpa using hi') = (es.toList.map (·.key))[j]'(by simpa using hlj) := by
            rw [List.getElem_map, List.getElem_map, hk, e1]
            have := List.getElem?_eq_some_iff.1 g2
            rw [this.2, g3]
          exact q (nodup_at hn (by simpa using hi') (by simpa using hlj) e2).symm
        rw [upd_ne _ _ this]
        exact hv
    · intro z hz
      have : z ≠ y := by
        intro e1
        have hmem : ({ e0 with key := (.int .i64 y : Value), val := .int .i64 v } : MapEntry) ∈ (es.modify j fun e' => { e' with key := (.int .i64 y : Value), val := .int .i64 v }).toList := by
          rw [hmap]
          exact List.mem_set hlj _
        exact hz _ hmem (by rw [e1])
      rw [upd_ne _ _ this]
      refine h0 z (fun e hme hk => ?_)
      obtain ⟨i, hi, rfl⟩ := List.getElem_of_mem hme
      by_cases q : j = i
      · subst q
        have := List.getElem?_eq_some_iff.1 g2
        rw [this.2, g3] at hk
        simp at hk
        omega
      · refine hz (es.toList[i]) ?_ hk
        rw [hmap]
        exact List.mem_iff_getElem.2 ⟨i, by simpa using hi, by rw [List.getElem_set, if_neg q]⟩
end
end Go.Proofs.YtnllidgonghckaaGreatDoor.X
namespace Go.Proofs.YtnllidgonghckaaGreatDoor.X
open Go.RowKit Go.Proofs.YtnllidgonghckaaGreatDoorW.PrintWords Go.Proofs.YtnllidgonghckaaGreatDoorW.PrintLast Go.Proofs.YtnllidgonghckaaGreatDoorW.PrintMore Go.Proofs.YtnllidgonghckaaGreatDoor.Dm
set_option linter.unusedVariables false
set_option linter.unusedSimpArgs false
attribute [local go_sem] max2_int min2_int max_two min_two max_three min_three max_four min_four
section
variable {α : Type} {d : Kd α} {e base g mm : Nat} {ok : Nat → Prop} {v : Value} {xs : List α} {W w1 : World} {new cells : Array Value} {t : Nat}
theorem R_setRow_nek (hw : w1 = W.setRow g new) (h : d.R e W base (fun k => ok k ∧ k ≠ g) v xs) : d.R e w1 base (fun k => ok k ∧ k ≠ g) v xs := by
  rw [hw]
  exact Kd.R_step h (fun k hk _ => setRow_other W g k new hk.2)
theorem CMap.setRow' {cnt : Int → Int} (hw : w1 = W.setRow g new) (o : W.heap[g]? = some (.cells cells t (0, 0))) (h : CMap cnt mm W) : CMap cnt mm w1 := by
  obtain ⟨es, cl, hm⟩ := h.blk
  exact h.same (by rw [hw]; exact setRow_other W g mm new (fun e => by rw [e, o] at hm; cases hm))
theorem R_grm (h : d.R e W base ok v xs) (hg : W.grownBy w1 (some mm)) (hm : ∃ es cl, W.heap[mm]? = some (.map es cl)) : d.R e w1 base ok v xs := by
  obtain ⟨es, cl, hm⟩ := hm
  refine Kd.R_mono (Kd.R_step (Kd.R_bound h) (fun k hk hlt => hg.block k hlt (fun q => ?_))) (fun k hk => hk.1)
  obtain ⟨_, _, _, q', _, cells', hc⟩ := hk
  rw [Option.some.inj q, hm] at hc
  cases hc
theorem Opd.grm {ep : Int} {A : Option Addr} {c : Nat} {cs F : List Int} {a5 : Addr} {c5 mb : Nat} {w : World} (h : Opd ep A c cs F a5 c5 mb w W) (hg : W.grownBy w1 (some mm)) (hm : ∃ es cl, W.heap[mm]? = some (.map es cl)) (hne : mb ≠ mm) (hz : w.heap.size ≤ mm) : Opd ep A c cs F a5 c5 mb w w1 := by
  obtain ⟨es, cl, hb⟩ := h.m
  exact ⟨h.hF, h.cal, h.rc, h.c, R_grm h.f hg hm, ⟨es, cl, (hg.block mb (blk_lt hb) (fun q => hne (Option.some.inj q))).trans hb⟩, below_gr h.b hg hz, h.zmb⟩
theorem EOk.grm {sf : Int → Int} {mb : Nat} (h : EOk sf mb W) (hg : W.grownBy w1 (some mm)) (hne : mb ≠ mm) : EOk sf mb w1 := by
  obtain ⟨es, cl, hb, he⟩ := h
  exact ⟨es, cl, (hg.block mb (blk_lt hb) (fun q => hne (Option.some.inj q))).trans hb, he⟩
theorem EOk.put1 {sf : Int → Int} {mb : Nat} (h : EOk sf mb W) (o : W.heap[g]? = some (.cells cells t (0, 0))) (j : Nat) (u : Value) : EOk sf mb (W.setCell ⟨g, j, none⟩ u) := by
  obtain ⟨es, cl, hb, he⟩ := h
  exact ⟨es, cl, obj_far hb (fun e => by have e' : mb = g := e; rw [e', o] at hb; cases hb) u, he⟩
theorem CMap.put1 {cnt : Int → Int} (h : CMap cnt mm W) (o : W.heap[g]? = some (.cells cells t (0, 0))) (j : Nat) (u : Value) : CMap cnt mm (W.setCell ⟨g, j, none⟩ u) := by
  obtain ⟨es, cl, hb⟩ := h.blk
  exact h.same (Below.heap_setCell W ⟨g, j, none⟩ u mm (fun e => by have e' : mm = g := e; rw [e', o] at hb; cases hb))
theorem R_put1 (h : d.R e W base (fun k => ok k ∧ k ≠ g) v xs) (j : Nat) (u : Value) : d.R e (W.setCell ⟨g, j, none⟩ u) base (fun k => ok k ∧ k ≠ g) v xs :=
  Kd.R_far (p := ⟨g, j, none⟩) h (fun k hk => hk.2) u
end
def ansL (ep : Int) (cs : List Int) (m0 m1 m2 : Int) (ys : List Int) (x : S74) : List Int := ys.map fun y => ansOf ep cs m0 m1 m2 y x.f0 x.f1 x.f2
def cntOf (zs : List Int) (z : Int) : Int := (zs.count z : Nat)
def leftUp (zs : List Int) : Nat → Int
  | 0 => 0
  | i + 1 => mx (leftUp zs i) (cntOf (zs.take (i + 1)) (zs.getD i 0))
def leftMost (zs : List Int) : Int := leftUp zs zs.length
theorem cntOf_nil : cntOf [] = fun _ => 0 := by funext z; simp [cntOf]
theorem cntOf_snoc (zs : List Int) (n : Int) : upd (cntOf zs) n (cntOf zs n + 1) = cntOf (zs ++ [n]) := by
  funext z
  unfold upd cntOf
  rw [List.count_append]
  by_cases h : z = n
  · subst h
    simp
  · rw [if_neg h]
    have : List.count z [n] = 0 := List.count_eq_zero.2 (by simpa using h)
    rw [this]
    simp
theorem cntOf_bd (zs : List Int) (z : Int) : 0 ≤ cntOf zs z ∧ cntOf zs z ≤ zs.length := by
  unfold cntOf
  have := List.count_le_length (a := z) (l := zs)
  omega
def allUp (ep : Int) (cs : List Int) (m0 m1 m2 : Int) (ys : List Int) (qs : List S74) (n : Nat) : List (Int × Int) := (qs.take n).zipIdx.map fun p => ((p.2 : Int), leftMost (ansL ep cs m0 m1 m2 ys p.1))
theorem allUp_len (ep : Int) (cs : List Int) (m0 m1 m2 : Int) (ys : List Int) (qs : List S74) (n : Nat) : (allUp ep cs m0 m1 m2 ys qs n).length = min n qs.length := by simp [allUp]
theorem allUp_succ (ep : Int) (cs : List Int) (m0 m1 m2 : Int) (ys : List Int) (qs : List S74) (n : Nat) (h : n < qs.length) : allUp ep cs m0 m1 m2 ys qs (n + 1) = allUp ep cs m0 m1 m2 ys qs n ++ [((n : Int), leftMost (ansL ep cs m0 m1 m2 ys qs[n]))] := by
  unfold allUp
  rw [List.take_succ_eq_append_getElem h, List.zipIdx_append, List.map_append]
  simp [Nat.min_eq_left (Nat.le_of_lt h)]
theorem ansOf_bd {ep : Int} {cs : List Int} {m0 m1 m2 : Int} (hM : moonB m0 m1 m2 = true) (he : 0 ≤ ep ∧ ep ≤ 1000) (y k mo d : Int) (h0 : 0 ≤ y) (h1 : y ≤ 4000) : -1 ≤ ansOf ep cs m0 m1 m2 y k mo d ∧ ansOf ep cs m0 m1 m2 y k mo d ≤ 366 := by
  unfold ansOf
  have a := wday_bd (dayOf ep cs y mo d)
  have b := ageOf_range hM (dayOf ep cs y mo d)
  have c := ylen_range cs y
  have e : 0 ≤ eqI (dayOf ep cs y mo d) (sundayOf ep cs m0 m1 m2 y) ∧ eqI (dayOf ep cs y mo d) (sundayOf ep cs m0 m1 m2 y) ≤ 1 := by unfold eqI; split <;> omega
  split
  · split <;> omega
  · split
    · split <;> omega
    · split
      · split <;> omega
      · split <;> omega
theorem infoQ : (Tryz.prog.info? 112).map (fun i => (i.zero, i.size, i.bytes)) = some (some (.agg #[.int .i64 0, .int .i64 0]), 2, 16) := by kernel_rfl
theorem askB_kind {x : S74} (h : askB x = true) : 1 ≤ x.f0 ∧ x.f0 ≤ 5 := by
  simp only [askB, kindOk, Bool.and_eq_true] at h
  obtain ⟨h1, _⟩ := h
  by_cases c1 : x.f0 = 1 ∨ x.f0 = 2 ∨ x.f0 = 3
  · omega
  · rw [if_neg c1] at h1
    by_cases c2 : x.f0 = 4 ∨ x.f0 = 5
    · omega
    · rw [if_neg c2] at h1; cases h1
theorem areQuestionsB_kind {l : List S74} (h : areQuestionsB l = true) : ∀ x ∈ l, 1 ≤ x.f0 ∧ x.f0 ≤ 5 := by
  simp only [areQuestionsB, Bool.and_eq_true, List.all_eq_true] at h
  exact fun x hx => askB_kind (h.2 x hx)
end Go.Proofs.YtnllidgonghckaaGreatDoor.X
namespace Go.Proofs.YtnllidgonghckaaGreatDoor.X
open Go.RowKit Go.Proofs.YtnllidgonghckaaGreatDoorW.PrintWords Go.Proofs.YtnllidgonghckaaGreatDoorW.PrintLast Go.Proofs.YtnllidgonghckaaGreatDoorW.PrintMore Go.Proofs.YtnllidgonghckaaGreatDoor.Dm
set_option linter.unusedVariables false
set_option linter.unusedSimpArgs false
attribute [local go_sem] max2_int min2_int max_two min_two max_three min_three max_four min_four
theorem yearsFrom_range (ep : Int) (cs : List Int) (m0 m1 m2 : Int) (l : List S74) (a : Int) (n : Nat) : ∀ y ∈ yearsFrom ep cs m0 m1 m2 l a n, a ≤ y ∧ y < a + n := by
  intro y hy
  unfold yearsFrom at hy
  have := (List.mem_filter.1 hy).1
  obtain ⟨i, hi, rfl⟩ := List.mem_map.1 this
  have := List.mem_range.1 hi
  omega
def askR (ep : Int) (cs : List Int) (m0 m1 m2 : Int) (ys : List Int) (qs : List S74) : Int × Int := bestOf ((allUp ep cs m0 m1 m2 ys qs qs.length).headD (0, 0)) (allUp ep cs m0 m1 m2 ys qs qs.length)
def Ask25.T : Bool × List (List Nat × List Nat) := (true, [([], []), ([0], [0]), ([], []), ([2], [2]), ([1, 0, 1], [1]), ([3, 4, 0, 1, 2, 3, 4], [3]), ([5, 0, 1, 2, 3, 4, 5], [])])
def Ask25.B : List Nat := [0, 1, 0, 4, 3, 31, 63]
theorem Ask25.tab : rtab .any (opsOf Tryz.f43 25) = Ask25.T := by kernel_rfl
theorem Ask25.bits : waitsOk Ask25.T.2 Ask25.B = true := by kernel_rfl
set_option maxHeartbeats 8000000 in
set_option maxRecDepth 100000 in
theorem Ask_none (ep : Int) (A : Option Addr) (c : Nat) (cs : List Int) (m0 m1 m2 : Int) (Af : Option Addr) (cf : Nat) (l : List S74) (Aq : Option Addr) (cq : Nat) (qs : List S74) (a b : Int) (w : World) (hr : Kd.C (Kd.int .i64) w A cs.length cs) (hc : cs.length ≤ c) (hrf : Kd.C k74 w Af l.length l) (hcf : l.length ≤ cf) (hrq : Kd.C k74 w Aq qs.length qs) (hcq : qs.length ≤ cq) (hcal : calB ep cs = true) (hmn : moonB m0 m1 m2 = true) (hfs : areFactsB l = true) (hqs : areQuestionsB qs = true) (hrg : rangeB a b = true) (ys : List Int) (hys : yearsFrom ep cs m0 m1 m2 l a (b - a + 1).toNat = ys) (hn : ys.length = 0) :
    Calls Tryz.prog 43 #[.agg #[.int .i64 ep, .slice A cs.length c], .agg #[.int .i64 m0, .int .i64 m1, .int .i64 m2], .slice Af l.length cf, .slice Aq qs.length cq, .int .i64 a, .int .i64 b] w fun e w' => e = .returned (.tuple #[.int .i64 0, .int .i64 0, .int .i64 7]) ∧ Below w.heap.size w w' := by
  obtain ⟨F, hF⟩ : ∃ F, firsts ep cs = F := ⟨_, rfl⟩
  have HFF := Aside0.mk hF
  clear hF
  have HK := Aside0.mk (areFactsB_kind hfs)
  have HKQ := Aside0.mk (areQuestionsB_kind hqs)
  have HQ6 := Aside0.mk (show 1 ≤ qs.length ∧ qs.length ≤ 6 by have h := hqs; simp only [areQuestionsB, Bool.and_eq_true, decide_eq_true_eq] at h; exact h.1)
  have hrr := rangeB_iff hrg
  have HAB := Aside0.mk (show 0 ≤ a ∧ a ≤ b ∧ b ≤ 4000 from ⟨hrr.1, hrr.2.1, hrr.2.2.1⟩)
  have hyl := yearsFrom_len ep cs m0 m1 m2 l a (b - a + 1).toNat
  have hyr := yearsFrom_range ep cs m0 m1 m2 l a (b - a + 1).toNat
  have HE := Aside0.mk (show 0 ≤ ep ∧ ep ≤ 1000 from ⟨(calB_iff hcal).1, (calB_iff hcal).2.1⟩)
  rw [hys] at hyl hyr
  have HYR := Aside0.mk (show ∀ y ∈ ys, 0 ≤ y ∧ y ≤ 4000 from fun y hy => by have := hyr y hy; omega)
  have HYL := Aside0.mk (show ys.length ≤ 401 by omega)
  have HYS := Aside0.mk hys
  clear hrr hyl hyr hys
  have hu24 := Tryz.underlying24
  have hu45 := Tryz.underlying45
  have hu83 := Tryz.underlying83
  have hu108 := Tryz.underlying108
  have hu74 := Tryz.underlying74
  have hu112 := Tryz.underlying112
  have hmm := @run_makeMap Tryz.prog
  have HB := Aside0.mk (Below.refl w.heap.size w)
  have HR := Aside0.mk hr
  have HC := Aside0.mk hc
  have HRF := Aside0.mk hrf
  have HCF := Aside0.mk hcf
  have HRQ := Aside0.mk hrq
  have HCQ := Aside0.mk hcq
  clear hr hc hrf hcf hrq hcq
  have HCAL := Aside0.mk hcal
  clear hcal
  have HMN := Aside0.mk hmn
  clear hmn
  have HFS := Aside0.mk hfs
  clear hfs
  have HQS := Aside0.mk hqs
  clear hqs
  have HRG := Aside0.mk hrg
  clear hrg
  have e0 : ((ys.length : Int) == 0) = true := by rw [hn]; rfl
  have e0' : decide ((ys.length : Int) = 0) = true := by rw [hn]; rfl
  have HN := Aside0.mk hn
  clear hn
  go_enter Tryz.func43, Tryz.ntmps43
  go_wp2_with (first
    | ((with_reducible refine zG 6 rfl ?_); refine zBox 6 #[.int .i64 ep, .slice A cs.length c] 24 ?_; intro g1 hg w1 hbox hb; have GEg1 := zge hg HB; replace HB := zW HB hb; have BKg1 := Aside0.mk hbox; clear hb hbox hg; have z1_g10 := zC BKg1)
    | ((with_reducible refine zG 7 rfl ?_); refine zBox 7 #[.int .i64 m0, .int .i64 m1, .int .i64 m2] 45 ?_; intro g2 hg w2 hbox hb; have GEg2 := zge hg HB; have NEg1_g2 := zne hg BKg1; replace HB := zW HB hb; replace BKg1 := zb BKg1 hb; have BKg2 := Aside0.mk hbox; clear hb hbox hg; (try clear z1_g10); have z2_g10 := zC BKg1; have z2_g20 := zC BKg2)
    | (go_at_call 46; (with_reducible refine (isCal_l ep A c cs true HCAL.out w _ HR.out HC.out HB.out).mono ?_); rintro e w3 ⟨rfl, hb⟩; replace HB := zW HB hb; replace BKg1 := zb BKg1 hb; replace BKg2 := zb BKg2 hb; clear hb; (try clear z2_g10 z2_g20); have z3_g10 := zC BKg1; have z3_g20 := zC BKg2)
    | (go_at_call 58; (with_reducible refine (isMoon_l m0 m1 m2 true HMN.out _).mono ?_); rintro e w4 ⟨rfl, hb⟩; replace HB := zW HB hb; replace BKg1 := zb BKg1 hb; replace BKg2 := zb BKg2 hb; clear hb; (try clear z3_g10 z3_g20); have z4_g10 := zC BKg1; have z4_g20 := zC BKg2)
    | (go_at_call 76; (with_reducible refine (areFacts_l Af cf l true HFS.out w _ HRF.out HCF.out HB.out).mono ?_); rintro e w5 ⟨rfl, hb⟩; replace HB := zW HB hb; replace BKg1 := zb BKg1 hb; replace BKg2 := zb BKg2 hb; clear hb; (try clear z4_g10 z4_g20); have z5_g10 := zC BKg1; have z5_g20 := zC BKg2)
    | (go_at_call 79; (with_reducible refine (areQuestions_l Aq cq qs true HQS.out w _ HRQ.out HCQ.out HB.out).mono ?_); rintro e w5 ⟨rfl, hb⟩; replace HB := zW HB hb; replace BKg1 := zb BKg1 hb; replace BKg2 := zb BKg2 hb; clear hb; (try clear z5_g10 z5_g20); have z6_g10 := zC BKg1; have z6_g20 := zC BKg2)
    | (go_at_call 77; (with_reducible refine (isRange_l a b true HRG.out _).mono ?_); rintro e w6 ⟨rfl, hb⟩; replace HB := zW HB hb; replace BKg1 := zb BKg1 hb; replace BKg2 := zb BKg2 hb; clear hb; (try clear z6_g10 z6_g20); have z7_g10 := zC BKg1; have z7_g20 := zC BKg2)
    | (go_at_call 48; (with_reducible refine (open_eok ep A c cs m0 m1 m2 (sundayOf ep cs m0 m1 m2) w _ HR.out HC.out HCAL.out HB.out F HFF.out).mono ?_); rintro e w7 ⟨a5, c5, mb, rfl, ho, he, hb⟩; have OPd := Aside0.mk ho; have EOx := Aside0.mk he; clear ho he hb HB BKg1 BKg2)
    | (go_at_call 78; (with_reducible refine (years_b m0 m1 m2 OPd.out EOx.out HMN.out Af cf l HRF.out HCF.out HK.out a b HAB.out.1 HAB.out.2.1 HAB.out.2.2).mono ?_); rintro e w8 ⟨v, rfl, hv, ho, he⟩; rw [HYS.out] at hv; clear OPd EOx; have OPd := Aside0.mk ho; have EOx := Aside0.mk he; have HB := Aside0.mk ho.b; obtain ⟨Av, cv, rfl⟩ := Kd.R_slice hv; have HOv := Aside0.mk hv; clear hv ho he))
  go_ret3
  exact ⟨rfl, HB.out⟩
set_option maxHeartbeats 8000000 in
set_option maxRecDepth 100000 in
theorem Ask_good (ep : Int) (A : Option Addr) (c : Nat) (cs : List Int) (m0 m1 m2 : Int) (Af : Option Addr) (cf : Nat) (l : List S74) (Aq : Option Addr) (cq : Nat) (qs : List S74) (a b : Int) (w : World) (hr : Kd.C (Kd.int .i64) w A cs.length cs) (hc : cs.length ≤ c) (hrf : Kd.C k74 w Af l.length l) (hcf : l.length ≤ cf) (hrq : Kd.C k74 w Aq qs.length qs) (hcq : qs.length ≤ cq) (hcal : calB ep cs = true) (hmn : moonB m0 m1 m2 = true) (hfs : areFactsB l = true) (hqs : areQuestionsB qs = true) (hrg : rangeB a b = true) (ys : List Int) (hys : yearsFrom ep cs m0 m1 m2 l a (b - a + 1).toNat = ys) (hn : 2 ≤ ys.length) :
    Calls Tryz.prog 43 #[.agg #[.int .i64 ep, .slice A cs.length c], .agg #[.int .i64 m0, .int .i64 m1, .int .i64 m2], .slice Af l.length cf, .slice Aq qs.length cq, .int .i64 a, .int .i64 b] w fun e w' => e = .returned (.tuple #[.int .i64 (askR ep cs m0 m1 m2 ys qs).1, .int .i64 (askR ep cs m0 m1 m2 ys qs).2, .int .i64 0]) ∧ Below w.heap.size w w' := by
  obtain ⟨F, hF⟩ : ∃ F, firsts ep cs = F := ⟨_, rfl⟩
  have HFF := Aside0.mk hF
  clear hF
  have HK := Aside0.mk (areFactsB_kind hfs)
  have HKQ := Aside0.mk (areQuestionsB_kind hqs)
  have HQ6 := Aside0.mk (show 1 ≤ qs.length ∧ qs.length ≤ 6 by have h := hqs; simp only [areQuestionsB, Bool.and_eq_true, decide_eq_true_eq] at h; exact h.1)
  have hrr := rangeB_iff hrg
  have HAB := Aside0.mk (show 0 ≤ a ∧ a ≤ b ∧ b ≤ 4000 from ⟨hrr.1, hrr.2.1, hrr.2.2.1⟩)
  have hyl := yearsFrom_len ep cs m0 m1 m2 l a (b - a + 1).toNat
  have hyr := yearsFrom_range ep cs m0 m1 m2 l a (b - a + 1).toNat
  have HE := Aside0.mk (show 0 ≤ ep ∧ ep ≤ 1000 from ⟨(calB_iff hcal).1, (calB_iff hcal).2.1⟩)
  rw [hys] at hyl hyr
  have HYR := Aside0.mk (show ∀ y ∈ ys, 0 ≤ y ∧ y ≤ 4000 from fun y hy => by have := hyr y hy; omega)
  have HYL := Aside0.mk (show ys.length ≤ 401 by omega)
  have HYS := Aside0.mk hys
  clear hrr hyl hyr hys
  have hu24 := Tryz.underlying24
  have hu45 := Tryz.underlying45
  have hu83 := Tryz.underlying83
  have hu108 := Tryz.underlying108
  have hu74 := Tryz.underlying74
  have hu112 := Tryz.underlying112
  have hmm := @run_makeMap Tryz.prog
  have HB := Aside0.mk (Below.refl w.heap.size w)
  have HR := Aside0.mk hr
  have HC := Aside0.mk hc
  have HRF := Aside0.mk hrf
  have HCF := Aside0.mk hcf
  have HRQ := Aside0.mk hrq
  have HCQ := Aside0.mk hcq
  clear hr hc hrf hcf hrq hcq
  have HCAL := Aside0.mk hcal
  clear hcal
  have HMN := Aside0.mk hmn
  clear hmn
  have HFS := Aside0.mk hfs
  clear hfs
  have HQS := Aside0.mk hqs
  clear hqs
  have HRG := Aside0.mk hrg
  clear hrg
  have e0 : ((ys.length : Int) == 0) = false := beq_eq_false_iff_ne.mpr (by omega)
  have e0' : decide ((ys.length : Int) = 0) = false := decide_eq_false (by omega)
  have e1 : ((ys.length : Int) == 1) = false := beq_eq_false_iff_ne.mpr (by omega)
  have e1' : decide ((ys.length : Int) = 1) = false := decide_eq_false (by omega)
  have HN := Aside0.mk hn
  clear hn
  go_enter Tryz.func43, Tryz.ntmps43
  go_wp2_with (first
    | ((with_reducible refine zG 6 rfl ?_); refine zBox 6 #[.int .i64 ep, .slice A cs.length c] 24 ?_; intro g1 hg w1 hbox hb; have GEg1 := zge hg HB; replace HB := zW HB hb; have BKg1 := Aside0.mk hbox; clear hb hbox hg; have z1_g10 := zC BKg1)
    | ((with_reducible refine zG 7 rfl ?_); refine zBox 7 #[.int .i64 m0, .int .i64 m1, .int .i64 m2] 45 ?_; intro g2 hg w2 hbox hb; have GEg2 := zge hg HB; have NEg1_g2 := zne hg BKg1; replace HB := zW HB hb; replace BKg1 := zb BKg1 hb; have BKg2 := Aside0.mk hbox; clear hb hbox hg; (try clear z1_g10); have z2_g10 := zC BKg1; have z2_g20 := zC BKg2)
    | (go_at_call 46; (with_reducible refine (isCal_l ep A c cs true HCAL.out w _ HR.out HC.out HB.out).mono ?_); rintro e w3 ⟨rfl, hb⟩; replace HB := zW HB hb; replace BKg1 := zb BKg1 hb; replace BKg2 := zb BKg2 hb; clear hb; (try clear z2_g10 z2_g20); have z3_g10 := zC BKg1; have z3_g20 := zC BKg2)
    | (go_at_call 58; (with_reducible refine (isMoon_l m0 m1 m2 true HMN.out _).mono ?_); rintro e w4 ⟨rfl, hb⟩; replace HB := zW HB hb; replace BKg1 := zb BKg1 hb; replace BKg2 := zb BKg2 hb; clear hb; (try clear z3_g10 z3_g20); have z4_g10 := zC BKg1; have z4_g20 := zC BKg2)
    | (go_at_call 76; (with_reducible refine (areFacts_l Af cf l true HFS.out w _ HRF.out HCF.out HB.out).mono ?_); rintro e w5 ⟨rfl, hb⟩; replace HB := zW HB hb; replace BKg1 := zb BKg1 hb; replace BKg2 := zb BKg2 hb; clear hb; (try clear z4_g10 z4_g20); have z5_g10 := zC BKg1; have z5_g20 := zC BKg2)
    | (go_at_call 79; (with_reducible refine (areQuestions_l Aq cq qs true HQS.out w _ HRQ.out HCQ.out HB.out).mono ?_); rintro e w5 ⟨rfl, hb⟩; replace HB := zW HB hb; replace BKg1 := zb BKg1 hb; replace BKg2 := zb BKg2 hb; clear hb; (try clear z5_g10 z5_g20); have z6_g10 := zC BKg1; have z6_g20 := zC BKg2)
    | (go_at_call 77; (with_reducible refine (isRange_l a b true HRG.out _).mono ?_); rintro e w6 ⟨rfl, hb⟩; replace HB := zW HB hb; replace BKg1 := zb BKg1 hb; replace BKg2 := zb BKg2 hb; clear hb; (try clear z6_g10 z6_g20); have z7_g10 := zC BKg1; have z7_g20 := zC BKg2)
    | (go_at_call 48; (with_reducible refine (open_eok ep A c cs m0 m1 m2 (sundayOf ep cs m0 m1 m2) w _ HR.out HC.out HCAL.out HB.out F HFF.out).mono ?_); rintro e w7 ⟨a5, c5, mb, rfl, ho, he, hb⟩; have OPd := Aside0.mk ho; have EOx := Aside0.mk he; clear ho he hb HB BKg1 BKg2)
    | (go_at_call 78; (with_reducible refine (years_b m0 m1 m2 OPd.out EOx.out HMN.out Af cf l HRF.out HCF.out HK.out a b HAB.out.1 HAB.out.2.1 HAB.out.2.2).mono ?_); rintro e w8 ⟨v, rfl, hv, ho, he⟩; rw [HYS.out] at hv; clear OPd EOx; have OPd := Aside0.mk ho; have EOx := Aside0.mk he; have HB := Aside0.mk ho.b; obtain ⟨Av, cv, rfl⟩ := Kd.R_slice hv; have HOv := Aside0.mk hv; clear hv ho he))
  go_loopw [16, 64] (fun v16 v64 Wr => ∃ (i : Nat), v64 = .int .i64 i ∧ i ≤ qs.length ∧ Aside0 (Below w.heap.size w Wr) ∧ Aside0 (Opd ep A c cs F a5 c5 mb w Wr) ∧ Aside0 (EOk (sundayOf ep cs m0 m1 m2) mb Wr) ∧ Aside0 ((askKd ep A c cs.length m0 m1 m2 a5 F.length c5 mb).R 108 Wr w.heap.size (fun k => k ≠ mb) (.slice Av ys.length cv) ys) ∧ Aside0 (kQ.R 112 Wr w.heap.size (fun k => k ≠ mb) v16 (allUp ep cs m0 m1 m2 ys qs i))) (fun _ i _ => qs.length - (intOf i).toNat)
  case atStart => exact ⟨0, rfl, by omega, HB, OPd, EOx, HOv, ⟨Kd.R_nil _ _ _ _ _⟩⟩
  case round =>
    clear HB OPd EOx HOv
    obtain ⟨i, rfl, hi, HB, OPd, EOx, HOv, HOa⟩ := hrel
    by_cases hlt : i < qs.length
    · obtain ⟨va, hva⟩ : ∃ v, v = u16 := ⟨_, rfl⟩
      subst hva
      obtain ⟨q, hq⟩ : ∃ q, qs[i] = q := ⟨_, rfl⟩
      have HQK := Aside0.mk (HKQ.out q (hq ▸ List.getElem_mem hlt))
      obtain ⟨adq, eAq, x0, x1, x2, x3⟩ := at_T74 (Kd.C_below HRQ.out HB.out) (i : Int) (by omega) (by omega)
      have hrd : rd_T74 qs (i : Int) = q := by unfold rd_T74; rw [Int.toNat_natCast, List.getD_eq_getElem?_getD, List.getElem?_eq_getElem hlt, Option.getD_some, hq]
      rw [hrd, Int.toNat_natCast] at x0 x1 x2 x3
      subst eAq
      obtain ⟨AL, hAL⟩ : ∃ AL, ansL ep cs m0 m1 m2 ys q = AL := ⟨_, rfl⟩
      have HALL := Aside0.mk (show AL.length = ys.length by rw [← hAL]; simp [ansL])
      have HAT := Aside0.mk (show ∀ (j : Nat) (h : j < ys.length) (h' : j < AL.length), AL[j] = ansOf ep cs m0 m1 m2 ys[j] q.f0 q.f1 q.f2 by intro j h h'; subst hAL; simp [ansL])
      have HNX := Aside0.mk (show allUp ep cs m0 m1 m2 ys qs (i + 1) = allUp ep cs m0 m1 m2 ys qs i ++ [((i : Int), leftMost AL)] by rw [allUp_succ ep cs m0 m1 m2 ys qs i hlt, hq, hAL])
      have hi0 : (0 : Int) ≤ (i : Int) := by omega
      have hi1 : (i : Int) < (qs.length : Int) := by omega
      have hi2 : (i : Int) ≤ 1000 := by have := HQ6.out; omega
      have hib : decide ((i : Int) < (qs.length : Int)) = true := decide_eq_true hi1
      clear hq hrd hAL
      go_wp2_with (first
        | ((with_reducible refine zG 18 rfl ?_); refine zBox 18 #[.int .i64 0, .int .i64 0, .int .i64 0, .int .i64 0] 74 ?_; intro gq hg w1 hbox hb; have GEgq := zge hg HB; replace HB := zW HB hb; replace OPd := zo OPd hb; replace EOx := Aside0.mk (by first | exact EOx.out.below hb | exact EOx.out.belowD hb); replace HOv := zr HOv hb; replace HOa := zr HOa hb; have BKgq := Aside0.mk hbox; clear hb hbox hg; have o1_gq0 := zC BKgq)
        | ((with_reducible refine zH 74 18 rfl ?_); refine zSto 74 18 #[.int .i64 q.f0, .int .i64 q.f1, .int .i64 q.f2, .int .i64 q.f3] BKgq ?_; intro w2 hw; replace HB := zWS hw GEgq HB; replace OPd := zoS hw GEgq BKgq OPd; replace EOx := Aside0.mk (EOk.setRow' hw BKgq.out EOx.out); replace HOv := Aside0.mk (R_setRow' hw (by first | decide | (intro q hq; simp [askKd, kQ] at hq; omega)) BKgq.out HOv.out); replace HOa := Aside0.mk (R_setRow' hw (by first | decide | (intro q hq; simp [askKd, kQ] at hq; omega)) BKgq.out HOa.out); replace BKgq := znew hw BKgq; clear hw; (try clear o1_gq0); have o2_gq0 := zC BKgq)
        | ((with_reducible refine zG 69 rfl ?_); refine map_event ?hg (N := 69) ?hd ?hr ?_; (case hd => rfl); (case hg => rfl); (case hr => first | (go_simp; done) | (go_simp; rfl)); intro mm hg w3 hbox hb; have GEmm := zge hg HB; have NEm := Aside0.mk (show mb ≠ mm by rw [hg]; exact Nat.ne_of_lt EOx.out.lt); replace HB := zW HB hb; replace OPd := zo OPd hb; replace EOx := Aside0.mk (by first | exact EOx.out.below hb | exact EOx.out.belowD hb); replace HOv := zr HOv hb; replace HOa := zr HOa hb; replace BKgq := zb BKgq hb; have CMm := Aside0.mk (CMap.start hbox); clear hb hbox hg; (try clear o2_gq0); have o3_gq0 := zC BKgq)
        | ((with_reducible refine zG 20 rfl ?_); refine zBox 20 #[.int .i64 0, .int .i64 0] 112 ?_; intro gx hg w4 hbox hb; have GEgx := zge hg HB; have NEgq_gx := zne hg BKgq; replace HB := zW HB hb; replace OPd := zo OPd hb; replace EOx := Aside0.mk (by first | exact EOx.out.below hb | exact EOx.out.belowD hb); replace HOv := zr HOv hb; replace HOa := Aside0.mk (by exact R_apart_new HOa.out hg hb); replace BKgq := zb BKgq hb; replace CMm := Aside0.mk (by first | exact CMm.out.below hb | exact CMm.out.belowD hb); have BKgx := Aside0.mk hbox; clear hb hbox hg; (try clear o3_gq0); have o4_gq0 := zC BKgq; have o4_gx0 := zC BKgx)
        | ((with_reducible refine zH 112 20 rfl ?_); refine zSto 112 20 #[.int .i64 i, .int .i64 0] BKgx ?_; intro w5 hw; replace HB := zWS hw GEgx HB; replace OPd := zoS hw GEgx BKgx OPd; replace EOx := Aside0.mk (EOk.setRow' hw BKgx.out EOx.out); replace HOv := Aside0.mk (R_setRow' hw (by first | decide | (intro q hq; simp [askKd, kQ] at hq; omega)) BKgx.out HOv.out); replace HOa := Aside0.mk (R_setRow_nek hw HOa.out); replace BKgq := zfar hw (by first | exact NEgq_gx.out | exact NEgx_gq.out.symm) BKgq; replace CMm := Aside0.mk (CMap.setRow' hw BKgx.out CMm.out); replace BKgx := znew hw BKgx; clear hw; (try clear o4_gq0 o4_gx0); have o5_gq0 := zC BKgq; have o5_gx0 := zC BKgx))
      clear o5_gq0 o5_gx0
      clear x0 x1 x2 x3
      obtain ⟨wo, hwo⟩ : ∃ wo, wo = wr := ⟨_, rfl⟩
      subst hwo
      go_loopw [74] (fun v74 Wr => ∃ (j : Nat), v74 = .int .i64 j ∧ j ≤ ys.length ∧ Aside0 (Below w.heap.size w Wr) ∧ Aside0 (Opd ep A c cs F a5 c5 mb w Wr) ∧ Aside0 (EOk (sundayOf ep cs m0 m1 m2) mb Wr) ∧ Aside0 ((askKd ep A c cs.length m0 m1 m2 a5 F.length c5 mb).R 108 Wr w.heap.size (fun k => k ≠ mb) (.slice Av ys.length cv) ys) ∧ Aside0 (kQ.R 112 Wr w.heap.size (fun k => k ≠ mb ∧ k ≠ gx) va (allUp ep cs m0 m1 m2 ys qs i)) ∧ Aside0 (CMap (cntOf (AL.take j)) mm Wr) ∧ Aside0 (Wr.heap[gq]? = some (.cells #[.int .i64 q.f0, .int .i64 q.f1, .int .i64 q.f2, .int .i64 q.f3] 74 (0, 0))) ∧ Aside0 (Wr.heap[gx]? = some (.cells #[.int .i64 i, .int .i64 (leftUp AL j)] 112 (0, 0)))) (fun j _ => ys.length - (intOf j).toNat)
      case atStart => exact ⟨0, rfl, by omega, HB, OPd, EOx, HOv, HOa, by rw [List.take_zero, cntOf_nil]; exact CMm, BKgq, BKgx⟩
      case round =>
        clear HB OPd EOx HOv HOa CMm BKgq BKgx
        obtain ⟨j, rfl, hj, HB, OPd, EOx, HOv, HOa, CMm, BKgq, BKgx⟩ := hrel
        obtain ⟨L, hL⟩ : ∃ L, leftUp AL j = L := ⟨_, rfl⟩
        rw [hL] at BKgx
        have HLL := Aside0.mk hL
        clear hL
        have n1_gq0 := zC BKgq
        have n1_gx0 := zC BKgx
        by_cases hlj : j < ys.length
        · obtain ⟨y, hy⟩ : ∃ y, ys[j] = y := ⟨_, rfl⟩
          have hyr := HYR.out y (hy ▸ List.getElem_mem hlj)
          have Y0 := Aside0.mk hyr.1
          have Y1 := Aside0.mk hyr.2
          obtain ⟨n, hn⟩ : ∃ n, ansOf ep cs m0 m1 m2 y q.f0 q.f1 q.f2 = n := ⟨_, rfl⟩
          have hnb := ansOf_bd (cs := cs) HMN.out HE.out y q.f0 q.f1 q.f2 hyr.1 hyr.2
          rw [hn] at hnb
          have HWF := Aside0.mk (wf_of n (by omega) (by omega))
          have hla : j < AL.length := by rw [HALL.out]; exact hlj
          have hAj : AL[j] = n := by rw [HAT.out j hlj hla, hy, hn]
          have htk : AL.take (j + 1) = AL.take j ++ [n] := by rw [List.take_succ_eq_append_getElem hla, hAj]
          obtain ⟨k, hk⟩ : ∃ k, cntOf (AL.take j) n = k := ⟨_, rfl⟩
          have hkb := cntOf_bd (AL.take j) n
          rw [hk] at hkb
          have hkl : k ≤ 401 := by have := HYL.out; have := HALL.out; have := List.length_take_le j AL; omega
          have hk0 : 0 ≤ k := hkb.1
          have hck : cntOf (AL.take j ++ [n]) n = k + 1 := by rw [← cntOf_snoc, upd_eq, hk]
          obtain ⟨L', hL'⟩ : ∃ L', mx L (k + 1) = L' := ⟨_, rfl⟩
          have HLN := Aside0.mk (show leftUp AL (j + 1) = L' by rw [← hL']; show mx (leftUp AL j) (cntOf (AL.take (j + 1)) (AL.getD j 0)) = _; rw [HLL.out, List.getD_eq_getElem?_getD, List.getElem?_eq_getElem hla, Option.getD_some, hAj, htk, hck])
          have HTK := Aside0.mk htk
          have HAN := Aside0.mk hn
          have HCN := Aside0.mk hk
          have HCK := Aside0.mk hck
          obtain ⟨ad, eA, q0, q1, q2, q3, q4, q5, q6, q7⟩ := at_ask (Kd.R_reads' HOv.out).2.2 j hlj y hy
          subst eA
          have hj0 : (0 : Int) ≤ (j : Int) := by omega
          have hj1 : (j : Int) < (ys.length : Int) := by omega
          have hj2 : (j : Int) ≤ 1000 := by have := HYL.out; omega
          have hjb : decide ((j : Int) < (ys.length : Int)) = true := decide_eq_true hj1
          clear hy hyr hn hnb hla hAj htk hkb hck hk
          by_cases hcmp : L < k + 1
          · have hLe : L' = k + 1 := by rw [← hL']; unfold mx; rw [if_pos hcmp]
            clear hL'
            subst hLe
            go_wp2_with (first
              | ((with_reducible refine zG 22 rfl ?_); refine zBox 22 #[.int .i64 0, .slice none 0 0, .int .i64 0, .int .i64 0, .int .i64 0, .slice none 0 0, .map none, .int .i64 0] 108 ?_; intro ga hg w6 hbox hb; have GEga := zge hg HB; have NEgq_ga := zne hg BKgq; have NEgx_ga := zne hg BKgx; replace HB := zW HB hb; replace OPd := zo OPd hb; replace EOx := Aside0.mk (by first | exact EOx.out.below hb | exact EOx.out.belowD hb); replace HOv := Aside0.mk (by exact R_apart_new HOv.out hg hb); replace HOa := zr HOa hb; replace CMm := Aside0.mk (by first | exact CMm.out.below hb | exact CMm.out.belowD hb); replace BKgq := zb BKgq hb; replace BKgx := zb BKgx hb; have BKga := Aside0.mk hbox; clear hb hbox hg; (try clear n1_gq0 n1_gx0); have n2_gq0 := zC BKgq; have n2_gx0 := zC BKgx; have n2_ga0 := zC BKga)
              | ((with_reducible refine zH 108 22 rfl ?_); refine zSto 108 22 #[.int .i64 ep, .slice A cs.length c, .int .i64 m0, .int .i64 m1, .int .i64 m2, .slice (some a5) F.length c5, .map (some mb), .int .i64 y] BKga ?_; intro w7 hw; replace HB := zWS hw GEga HB; replace OPd := zoS hw GEga BKga OPd; replace EOx := Aside0.mk (EOk.setRow' hw BKga.out EOx.out); replace HOv := Aside0.mk (R_setRow_ne hw HOv.out); replace HOa := Aside0.mk (R_setRow' hw (by first | decide | (intro q hq; simp [askKd, kQ] at hq; omega)) BKga.out HOa.out); replace CMm := Aside0.mk (CMap.setRow' hw BKga.out CMm.out); replace BKgq := zfar hw (by first | exact NEgq_ga.out | exact NEga_gq.out.symm) BKgq; replace BKgx := zfar hw (by first | exact NEgx_ga.out | exact NEga_gx.out.symm) BKgx; replace BKga := znew hw BKga; clear hw; (try clear n2_gq0 n2_gx0 n2_ga0); have n3_gq0 := zC BKgq; have n3_gx0 := zC BKgx; have n3_ga0 := zC BKga)
              | (go_at_call 80; (with_reducible refine (answer_b m0 m1 m2 OPd.out EOx.out HMN.out y Y0.out Y1.out q.f0 q.f1 q.f2 q.f3 HQK.out).mono ?_); rintro e w8 ⟨rfl, he, hg⟩; rw [HAN.out]; have n0_ := Aside0.mk (OPd.out.gr hg he.blk); have n1_ := Aside0.mk (below_gr HB.out hg OPd.out.zmb); have n2_ := Aside0.mk (Kd.R_grown HOv.out hg (fun k hk e => hk (Option.some.inj e))); have n3_ := Aside0.mk (Kd.R_grown HOa.out hg (fun k hk e => hk.1 (Option.some.inj e))); have n4_ := Aside0.mk (CMm.out.gr hg NEm.out.symm); have n5_ := Aside0.mk (blk_gr_cells BKgq.out EOx.out.blk hg); have n6_ := Aside0.mk (blk_gr_cells BKgx.out EOx.out.blk hg); clear OPd HB HOv HOa CMm BKgq BKgx BKga EOx; have OPd := n0_; have HB := n1_; have HOv := n2_; have HOa := n3_; have CMm := n4_; have BKgq := n5_; have BKgx := n6_; have EOx := Aside0.mk he; clear n0_ n1_ n2_ n3_ n4_ n5_ n6_ he hg; (try clear n3_gq0 n3_gx0 n3_ga0); have n4_gq0 := zC BKgq; have n4_gx0 := zC BKgx; have hlk := CMm.out.look n HWF.out; (rw [HCN.out] at hlk))
              | (at_mapUpdate; obtain ⟨w9, hrun, hc9, hg⟩ := CMm.out.put n (k + 1) HWF.out; refine mapUpdate_event rfl rfl 110 _ _ _ rfl (by first | rfl | (go_simp; done)) (by first | rfl | (go_simp; done)) (by first | rfl | (go_simp; done)) hrun ?_; rw [← HCN.out, cntOf_snoc] at hc9; have n0_ := Aside0.mk (OPd.out.grm hg CMm.out.blk NEm.out GEmm.out); have n1_ := Aside0.mk (below_gr HB.out hg GEmm.out); have n2_ := Aside0.mk (R_grm HOv.out hg CMm.out.blk); have n3_ := Aside0.mk (R_grm HOa.out hg CMm.out.blk); have n4_ := Aside0.mk (EOx.out.grm hg NEm.out); have n5_ := Aside0.mk (blk_gr_cells BKgq.out CMm.out.blk hg); have n6_ := Aside0.mk (blk_gr_cells BKgx.out CMm.out.blk hg); clear OPd HB HOv HOa CMm BKgq BKgx EOx hlk; have OPd := n0_; have HB := n1_; have HOv := n2_; have HOa := n3_; have EOx := n4_; have BKgq := n5_; have BKgx := n6_; have CMm := Aside0.mk hc9; clear n0_ n1_ n2_ n3_ n4_ n5_ n6_ hc9 hrun hg; (try clear n4_gq0 n4_gx0); have n5_gq0 := zC BKgq; have n5_gx0 := zC BKgx; have n5_gx0f := zF BKgx; have hlk2 := CMm.out.look n HWF.out; (rw [HCK.out] at hlk2))
              | ((with_reducible refine zH 3 91 rfl ?_); refine store_event (t := 3) (p := 91) (v := ?vo) (w1 := w9.setCell ⟨gx, 1, none⟩ (.int .i64 (k + 1))) ?hg ?ho ?hn ?hr ?_; (case ho => rfl); (case hg => rfl); (case hn => rfl); (case hr => first | (go_simp; done) | (go_simp; rfl)); intro wa hw; have n0_ := Aside0.mk (show Opd ep A c cs F a5 c5 mb w wa by rw [hw]; exact OPd.out.set BKgx.out (by decide) GEgx.out 1 _); have n1_ := Aside0.mk (show Below w.heap.size w wa by rw [hw]; exact below_set HB.out GEgx.out); have n2_ := Aside0.mk (show (askKd ep A c cs.length m0 m1 m2 a5 F.length c5 mb).R 108 wa w.heap.size (fun k => k ≠ mb) _ ys by rw [hw]; exact Kd.R_set HOv.out BKgx.out (fun q hq => by simp [askKd] at hq; omega) 1 _); have n3_ := Aside0.mk (show kQ.R 112 wa w.heap.size (fun k => k ≠ mb ∧ k ≠ gx) va (allUp ep cs m0 m1 m2 ys qs i) by rw [hw]; exact R_put1 HOa.out 1 _); have n4_ := Aside0.mk (show EOk (sundayOf ep cs m0 m1 m2) mb wa by rw [hw]; exact EOx.out.put1 BKgx.out 1 _); have n5_ := Aside0.mk (show wa.heap[gq]? = some (.cells #[.int .i64 q.f0, .int .i64 q.f1, .int .i64 q.f2, .int .i64 q.f3] 74 (0, 0)) by rw [hw]; exact obj_far BKgq.out NEgq_gx.out _); have n6_ := Aside0.mk (show wa.heap[gx]? = some (.cells #[.int .i64 i, .int .i64 (k + 1)] 112 (0, 0)) by rw [hw]; exact blk_set BKgx.out 1 _); have n7_ := Aside0.mk (show CMap (cntOf (AL.take j ++ [n])) mm wa by rw [hw]; exact CMm.out.put1 BKgx.out 1 _); clear OPd HB HOv HOa EOx BKgq BKgx CMm hw hlk2; have OPd := n0_; have HB := n1_; have HOv := n2_; have HOa := n3_; have EOx := n4_; have BKgq := n5_; have BKgx := n6_; have CMm := n7_; clear n0_ n1_ n2_ n3_ n4_ n5_ n6_ n7_))
            go_roundw
            case rel => exact ⟨j + 1, by go_num, by omega, HB, OPd, EOx, HOv, HOa, by rw [HTK.out]; exact CMm, BKgq, by rw [HLN.out]; exact BKgx⟩
            case measure => simp [intOf]; omega
          · have hLe : L = L' := by rw [← hL']; unfold mx; rw [if_neg hcmp]
            have hcm2 : k + 1 ≤ L := by omega
            clear hL'
            subst hLe
            go_wp2_with (first
              | ((with_reducible refine zG 22 rfl ?_); refine zBox 22 #[.int .i64 0, .slice none 0 0, .int .i64 0, .int .i64 0, .int .i64 0, .slice none 0 0, .map none, .int .i64 0] 108 ?_; intro ga hg w6 hbox hb; have GEga := zge hg HB; have NEgq_ga := zne hg BKgq; have NEgx_ga := zne hg BKgx; replace HB := zW HB hb; replace OPd := zo OPd hb; replace EOx := Aside0.mk (by first | exact EOx.out.below hb | exact EOx.out.belowD hb); replace HOv := Aside0.mk (by exact R_apart_new HOv.out hg hb); replace HOa := zr HOa hb; replace CMm := Aside0.mk (by first | exact CMm.out.below hb | exact CMm.out.belowD hb); replace BKgq := zb BKgq hb; replace BKgx := zb BKgx hb; have BKga := Aside0.mk hbox; clear hb hbox hg; (try clear n1_gq0 n1_gx0); have n2_gq0 := zC BKgq; have n2_gx0 := zC BKgx; have n2_ga0 := zC BKga)
              | ((with_reducible refine zH 108 22 rfl ?_); refine zSto 108 22 #[.int .i64 ep, .slice A cs.length c, .int .i64 m0, .int .i64 m1, .int .i64 m2, .slice (some a5) F.length c5, .map (some mb), .int .i64 y] BKga ?_; intro w7 hw; replace HB := zWS hw GEga HB; replace OPd := zoS hw GEga BKga OPd; replace EOx := Aside0.mk (EOk.setRow' hw BKga.out EOx.out); replace HOv := Aside0.mk (R_setRow_ne hw HOv.out); replace HOa := Aside0.mk (R_setRow' hw (by first | decide | (intro q hq; simp [askKd, kQ] at hq; omega)) BKga.out HOa.out); replace CMm := Aside0.mk (CMap.setRow' hw BKga.out CMm.out); replace BKgq := zfar hw (by first | exact NEgq_ga.out | exact NEga_gq.out.symm) BKgq; replace BKgx := zfar hw (by first | exact NEgx_ga.out | exact NEga_gx.out.symm) BKgx; replace BKga := znew hw BKga; clear hw; (try clear n2_gq0 n2_gx0 n2_ga0); have n3_gq0 := zC BKgq; have n3_gx0 := zC BKgx; have n3_ga0 := zC BKga)
              | (go_at_call 80; (with_reducible refine (answer_b m0 m1 m2 OPd.out EOx.out HMN.out y Y0.out Y1.out q.f0 q.f1 q.f2 q.f3 HQK.out).mono ?_); rintro e w8 ⟨rfl, he, hg⟩; rw [HAN.out]; have n0_ := Aside0.mk (OPd.out.gr hg he.blk); have n1_ := Aside0.mk (below_gr HB.out hg OPd.out.zmb); have n2_ := Aside0.mk (Kd.R_grown HOv.out hg (fun k hk e => hk (Option.some.inj e))); have n3_ := Aside0.mk (Kd.R_grown HOa.out hg (fun k hk e => hk.1 (Option.some.inj e))); have n4_ := Aside0.mk (CMm.out.gr hg NEm.out.symm); have n5_ := Aside0.mk (blk_gr_cells BKgq.out EOx.out.blk hg); have n6_ := Aside0.mk (blk_gr_cells BKgx.out EOx.out.blk hg); clear OPd HB HOv HOa CMm BKgq BKgx BKga EOx; have OPd := n0_; have HB := n1_; have HOv := n2_; have HOa := n3_; have CMm := n4_; have BKgq := n5_; have BKgx := n6_; have EOx := Aside0.mk he; clear n0_ n1_ n2_ n3_ n4_ n5_ n6_ he hg; (try clear n3_gq0 n3_gx0 n3_ga0); have n4_gq0 := zC BKgq; have n4_gx0 := zC BKgx; have hlk := CMm.out.look n HWF.out; (rw [HCN.out] at hlk))
              | (at_mapUpdate; obtain ⟨w9, hrun, hc9, hg⟩ := CMm.out.put n (k + 1) HWF.out; refine mapUpdate_event rfl rfl 110 _ _ _ rfl (by first | rfl | (go_simp; done)) (by first | rfl | (go_simp; done)) (by first | rfl | (go_simp; done)) hrun ?_; rw [← HCN.out, cntOf_snoc] at hc9; have n0_ := Aside0.mk (OPd.out.grm hg CMm.out.blk NEm.out GEmm.out); have n1_ := Aside0.mk (below_gr HB.out hg GEmm.out); have n2_ := Aside0.mk (R_grm HOv.out hg CMm.out.blk); have n3_ := Aside0.mk (R_grm HOa.out hg CMm.out.blk); have n4_ := Aside0.mk (EOx.out.grm hg NEm.out); have n5_ := Aside0.mk (blk_gr_cells BKgq.out CMm.out.blk hg); have n6_ := Aside0.mk (blk_gr_cells BKgx.out CMm.out.blk hg); clear OPd HB HOv HOa CMm BKgq BKgx EOx hlk; have OPd := n0_; have HB := n1_; have HOv := n2_; have HOa := n3_; have EOx := n4_; have BKgq := n5_; have BKgx := n6_; have CMm := Aside0.mk hc9; clear n0_ n1_ n2_ n3_ n4_ n5_ n6_ hc9 hrun hg; (try clear n4_gq0 n4_gx0); have n5_gq0 := zC BKgq; have n5_gx0 := zC BKgx; have n5_gx0f := zF BKgx; have hlk2 := CMm.out.look n HWF.out; (rw [HCK.out] at hlk2))
              | ((with_reducible refine zH 3 91 rfl ?_); refine store_event (t := 3) (p := 91) (v := ?vo) (w1 := w9.setCell ⟨gx, 1, none⟩ (.int .i64 L)) ?hg ?ho ?hn ?hr ?_; (case ho => rfl); (case hg => rfl); (case hn => rfl); (case hr => first | (go_simp; done) | (go_simp; rfl)); intro wa hw; have n0_ := Aside0.mk (show Opd ep A c cs F a5 c5 mb w wa by rw [hw]; exact OPd.out.set BKgx.out (by decide) GEgx.out 1 _); have n1_ := Aside0.mk (show Below w.heap.size w wa by rw [hw]; exact below_set HB.out GEgx.out); have n2_ := Aside0.mk (show (askKd ep A c cs.length m0 m1 m2 a5 F.length c5 mb).R 108 wa w.heap.size (fun k => k ≠ mb) _ ys by rw [hw]; exact Kd.R_set HOv.out BKgx.out (fun q hq => by simp [askKd] at hq; omega) 1 _); have n3_ := Aside0.mk (show kQ.R 112 wa w.heap.size (fun k => k ≠ mb ∧ k ≠ gx) va (allUp ep cs m0 m1 m2 ys qs i) by rw [hw]; exact R_put1 HOa.out 1 _); have n4_ := Aside0.mk (show EOk (sundayOf ep cs m0 m1 m2) mb wa by rw [hw]; exact EOx.out.put1 BKgx.out 1 _); have n5_ := Aside0.mk (show wa.heap[gq]? = some (.cells #[.int .i64 q.f0, .int .i64 q.f1, .int .i64 q.f2, .int .i64 q.f3] 74 (0, 0)) by rw [hw]; exact obj_far BKgq.out NEgq_gx.out _); have n6_ := Aside0.mk (show wa.heap[gx]? = some (.cells #[.int .i64 i, .int .i64 L] 112 (0, 0)) by rw [hw]; exact blk_set BKgx.out 1 _); have n7_ := Aside0.mk (show CMap (cntOf (AL.take j ++ [n])) mm wa by rw [hw]; exact CMm.out.put1 BKgx.out 1 _); clear OPd HB HOv HOa EOx BKgq BKgx CMm hw hlk2; have OPd := n0_; have HB := n1_; have HOv := n2_; have HOa := n3_; have EOx := n4_; have BKgq := n5_; have BKgx := n6_; have CMm := n7_; clear n0_ n1_ n2_ n3_ n4_ n5_ n6_ n7_))
            go_roundw
            case rel => exact ⟨j + 1, by go_num, by omega, HB, OPd, EOx, HOv, HOa, by rw [HTK.out]; exact CMm, BKgq, by rw [HLN.out]; exact BKgx⟩
            case measure => simp [intOf]; omega
        · have hje : j = ys.length := by omega
          subst hje
          obtain ⟨LM, hLM⟩ : ∃ LM, leftMost AL = LM := ⟨_, rfl⟩
          have hLe : L = LM := by rw [← hLM, ← HLL.out]; unfold leftMost; rw [HALL.out]
          subst hLe
          have HNL := Aside0.mk hLM
          clear hLM
          go_wp2_with (first
            | ((with_reducible refine gate_builtin (b := .append) (xs := #[.tmp 93, .tmp 95]) rfl ?_); at_builtin; refine Kd.R_append kQ (w0 := w) w.heap.size rfl (.tmp 93) (.tmp 95) 109 112 (.agg #[.int .i64 0, .int .i64 0]) 16 rfl Tryz.underlying109 infoQ rfl (by decide) (by omega) va (allUp ep cs m0 m1 m2 ys qs i) ((i : Int), L) [.int .i64 i, .int .i64 L] (fun k => k ≠ mb ∧ k ≠ gx) (fun _ => False) rfl rfl ?aP (fun _ hk => hk.elim) ?aF ?aO ?aB ?aS ?aL ?_; (case aP => exact ⟨[.int .i64 i], [.int .i64 L], rfl, rfl, rfl⟩); (case aF => exact fun k hk => ⟨by have := EOx.out.lt; omega, by have := blk_lt BKgx.out; omega⟩); (case aO => exact HOa.out); (case aB => exact HB.out); (case aS => exact HB.out.size); (case aL => have := allUp_len ep cs m0 m1 m2 ys qs i; have := HQ6.out; omega); intro v1 wb ho hb hg _hat; have n0_ := Aside0.mk (Opd.other OPd.out hg (Kd.R_mono HOa.out (fun k hk => hk.1)) hb); have n1_ := Aside0.mk (EOx.out.other hg (Kd.R_mono HOa.out (fun k hk => hk.1))); have n2_ := Aside0.mk (Kd.R_over HOv.out HOa.out (fun q hq => by simp [askKd] at hq; omega) hg); clear OPd EOx HOv HB HOa BKgq BKgx CMm; have OPd := n0_; have EOx := n1_; have HOv := n2_; have HB := Aside0.mk hb; have HOa := Aside0.mk (Kd.R_mono ho (fun k hk => hk.1)); clear n0_ n1_ n2_ ho hb hg _hat))
          go_roundw
          case rel => exact ⟨i + 1, by go_num, by omega, HB, OPd, EOx, HOv, by rw [HNX.out, HNL.out]; exact HOa⟩
          case measure => simp [intOf]; omega
    · have hie : i = qs.length := by omega
      subst hie
      obtain ⟨Aa, cv2, hva⟩ := Kd.R_slice HOa.out
      have hra := HOa.out
      rw [hva] at hra
      obtain ⟨AU, hAU⟩ : ∃ AU, allUp ep cs m0 m1 m2 ys qs qs.length = AU := ⟨_, rfl⟩
      have hlen := allUp_len ep cs m0 m1 m2 ys qs qs.length
      rw [hAU] at hra hlen hva
      have hl6 := HQ6.out
      have hn0 : 0 < AU.length := by omega
      have hrr := Kd.R_reads' hra
      obtain ⟨ad, _, eA, _⟩ := Kd.C_get hrr.2.2 (0, 0) 0 (by omega) (by omega)
      subst eA
      obtain ⟨x0, hx0⟩ : ∃ x0, AU[0] = x0 := ⟨_, rfl⟩
      obtain ⟨r, hr⟩ : ∃ r, bestOf x0 AU = r := ⟨_, rfl⟩
      have HAC := Aside0.mk hrr.2.2
      have HAC2 := Aside0.mk hrr.2.1
      have HAN0 := Aside0.mk hn0
      have HAX := Aside0.mk hx0
      have HAL6 := Aside0.mk (show AU.length ≤ 1000 by omega)
      have HBO := Aside0.mk hr
      have HRES := Aside0.mk (show askR ep cs m0 m1 m2 ys qs = r by unfold askR; rw [hAU, ← hr]; congr 1; rw [← hx0, List.headD_eq_head?_getD, List.head?_eq_getElem?, List.getElem?_eq_getElem hn0]; rfl)
      clear hra hrr hx0 hr hAU hlen hl6 HOa OPd EOx HOv
      subst hva
      go_wp2_with (first
        | (go_at_call 81; (with_reducible refine (best_b ad cv2 AU x0 _ HAC.out HAC2.out HAN0.out HAX.out HAL6.out).mono ?_); rintro e w2 ⟨rfl, hb⟩; rw [HBO.out]; replace HB := zW HB hb; clear hb)
        | ((with_reducible refine zG 24 rfl ?_); refine zBox 24 #[.int .i64 0, .int .i64 0] 112 ?_; intro gz hg w3 hbox hb; have GEgz := zge hg HB; replace HB := zW HB hb; have BKgz := Aside0.mk hbox; clear hb hbox hg; have y1_gz0 := zC BKgz)
        | ((with_reducible refine zH 112 24 rfl ?_); refine zSto 112 24 #[.int .i64 r.1, .int .i64 r.2] BKgz ?_; intro w4 hw; replace HB := zWS hw GEgz HB; replace BKgz := znew hw BKgz; clear hw; (try clear y1_gz0); have y2_gz0 := zC BKgz))
      replace HB := zWD HB
      replace BKgz := zbD BKgz
      refine zStart 7 (fun w' => zCells w' gz 0 [.int .i64 r.1, .int .i64 r.2]) #[false, false, false, false, false, false, false] Ask25.tab Ask25.bits (zS BKgz) (fun hHeld HT_ HW_ => ?_)
      generalize w4.drew = wd at HB BKgz hHeld ⊢
      refine zP 0 (some 100) HT_ ?_
      refine zP 2 (some 102) HT_ ?_
      refine zT 1 (some 101) HT_ HW_ hHeld ?_
      refine zP 4 (some 12) HT_ ?_
      refine zT 3 (some 103) HT_ HW_ hHeld ?_
      refine zP 5 (some 13) HT_ ?_
      refine zP 6 (some 14) HT_ ?_
      refine done_ (done_of HT_.out (by kernel_rfl)) ?_
      try go_wp2
      go_ret3
      exact ⟨by rw [HRES.out]; first | done | rfl, HB.out⟩
end Go.Proofs.YtnllidgonghckaaGreatDoor.X
