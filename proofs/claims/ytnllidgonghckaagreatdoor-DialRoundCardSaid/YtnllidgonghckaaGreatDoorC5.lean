/- What the laws' proofs have in common: contracts of the program's functions, whatever memory they are called in. Conditions stand in each statement (part 6 of 12). -/
import Derived.ArgAppend
import Derived.Below
import Derived.BigQuiet
import Derived.Deep.AppendLies
import Derived.Deep.CutBlock
import Derived.Deep.DeepCutAuto
import Derived.Deep.Draws
import Derived.Deep.LoopGhost
import Derived.Deep.OwnRows
import Derived.Deep.QuietTactic
import Derived.Deep.RegionHeld3
import Derived.Defers
import Derived.KernelRfl
import Derived.Laws.BitsLemmas
import Derived.Laws.BytesArg
import Derived.Laws.CopyOwn
import Derived.Laws.IdiomCopy
import Derived.Laws.MakeOwn
import Derived.Laws.OwnMore
import Derived.Laws.Rows
import Derived.Laws.Slices
import Derived.Laws.StructEq
import Derived.Laws.Tables
import Derived.Lib.AppendStr
import Derived.Lib.ConvBytes
import Derived.Maps.AppendAt
import Derived.OrdersHeld
import Derived.OwnWalk
import Derived.Recover
import Derived.RowKit
import Derived.RowKit3
import Derived.Tactics
import Derived.Tactics2
import Derived.Test.YtnllidgonghckaaGreatDoorProg
import Derived.WalkKit
import Derived.WalkLawsBesides
import Derived.WideLaws
import Derived.Test.YtnllidgonghckaaGreatDoorC4
namespace Go.Proofs.YtnllidgonghckaaGreatDoor.X
open Go.RowKit Go.Proofs.YtnllidgonghckaaGreatDoorW.PrintWords Go.Proofs.YtnllidgonghckaaGreatDoorW.PrintLast Go.Proofs.YtnllidgonghckaaGreatDoorW.PrintMore Go.Proofs.YtnllidgonghckaaGreatDoor.Dm
set_option linter.unusedVariables false
set_option linter.unusedSimpArgs false
set_option maxHeartbeats 8000000 in
set_option maxRecDepth 100000 in
theorem try1_idle (p : Addr) (w : World) : CallsD Tryz.prog 89 #[.pointer (some p)] .returning w fun e u' w' => e = .returned (.tuple #[]) ∧ u' = .returning ∧ w' = w := by
  refine callsD_of_wpS Tryz.func89 rfl fun c₀ cs hu => ?_
  apply wpS_seq
  apply wpS_region
  simp [wpOpsS, go_sem, recoverD, hu, Tryz.ntmps89, Exit.thenS]
  refine wpS_of_wp ?_
  go_wp2
  cases c₀
  simp_all [bodyPostS, results, Tryz.results89]
set_option maxHeartbeats 8000000 in
set_option maxRecDepth 100000 in
theorem try1_away (b : Nat) (n : Int) (w : World) (hb : w.heap[b]? = some (.cells #[.int .i64 0] 27 (0, 0))) :
    CallsD Tryz.prog 89 #[.pointer (some ⟨b, 0, none⟩)] (.panicking ({ v := .iface 121 (.agg #[.int .i64 n]), recovered := false } :: [])) w fun e u' w' =>
      e = .returned (.tuple #[]) ∧ u' = .panicking ({ v := .iface 121 (.agg #[.int .i64 n]), recovered := true } :: []) ∧ w'.heap[b]? = some (.cells #[.int .i64 5] 27 (0, 0)) ∧
      (∀ k, k < w.heap.size → k ≠ b → w'.heap[k]? = w.heap[k]?) ∧ w.heap.size ≤ w'.heap.size ∧ w'.os = w.os ∧ w'.tape = w.tape ∧ w'.output = w.output := by
  have hc : w.cell? ⟨b, 0, none⟩ = some (.int .i64 0) := (blk_cell hb 0).trans rfl
  have hz := blk_frozen hb 0
  have hlt := blk_lt hb
  have hta : ∀ w, (Instr.typeAssert (.iface 121 (.agg #[.int .i64 n])) 20 121 true).run Tryz.prog w = .ok (.tuple #[.agg #[.int .i64 n], .bool true]) w := fun w => by kernel_rfl
  refine callsD_of_wpS Tryz.func89 rfl fun c₀ cs hu => ?_
  apply wpS_seq
  apply wpS_region
  simp [wpOpsS, go_sem, recoverD, hu, Tryz.ntmps89, Exit.thenS]
  refine wpS_of_wp ?_
  change Code.wp _ _ _ { tmps := #[.pointer (some ⟨b, 0, none⟩), undef, undef, undef, undef, .iface 121 (.agg #[.int .i64 n]), undef, undef, undef, undef, undef, undef, undef, undef], defers := [] } w
  go_wp2
  refine ⟨rfl, _, rfl, .tuple #[], by simp [results, Tryz.results89], rfl, rfl, ?_, fun k hk hne => ?_, ?_, rfl, rfl, rfl⟩
  · exact blk_below (blk_set hb 0 _) (below_alloc (Below.refl _ _) _)
  · have h1 := (below_alloc (Below.refl (w.setCell ⟨b, 0, none⟩ (.int .i64 5)).heap.size (w.setCell ⟨b, 0, none⟩ (.int .i64 5))) (Obj.cells #[Value.int IntKind.i64 n] 121)).block k (by simpa [World.setCell] using hk)
    exact h1.trans (Below.heap_setCell w ⟨b, 0, none⟩ (.int .i64 5) k hne)
  · simp [World.setCell, World.alloc]
set_option maxHeartbeats 8000000 in
set_option maxRecDepth 100000 in
theorem try_calls (g : FuncId) (fn : Func) (hf : Tryz.prog.funcs[g]? = some fn) (hname : (fn.name == "runtime.NumGoroutine") = false) (hbd : fn.body.isSome = true) (caps : Array Value) (w : World) (R : Int → World → Prop)
    (hR : ∀ r w2 w3, R r w2 → w.heap.size < w2.heap.size → (∀ k, k < w2.heap.size → k ≠ w.heap.size → w3.heap[k]? = w2.heap[k]?) → w2.heap.size ≤ w3.heap.size → w3.os = w2.os → w3.tape = w2.tape → w3.output = w2.output → R r w3)
    (h : ∀ w1, w1.heap[w.heap.size]? = some (.cells #[.int .i64 0] 27 (0, 0)) → Below w.heap.size w w1 → Calls Tryz.prog g caps w1 fun e w2 =>
      w2.heap[w.heap.size]? = some (.cells #[.int .i64 0] 27 (0, 0)) ∧ ((e = .returned (.tuple #[]) ∧ R 0 w2) ∨ ∃ n, e = .panicked [{ v := .iface 121 (.agg #[.int .i64 n]), recovered := false }] ∧ R 5 w2)) :
    Calls Tryz.prog 62 #[.func (.func g) #[] caps] w fun e w' => ∃ r, e = .returned (.int .i64 r) ∧ R r w' := by
  have hmf : ∀ (fn : Fn) (first cap : Array Value) (w : World), (Instr.makeFunc fn first cap).run Tryz.prog w = .ok (.func fn first cap) w := fun _ _ _ _ => rfl
  have hcf : ∀ w, (callFunc g caps).run Tryz.prog w = .ok (.enter g caps) w := fun w => enters_ hf hname hbd caps w
  go_enter_defers Tryz.func62, Tryz.ntmps62
  go_wp2
  refine (h _ (blk_new w _) (below_alloc (Below.refl _ _) _)).mono ?_
  rintro e w2 ⟨hb2, (⟨rfl, hr⟩ | ⟨n, rfl, hr⟩)⟩
  · have hc : w2.cell? ⟨w.heap.size, 0, none⟩ = some (.int .i64 0) := (blk_cell hb2 0).trans rfl
    have hz := blk_frozen hb2 0
    have hlt := blk_lt hb2
    go_wp2
    refine leaves_cons (f := 89) (args := #[.pointer (some ⟨w.heap.size, 0, none⟩)]) (by simp) (by simp [go_sem]) ?_
    refine (try1_idle ⟨w.heap.size, 0, none⟩ _).mono ?_
    rintro e u' w'' ⟨rfl, rfl, rfl⟩
    have hc3 := (blk_cell (blk_set hb2 0 (.int .i64 0)) 0)
    simp at hc3
    simp [Leaves, settle, results, Tryz.results62, go_sem, hc3]
    exact hR 0 w2 _ hr hlt (fun k hk hne => Below.heap_setCell w2 ⟨w.heap.size, 0, none⟩ (.int .i64 0) k hne) (by simp [World.setCell]) rfl rfl rfl
  · go_wp2
    refine leaves_cons (f := 89) (args := #[.pointer (some ⟨w.heap.size, 0, none⟩)]) (by simp) (by simp [go_sem]) ?_
    refine (try1_away w.heap.size n _ hb2).mono ?_
    rintro e u' w'' ⟨rfl, rfl, hb3, hk, hs, ho, ht, hou⟩
    have hc3 : w''.cell? ⟨w.heap.size, 0, none⟩ = some (.int .i64 5) := (blk_cell hb3 0).trans rfl
    simp [Leaves, settle, results, Tryz.results62, go_sem, hc3]
    exact hR 5 w2 _ hr (blk_lt hb2) hk hs ho ht hou
end Go.Proofs.YtnllidgonghckaaGreatDoor.X
