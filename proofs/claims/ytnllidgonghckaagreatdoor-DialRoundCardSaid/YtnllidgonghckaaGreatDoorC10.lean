/- What the laws' proofs have in common: contracts of the program's functions, whatever memory they are called in. Conditions stand in each statement (part 11 of 12). -/
import Derived.ArgAppend
import Derived.Below
import Derived.BigQuiet
import Derived.Deep.AppendLies
import Derived.Deep.CutBlock
import Derived.Deep.DeepCutAuto
import Derived.Deep.Draws
import Derived.Deep.LoopGhost
import Derived.Deep.OwnRows
import Derived.Deep.QuietTactic
import Derived.Deep.RegionHeld3
import Derived.DeepKeys5
import Derived.Defers
import Derived.KernelRfl
import Derived.Laws.BitsLemmas
import Derived.Laws.BytesArg
import Derived.Laws.CopyOwn
import Derived.Laws.IdiomCopy
import Derived.Laws.MakeOwn
import Derived.Laws.OwnMore
import Derived.Laws.Rows
import Derived.Laws.Slices
import Derived.Laws.StructEq
import Derived.Laws.Tables
import Derived.Lib.AppendStr
import Derived.Lib.ConvBytes
import Derived.Lib.ItoaLen
import Derived.Maps.AppendAt
import Derived.Maps.OwnOps
import Derived.OrdersHeld
import Derived.OwnWalk
import Derived.OwnWalkIn
import Derived.RangeFuncCalls
import Derived.RangeFuncKeeps
import Derived.RangeFuncLeaves
import Derived.Recover
import Derived.RowKit
import Derived.RowKit3
import Derived.Shelf.LaysM
import Derived.Shelf.Small.Wraps
import Derived.Shelf.Strconv.Itoa0
import Derived.Shelf.Strconv.Itoa1
import Derived.Shelf.Strconv.Itoa2
import Derived.Shelf.Strconv.Itoa3
import Derived.Shelf.Strings.Builder1
import Derived.Shelf.Strings.Builder2
import Derived.Shelf.Strings.Builder2Cap
import Derived.Shelf.Strings.BuilderCap
import Derived.Shelf.Strings.BuilderF
import Derived.Shelf.Strings.BuilderK
import Derived.Shelf.Strings.OnBuilder
import Derived.Tactics
import Derived.Tactics2
import Derived.TacticsInMore
import Derived.Test.YtnllidgonghckaaGreatDoorProg
import Derived.WalkKit
import Derived.WalkLawsBesides
import Derived.WideKeyEntry
import Derived.WideLaws
import Derived.Test.YtnllidgonghckaaGreatDoorC9
namespace Go.Proofs.YtnllidgonghckaaGreatDoor.X
open Go.RowKit Go.Proofs.YtnllidgonghckaaGreatDoorW.PrintWords Go.Proofs.YtnllidgonghckaaGreatDoorW.PrintLast Go.Proofs.YtnllidgonghckaaGreatDoorW.PrintMore Go.Proofs.YtnllidgonghckaaGreatDoor.Dm
set_option linter.unusedVariables false
set_option linter.unusedSimpArgs false
attribute [local go_sem] max2_int min2_int max_two min_two max_three min_three max_four min_four
def Tab (w : World) : Prop := Lib.TabIs Tryz.prog w "internal/strconv.uint64pow10" .u64 Lib.pow10Tab
theorem Tab.below {w w' : World} (h : Tab w) (hb : Below w.heap.size w w') : Tab w' := by
  unfold Tab Lib.TabIs World.var? at h ⊢
  cases hg : Tryz.prog.globalNamed "internal/strconv.uint64pow10" with
  | none => rw [hg] at h; simp at h
  | some g =>
    rw [hg] at h
    simp only [Option.bind_some] at h ⊢
    cases ho : w.heap[g]? with
    | none => rw [ho] at h; simp at h
    | some o => rw [hb.block g (blk_lt ho)]; exact h
theorem below_grow (w : World) (k : Nat) (os : Array Obj) : Below w.heap.size w (Sort.grow (w.drewN k) os) :=
  ⟨rfl, rfl, rfl, by simp [Sort.grow, World.drewN], fun i hi => by simp only [Sort.grow]; rw [Array.getElem?_append_left (by simpa [World.drewN] using hi)]; rfl⟩
theorem itoa_b (n : Int) (h0 : -9223372036854775808 ≤ n) (h1 : n ≤ 9223372036854775807) (w0 w : World) (ht : Tab w0) (hB : Below w0.heap.size w0 w) :
    Calls Tryz.prog 107 #[.int .i64 n] w fun e w' => e = .returned (.string ⟨(Lib.itoa n).toArray⟩) ∧ Below w.heap.size w w' := by
  refine (Tryz.strconv_Itoa n h0 h1 w (ht.below hB)).mono ?_
  rintro e w' ⟨rfl, k, os, rfl⟩
  exact ⟨rfl, below_grow w k os⟩
set_option maxHeartbeats 8000000 in
set_option maxRecDepth 100000 in
theorem words_b (w : World) :
    Calls Tryz.prog 113 #[] w fun e w' => e = .returned (.agg #[(.string { data := #[99, 97, 108, 101, 110, 100, 97, 114] }), (.string { data := #[109, 111, 111, 110] }), (.string { data := #[119, 101, 101, 107, 100, 97, 121] }), (.string { data := #[97, 103, 101] }), (.string { data := #[101, 97, 115, 116, 101, 114] }), (.string { data := #[103, 111, 108, 100, 101, 110] }), (.string { data := #[100, 97, 121, 115] })]) ∧ Below w.heap.size w w' := by
  have hu144 := Tryz.underlying144
  have HB := Aside0.mk (Below.refl w.heap.size w)
  go_enter Tryz.func113, Tryz.ntmps113
  go_wp2_with (first
    | ((with_reducible refine zG 0 rfl ?_); refine zBox 0 #[.string { data := #[] }, .string { data := #[] }, .string { data := #[] }, .string { data := #[] }, .string { data := #[] }, .string { data := #[] }, .string { data := #[] }] 144 ?_; intro gr hg w1 hbox hb; have GEgr := zge hg HB; replace HB := zW HB hb; have BKgr := Aside0.mk hbox; clear hb hbox hg; have z1_gr0 := zC BKgr)
    | ((with_reducible refine zH 144 0 rfl ?_); refine zSto 144 0 #[(.string { data := #[99, 97, 108, 101, 110, 100, 97, 114] }), (.string { data := #[109, 111, 111, 110] }), (.string { data := #[119, 101, 101, 107, 100, 97, 121] }), (.string { data := #[97, 103, 101] }), (.string { data := #[101, 97, 115, 116, 101, 114] }), (.string { data := #[103, 111, 108, 100, 101, 110] }), (.string { data := #[100, 97, 121, 115] })] BKgr ?_; intro w2 hw; replace HB := zWS hw GEgr HB; replace BKgr := znew hw BKgr; clear hw; (try clear z1_gr0); have z2_gr0 := zC BKgr))
  refine bodyPost_ret (results_cell_row rfl _ _ gr 144 #[(.string { data := #[99, 97, 108, 101, 110, 100, 97, 114] }), (.string { data := #[109, 111, 111, 110] }), (.string { data := #[119, 101, 101, 107, 100, 97, 121] }), (.string { data := #[97, 103, 101] }), (.string { data := #[101, 97, 115, 116, 101, 114] }), (.string { data := #[103, 111, 108, 100, 101, 110] }), (.string { data := #[100, 97, 121, 115] })] (0, 0) _ rfl BKgr.out Tryz.underlying144 rfl (by kernel_rfl)) rfl ?_
  exact ⟨rfl, HB.out⟩
def wordB (k : Int) : ByteArray := if k = 0 then ({ data := #[99, 97, 108, 101, 110, 100, 97, 114] } : ByteArray) else if k = 1 then ({ data := #[109, 111, 111, 110] } : ByteArray) else if k = 2 then ({ data := #[119, 101, 101, 107, 100, 97, 121] } : ByteArray) else if k = 3 then ({ data := #[97, 103, 101] } : ByteArray) else if k = 4 then ({ data := #[101, 97, 115, 116, 101, 114] } : ByteArray) else if k = 5 then ({ data := #[103, 111, 108, 100, 101, 110] } : ByteArray) else ({ data := #[100, 97, 121, 115] } : ByteArray)
def numB (n : Int) : ByteArray := ({ data := #[32] } : ByteArray) ++ ⟨(Lib.itoa n).toArray⟩
def rowB (k : Int) (l : List Int) : ByteArray := l.foldl (fun b n => b ++ numB n) (wordB k)
theorem rowB_snoc (k : Int) (l : List Int) (n : Int) : rowB k (l ++ [n]) = rowB k l ++ numB n := by unfold rowB; rw [List.foldl_append]; rfl
theorem wordB_size (k : Int) : (wordB k).size ≤ 8 := by
  unfold wordB
  repeat (split; · decide)
  decide
theorem numB_size (n : Int) (h0 : -9223372036854775808 ≤ n) (h1 : n ≤ 9223372036854775807) : (numB n).size ≤ 22 := by
  unfold numB
  rw [ByteArray.size_append]
  have := Lib.itoa_length_le n h0 h1
  show 1 + (Lib.itoa n).toArray.size ≤ 22
  rw [List.size_toArray]
  omega
theorem rowB_size (k : Int) (l : List Int) (hl : ∀ n ∈ l, -9223372036854775808 ≤ n ∧ n ≤ 9223372036854775807) : (rowB k l).size ≤ 8 + 22 * l.length := by
  unfold rowB
  have key : ∀ (m : List Int) (b : ByteArray), (∀ n ∈ m, -9223372036854775808 ≤ n ∧ n ≤ 9223372036854775807) → (m.foldl (fun b n => b ++ numB n) b).size ≤ b.size + 22 * m.length := by
    intro m
    induction m with
    | nil => intro b _; simp
    | cons x r ih =>
      intro b hx
      have h1 := ih (b ++ numB x) (fun n hn => hx n (List.mem_cons_of_mem _ hn))
      have h2 := hx x List.mem_cons_self
      have h3 := numB_size x h2.1 h2.2
      rw [ByteArray.size_append] at h1
      simp only [List.foldl_cons, List.length_cons]
      omega
  have := key l (wordB k) hl
  have := wordB_size k
  omega
set_option maxHeartbeats 8000000 in
set_option maxRecDepth 100000 in
theorem row_0 (A : Option Addr) (c : Nat) (l : List Int) (hl : ∀ n ∈ l, -9223372036854775808 ≤ n ∧ n ≤ 9223372036854775807) (h1000 : l.length ≤ 1000) (w0 w : World) (ht : Tab w0) (hB0 : Below w0.heap.size w0 w) (hr : Kd.C (Kd.int .i64) w A l.length l) (hc : l.length ≤ c) :
    Calls Tryz.prog 105 #[.int .i64 0, .slice A l.length c] w fun e w' => e = .returned (.string (rowB 0 l)) ∧ Below w.heap.size w w' := by
  have hix : ∀ w, (Instr.index 144 (.agg #[(.string { data := #[99, 97, 108, 101, 110, 100, 97, 114] }), (.string { data := #[109, 111, 111, 110] }), (.string { data := #[119, 101, 101, 107, 100, 97, 121] }), (.string { data := #[97, 103, 101] }), (.string { data := #[101, 97, 115, 116, 101, 114] }), (.string { data := #[103, 111, 108, 100, 101, 110] }), (.string { data := #[100, 97, 121, 115] })]) (.int .i64 0)).run Tryz.prog w = .ok (.string (wordB 0)) w := fun w => by kernel_rfl
  have HB := Aside0.mk (Below.refl w.heap.size w)
  have HR := Aside0.mk hr
  have HT := Aside0.mk ht
  have HB0 := Aside0.mk hB0
  have HL := Aside0.mk hl
  have H1000 := Aside0.mk h1000
  clear hr ht hB0 hl
  go_enter Tryz.func105, Tryz.ntmps105
  go_wp2_with (first
    | (go_at_call 113; (with_reducible refine (words_b _).mono ?_); rintro e w1 ⟨rfl, hb⟩; replace HB := zW HB hb; clear hb))
  go_loopw [5, 13] (fun v5 v13 Wr => ∃ (i : Nat), v13 = .int .i64 i ∧ i ≤ l.length ∧ v5 = .string (rowB 0 (l.take i)) ∧ Aside0 (Below w.heap.size w Wr)) (fun _ i _ => l.length - (intOf i).toNat)
  case atStart => exact ⟨0, rfl, by omega, by rfl, HB⟩
  case round =>
    clear HB
    obtain ⟨i, rfl, hi, rfl, HB⟩ := hrel
    obtain ⟨s, hs⟩ : ∃ s, rowB 0 (l.take i) = s := ⟨_, rfl⟩
    have hsz := rowB_size 0 (l.take i) (fun n hn => HL.out n (List.mem_of_mem_take hn))
    rw [hs] at hsz ⊢
    have HSZ := Aside0.mk (show s.size ≤ 30000 by have := H1000.out; have := List.length_take_le i l; omega)
    have HS := Aside0.mk hs
    clear hs hsz
    by_cases hlt : i < l.length
    · obtain ⟨n, hn⟩ : ∃ n, l[i] = n := ⟨_, rfl⟩
      obtain ⟨ad, eA, hcell⟩ := Kd.at_int (Kd.C_below HR.out HB.out) (i : Int) (by omega) (by omega)
      have hrd : rd l (i : Int) = n := by rw [rd_nat l i hlt, hn]
      rw [hrd, Int.toNat_natCast] at hcell
      subst eA
      have hnb := HL.out n (hn ▸ List.getElem_mem hlt)
      have HN0 := Aside0.mk hnb.1
      have HN1 := Aside0.mk hnb.2
      have HNX := Aside0.mk (show rowB 0 (l.take (i + 1)) = s ++ (({ data := #[32] } : ByteArray) ++ ⟨(Lib.itoa n).toArray⟩) by rw [List.take_succ_eq_append_getElem hlt, hn, rowB_snoc, HS.out]; rfl)
      obtain ⟨t, ht⟩ : ∃ t : ByteArray, ⟨(Lib.itoa n).toArray⟩ = t := ⟨_, rfl⟩
      have htl : t.size ≤ 21 := by rw [← ht]; show (Lib.itoa n).toArray.size ≤ 21; rw [List.size_toArray]; exact Lib.itoa_length_le n hnb.1 hnb.2
      rw [ht] at HNX
      have HTT := Aside0.mk ht
      have HTL := Aside0.mk htl
      have hi0 : (0 : Int) ≤ (i : Int) := by omega
      have hi1 : (i : Int) < (l.length : Int) := by omega
      have hi2 : (i : Int) ≤ 1000 := by have := H1000.out; omega
      have hib : decide ((i : Int) < (l.length : Int)) = true := decide_eq_true hi1
      have hs1 : s.size ≤ 30000 := HSZ.out
      clear hn hrd hnb ht
      go_wp2_with (first
        | (go_at_call 107; (with_reducible refine (itoa_b n HN0.out HN1.out w _ (HT.out.below HB0.out) HB.out).mono ?_); rintro e w2 ⟨rfl, hb⟩; rw [HTT.out]; replace HB := zW HB hb; clear hb))
      go_roundw
      case rel => exact ⟨i + 1, by go_num, by omega, by rw [HNX.out], HB⟩
      case measure => simp [intOf]; omega
    · have hie : i = l.length := by omega
      subst hie
      have HTK := Aside0.mk (show l.take l.length = l from List.take_length)
      go_wp2
      go_ret
      exact ⟨by rw [← HS.out, HTK.out]; first | done | rfl, HB.out⟩
set_option maxHeartbeats 8000000 in
set_option maxRecDepth 100000 in
theorem row_1 (A : Option Addr) (c : Nat) (l : List Int) (hl : ∀ n ∈ l, -9223372036854775808 ≤ n ∧ n ≤ 9223372036854775807) (h1000 : l.length ≤ 1000) (w0 w : World) (ht : Tab w0) (hB0 : Below w0.heap.size w0 w) (hr : Kd.C (Kd.int .i64) w A l.length l) (hc : l.length ≤ c) :
    Calls Tryz.prog 105 #[.int .i64 1, .slice A l.length c] w fun e w' => e = .returned (.string (rowB 1 l)) ∧ Below w.heap.size w w' := by
  have hix : ∀ w, (Instr.index 144 (.agg #[(.string { data := #[99, 97, 108, 101, 110, 100, 97, 114] }), (.string { data := #[109, 111, 111, 110] }), (.string { data := #[119, 101, 101, 107, 100, 97, 121] }), (.string { data := #[97, 103, 101] }), (.string { data := #[101, 97, 115, 116, 101, 114] }), (.string { data := #[103, 111, 108, 100, 101, 110] }), (.string { data := #[100, 97, 121, 115] })]) (.int .i64 1)).run Tryz.prog w = .ok (.string (wordB 1)) w := fun w => by kernel_rfl
  have HB := Aside0.mk (Below.refl w.heap.size w)
  have HR := Aside0.mk hr
  have HT := Aside0.mk ht
  have HB0 := Aside0.mk hB0
  have HL := Aside0.mk hl
  have H1000 := Aside0.mk h1000
  clear hr ht hB0 hl
  go_enter Tryz.func105, Tryz.ntmps105
  go_wp2_with (first
    | (go_at_call 113; (with_reducible refine (words_b _).mono ?_); rintro e w1 ⟨rfl, hb⟩; replace HB := zW HB hb; clear hb))
  go_loopw [5, 13] (fun v5 v13 Wr => ∃ (i : Nat), v13 = .int .i64 i ∧ i ≤ l.length ∧ v5 = .string (rowB 1 (l.take i)) ∧ Aside0 (Below w.heap.size w Wr)) (fun _ i _ => l.length - (intOf i).toNat)
  case atStart => exact ⟨0, rfl, by omega, by rfl, HB⟩
  case round =>
    clear HB
    obtain ⟨i, rfl, hi, rfl, HB⟩ := hrel
    obtain ⟨s, hs⟩ : ∃ s, rowB 1 (l.take i) = s := ⟨_, rfl⟩
    have hsz := rowB_size 1 (l.take i) (fun n hn => HL.out n (List.mem_of_mem_take hn))
    rw [hs] at hsz ⊢
    have HSZ := Aside0.mk (show s.size ≤ 30000 by have := H1000.out; have := List.length_take_le i l; omega)
    have HS := Aside0.mk hs
    clear hs hsz
    by_cases hlt : i < l.length
    · obtain ⟨n, hn⟩ : ∃ n, l[i] = n := ⟨_, rfl⟩
      obtain ⟨ad, eA, hcell⟩ := Kd.at_int (Kd.C_below HR.out HB.out) (i : Int) (by omega) (by omega)
      have hrd : rd l (i : Int) = n := by rw [rd_nat l i hlt, hn]
      rw [hrd, Int.toNat_natCast] at hcell
      subst eA
      have hnb := HL.out n (hn ▸ List.getElem_mem hlt)
      have HN0 := Aside0.mk hnb.1
      have HN1 := Aside0.mk hnb.2
      have HNX := Aside0.mk (show rowB 1 (l.take (i + 1)) = s ++ (({ data := #[32] } : ByteArray) ++ ⟨(Lib.itoa n).toArray⟩) by rw [List.take_succ_eq_append_getElem hlt, hn, rowB_snoc, HS.out]; rfl)
      obtain ⟨t, ht⟩ : ∃ t : ByteArray, ⟨(Lib.itoa n).toArray⟩ = t := ⟨_, rfl⟩
      have htl : t.size ≤ 21 := by rw [← ht]; show (Lib.itoa n).toArray.size ≤ 21; rw [List.size_toArray]; exact Lib.itoa_length_le n hnb.1 hnb.2
      rw [ht] at HNX
      have HTT := Aside0.mk ht
      have HTL := Aside0.mk htl
      have hi0 : (0 : Int) ≤ (i : Int) := by omega
      have hi1 : (i : Int) < (l.length : Int) := by omega
      have hi2 : (i : Int) ≤ 1000 := by have := H1000.out; omega
      have hib : decide ((i : Int) < (l.length : Int)) = true := decide_eq_true hi1
      have hs1 : s.size ≤ 30000 := HSZ.out
      clear hn hrd hnb ht
      go_wp2_with (first
        | (go_at_call 107; (with_reducible refine (itoa_b n HN0.out HN1.out w _ (HT.out.below HB0.out) HB.out).mono ?_); rintro e w2 ⟨rfl, hb⟩; rw [HTT.out]; replace HB := zW HB hb; clear hb))
      go_roundw
      case rel => exact ⟨i + 1, by go_num, by omega, by rw [HNX.out], HB⟩
      case measure => simp [intOf]; omega
    · have hie : i = l.length := by omega
      subst hie
      have HTK := Aside0.mk (show l.take l.length = l from List.take_length)
      go_wp2
      go_ret
      exact ⟨by rw [← HS.out, HTK.out]; first | done | rfl, HB.out⟩
set_option maxHeartbeats 8000000 in
set_option maxRecDepth 100000 in
theorem row_2 (A : Option Addr) (c : Nat) (l : List Int) (hl : ∀ n ∈ l, -9223372036854775808 ≤ n ∧ n ≤ 9223372036854775807) (h1000 : l.length ≤ 1000) (w0 w : World) (ht : Tab w0) (hB0 : Below w0.heap.size w0 w) (hr : Kd.C (Kd.int .i64) w A l.length l) (hc : l.length ≤ c) :
    Calls Tryz.prog 105 #[.int .i64 2, .slice A l.length c] w fun e w' => e = .returned (.string (rowB 2 l)) ∧ Below w.heap.size w w' := by
  have hix : ∀ w, (Instr.index 144 (.agg #[(.string { data := #[99, 97, 108, 101, 110, 100, 97, 114] }), (.string { data := #[109, 111, 111, 110] }), (.string { data := #[119, 101, 101, 107, 100, 97, 121] }), (.string { data := #[97, 103, 101] }), (.string { data := #[101, 97, 115, 116, 101, 114] }), (.string { data := #[103, 111, 108, 100, 101, 110] }), (.string { data := #[100, 97, 121, 115] })]) (.int .i64 2)).run Tryz.prog w = .ok (.string (wordB 2)) w := fun w => by kernel_rfl
  have HB := Aside0.mk (Below.refl w.heap.size w)
  have HR := Aside0.mk hr
  have HT := Aside0.mk ht
  have HB0 := Aside0.mk hB0
  have HL := Aside0.mk hl
  have H1000 := Aside0.mk h1000
  clear hr ht hB0 hl
  go_enter Tryz.func105, Tryz.ntmps105
  go_wp2_with (first
    | (go_at_call 113; (with_reducible refine (words_b _).mono ?_); rintro e w1 ⟨rfl, hb⟩; replace HB := zW HB hb; clear hb))
  go_loopw [5, 13] (fun v5 v13 Wr => ∃ (i : Nat), v13 = .int .i64 i ∧ i ≤ l.length ∧ v5 = .string (rowB 2 (l.take i)) ∧ Aside0 (Below w.heap.size w Wr)) (fun _ i _ => l.length - (intOf i).toNat)
  case atStart => exact ⟨0, rfl, by omega, by rfl, HB⟩
  case round =>
    clear HB
    obtain ⟨i, rfl, hi, rfl, HB⟩ := hrel
    obtain ⟨s, hs⟩ : ∃ s, rowB 2 (l.take i) = s := ⟨_, rfl⟩
    have hsz := rowB_size 2 (l.take i) (fun n hn => HL.out n (List.mem_of_mem_take hn))
    rw [hs] at hsz ⊢
    have HSZ := Aside0.mk (show s.size ≤ 30000 by have := H1000.out; have := List.length_take_le i l; omega)
    have HS := Aside0.mk hs
    clear hs hsz
    by_cases hlt : i < l.length
    · obtain ⟨n, hn⟩ : ∃ n, l[i] = n := ⟨_, rfl⟩
      obtain ⟨ad, eA, hcell⟩ := Kd.at_int (Kd.C_below HR.out HB.out) (i : Int) (by omega) (by omega)
      have hrd : rd l (i : Int) = n := by rw [rd_nat l i hlt, hn]
      rw [hrd, Int.toNat_natCast] at hcell
      subst eA
      have hnb := HL.out n (hn ▸ List.getElem_mem hlt)
      have HN0 := Aside0.mk hnb.1
      have HN1 := Aside0.mk hnb.2
      have HNX := Aside0.mk (show rowB 2 (l.take (i + 1)) = s ++ (({ data := #[32] } : ByteArray) ++ ⟨(Lib.itoa n).toArray⟩) by rw [List.take_succ_eq_append_getElem hlt, hn, rowB_snoc, HS.out]; rfl)
      obtain ⟨t, ht⟩ : ∃ t : ByteArray, ⟨(Lib.itoa n).toArray⟩ = t := ⟨_, rfl⟩
      have htl : t.size ≤ 21 := by rw [← ht]; show (Lib.itoa n).toArray.size ≤ 21; rw [List.size_toArray]; exact Lib.itoa_length_le n hnb.1 hnb.2
      rw [ht] at HNX
      have HTT := Aside0.mk ht
      have HTL := Aside0.mk htl
      have hi0 : (0 : Int) ≤ (i : Int) := by omega
      have hi1 : (i : Int) < (l.length : Int) := by omega
      have hi2 : (i : Int) ≤ 1000 := by have := H1000.out; omega
      have hib : decide ((i : Int) < (l.length : Int)) = true := decide_eq_true hi1
      have hs1 : s.size ≤ 30000 := HSZ.out
      clear hn hrd hnb ht
      go_wp2_with (first
        | (go_at_call 107; (with_reducible refine (itoa_b n HN0.out HN1.out w _ (HT.out.below HB0.out) HB.out).mono ?_); rintro e w2 ⟨rfl, hb⟩; rw [HTT.out]; replace HB := zW HB hb; clear hb))
      go_roundw
      case rel => exact ⟨i + 1, by go_num, by omega, by rw [HNX.out], HB⟩
      case measure => simp [intOf]; omega
    · have hie : i = l.length := by omega
      subst hie
      have HTK := Aside0.mk (show l.take l.length = l from List.take_length)
      go_wp2
      go_ret
      exact ⟨by rw [← HS.out, HTK.out]; first | done | rfl, HB.out⟩
set_option maxHeartbeats 8000000 in
set_option maxRecDepth 100000 in
theorem row_3 (A : Option Addr) (c : Nat) (l : List Int) (hl : ∀ n ∈ l, -9223372036854775808 ≤ n ∧ n ≤ 9223372036854775807) (h1000 : l.length ≤ 1000) (w0 w : World) (ht : Tab w0) (hB0 : Below w0.heap.size w0 w) (hr : Kd.C (Kd.int .i64) w A l.length l) (hc : l.length ≤ c) :
    Calls Tryz.prog 105 #[.int .i64 3, .slice A l.length c] w fun e w' => e = .returned (.string (rowB 3 l)) ∧ Below w.heap.size w w' := by
  have hix : ∀ w, (Instr.index 144 (.agg #[(.string { data := #[99, 97, 108, 101, 110, 100, 97, 114] }), (.string { data := #[109, 111, 111, 110] }), (.string { data := #[119, 101, 101, 107, 100, 97, 121] }), (.string { data := #[97, 103, 101] }), (.string { data := #[101, 97, 115, 116, 101, 114] }), (.string { data := #[103, 111, 108, 100, 101, 110] }), (.string { data := #[100, 97, 121, 115] })]) (.int .i64 3)).run Tryz.prog w = .ok (.string (wordB 3)) w := fun w => by kernel_rfl
  have HB := Aside0.mk (Below.refl w.heap.size w)
  have HR := Aside0.mk hr
  have HT := Aside0.mk ht
  have HB0 := Aside0.mk hB0
  have HL := Aside0.mk hl
  have H1000 := Aside0.mk h1000
  clear hr ht hB0 hl
  go_enter Tryz.func105, Tryz.ntmps105
  go_wp2_with (first
    | (go_at_call 113; (with_reducible refine (words_b _).mono ?_); rintro e w1 ⟨rfl, hb⟩; replace HB := zW HB hb; clear hb))
  go_loopw [5, 13] (fun v5 v13 Wr => ∃ (i : Nat), v13 = .int .i64 i ∧ i ≤ l.length ∧ v5 = .string (rowB 3 (l.take i)) ∧ Aside0 (Below w.heap.size w Wr)) (fun _ i _ => l.length - (intOf i).toNat)
  case atStart => exact ⟨0, rfl, by omega, by rfl, HB⟩
  case round =>
    clear HB
    obtain ⟨i, rfl, hi, rfl, HB⟩ := hrel
    obtain ⟨s, hs⟩ : ∃ s, rowB 3 (l.take i) = s := ⟨_, rfl⟩
    have hsz := rowB_size 3 (l.take i) (fun n hn => HL.out n (List.mem_of_mem_take hn))
    rw [hs] at hsz ⊢
    have HSZ := Aside0.mk (show s.size ≤ 30000 by have := H1000.out; have := List.length_take_le i l; omega)
    have HS := Aside0.mk hs
    clear hs hsz
    by_cases hlt : i < l.length
    · obtain ⟨n, hn⟩ : ∃ n, l[i] = n := ⟨_, rfl⟩
      obtain ⟨ad, eA, hcell⟩ := Kd.at_int (Kd.C_below HR.out HB.out) (i : Int) (by omega) (by omega)
      have hrd : rd l (i : Int) = n := by rw [rd_nat l i hlt, hn]
      rw [hrd, Int.toNat_natCast] at hcell
      subst eA
      have hnb := HL.out n (hn ▸ List.getElem_mem hlt)
      have HN0 := Aside0.mk hnb.1
      have HN1 := Aside0.mk hnb.2
      have HNX := Aside0.mk (show rowB 3 (l.take (i + 1)) = s ++ (({ data := #[32] } : ByteArray) ++ ⟨(Lib.itoa n).toArray⟩) by rw [List.take_succ_eq_append_getElem hlt, hn, rowB_snoc, HS.out]; rfl)
      obtain ⟨t, ht⟩ : ∃ t : ByteArray, ⟨(Lib.itoa n).toArray⟩ = t := ⟨_, rfl⟩
      have htl : t.size ≤ 21 := by rw [← ht]; show (Lib.itoa n).toArray.size ≤ 21; rw [List.size_toArray]; exact Lib.itoa_length_le n hnb.1 hnb.2
      rw [ht] at HNX
      have HTT := Aside0.mk ht
      have HTL := Aside0.mk htl
      have hi0 : (0 : Int) ≤ (i : Int) := by omega
      have hi1 : (i : Int) < (l.length : Int) := by omega
      have hi2 : (i : Int) ≤ 1000 := by have := H1000.out; omega
      have hib : decide ((i : Int) < (l.length : Int)) = true := decide_eq_true hi1
      have hs1 : s.size ≤ 30000 := HSZ.out
      clear hn hrd hnb ht
      go_wp2_with (first
        | (go_at_call 107; (with_reducible refine (itoa_b n HN0.out HN1.out w _ (HT.out.below HB0.out) HB.out).mono ?_); rintro e w2 ⟨rfl, hb⟩; rw [HTT.out]; replace HB := zW HB hb; clear hb))
      go_roundw
      case rel => exact ⟨i + 1, by go_num, by omega, by rw [HNX.out], HB⟩
      case measure => simp [intOf]; omega
    · have hie : i = l.length := by omega
      subst hie
      have HTK := Aside0.mk (show l.take l.length = l from List.take_length)
      go_wp2
      go_ret
      exact ⟨by rw [← HS.out, HTK.out]; first | done | rfl, HB.out⟩
set_option maxHeartbeats 8000000 in
set_option maxRecDepth 100000 in
theorem row_4 (A : Option Addr) (c : Nat) (l : List Int) (hl : ∀ n ∈ l, -9223372036854775808 ≤ n ∧ n ≤ 9223372036854775807) (h1000 : l.length ≤ 1000) (w0 w : World) (ht : Tab w0) (hB0 : Below w0.heap.size w0 w) (hr : Kd.C (Kd.int .i64) w A l.length l) (hc : l.length ≤ c) :
    Calls Tryz.prog 105 #[.int .i64 4, .slice A l.length c] w fun e w' => e = .returned (.string (rowB 4 l)) ∧ Below w.heap.size w w' := by
  have hix : ∀ w, (Instr.index 144 (.agg #[(.string { data := #[99, 97, 108, 101, 110, 100, 97, 114] }), (.string { data := #[109, 111, 111, 110] }), (.string { data := #[119, 101, 101, 107, 100, 97, 121] }), (.string { data := #[97, 103, 101] }), (.string { data := #[101, 97, 115, 116, 101, 114] }), (.string { data := #[103, 111, 108, 100, 101, 110] }), (.string { data := #[100, 97, 121, 115] })]) (.int .i64 4)).run Tryz.prog w = .ok (.string (wordB 4)) w := fun w => by kernel_rfl
  have HB := Aside0.mk (Below.refl w.heap.size w)
  have HR := Aside0.mk hr
  have HT := Aside0.mk ht
  have HB0 := Aside0.mk hB0
  have HL := Aside0.mk hl
  have H1000 := Aside0.mk h1000
  clear hr ht hB0 hl
  go_enter Tryz.func105, Tryz.ntmps105
  go_wp2_with (first
    | (go_at_call 113; (with_reducible refine (words_b _).mono ?_); rintro e w1 ⟨rfl, hb⟩; replace HB := zW HB hb; clear hb))
  go_loopw [5, 13] (fun v5 v13 Wr => ∃ (i : Nat), v13 = .int .i64 i ∧ i ≤ l.length ∧ v5 = .string (rowB 4 (l.take i)) ∧ Aside0 (Below w.heap.size w Wr)) (fun _ i _ => l.length - (intOf i).toNat)
  case atStart => exact ⟨0, rfl, by omega, by rfl, HB⟩
  case round =>
    clear HB
    obtain ⟨i, rfl, hi, rfl, HB⟩ := hrel
    obtain ⟨s, hs⟩ : ∃ s, rowB 4 (l.take i) = s := ⟨_, rfl⟩
    have hsz := rowB_size 4 (l.take i) (fun n hn => HL.out n (List.mem_of_mem_take hn))
    rw [hs] at hsz ⊢
    have HSZ := Aside0.mk (show s.size ≤ 30000 by have := H1000.out; have := List.length_take_le i l; omega)
    have HS := Aside0.mk hs
    clear hs hsz
    by_cases hlt : i < l.length
    · obtain ⟨n, hn⟩ : ∃ n, l[i] = n := ⟨_, rfl⟩
      obtain ⟨ad, eA, hcell⟩ := Kd.at_int (Kd.C_below HR.out HB.out) (i : Int) (by omega) (by omega)
      have hrd : rd l (i : Int) = n := by rw [rd_nat l i hlt, hn]
      rw [hrd, Int.toNat_natCast] at hcell
      subst eA
      have hnb := HL.out n (hn ▸ List.getElem_mem hlt)
      have HN0 := Aside0.mk hnb.1
      have HN1 := Aside0.mk hnb.2
      have HNX := Aside0.mk (show rowB 4 (l.take (i + 1)) = s ++ (({ data := #[32] } : ByteArray) ++ ⟨(Lib.itoa n).toArray⟩) by rw [List.take_succ_eq_append_getElem hlt, hn, rowB_snoc, HS.out]; rfl)
      obtain ⟨t, ht⟩ : ∃ t : ByteArray, ⟨(Lib.itoa n).toArray⟩ = t := ⟨_, rfl⟩
      have htl : t.size ≤ 21 := by rw [← ht]; show (Lib.itoa n).toArray.size ≤ 21; rw [List.size_toArray]; exact Lib.itoa_length_le n hnb.1 hnb.2
      rw [ht] at HNX
      have HTT := Aside0.mk ht
      have HTL := Aside0.mk htl
      have hi0 : (0 : Int) ≤ (i : Int) := by omega
      have hi1 : (i : Int) < (l.length : Int) := by omega
      have hi2 : (i : Int) ≤ 1000 := by have := H1000.out; omega
      have hib : decide ((i : Int) < (l.length : Int)) = true := decide_eq_true hi1
      have hs1 : s.size ≤ 30000 := HSZ.out
      clear hn hrd hnb ht
      go_wp2_with (first
        | (go_at_call 107; (with_reducible refine (itoa_b n HN0.out HN1.out w _ (HT.out.below HB0.out) HB.out).mono ?_); rintro e w2 ⟨rfl, hb⟩; rw [HTT.out]; replace HB := zW HB hb; clear hb))
      go_roundw
      case rel => exact ⟨i + 1, by go_num, by omega, by rw [HNX.out], HB⟩
      case measure => simp [intOf]; omega
    · have hie : i = l.length := by omega
      subst hie
      have HTK := Aside0.mk (show l.take l.length = l from List.take_length)
      go_wp2
      go_ret
      exact ⟨by rw [← HS.out, HTK.out]; first | done | rfl, HB.out⟩
set_option maxHeartbeats 8000000 in
set_option maxRecDepth 100000 in
theorem row_5 (A : Option Addr) (c : Nat) (l : List Int) (hl : ∀ n ∈ l, -9223372036854775808 ≤ n ∧ n ≤ 9223372036854775807) (h1000 : l.length ≤ 1000) (w0 w : World) (ht : Tab w0) (hB0 : Below w0.heap.size w0 w) (hr : Kd.C (Kd.int .i64) w A l.length l) (hc : l.length ≤ c) :
    Calls Tryz.prog 105 #[.int .i64 5, .slice A l.length c] w fun e w' => e = .returned (.string (rowB 5 l)) ∧ Below w.heap.size w w' := by
  have hix : ∀ w, (Instr.index 144 (.agg #[(.string { data := #[99, 97, 108, 101, 110, 100, 97, 114] }), (.string { data := #[109, 111, 111, 110] }), (.string { data := #[119, 101, 101, 107, 100, 97, 121] }), (.string { data := #[97, 103, 101] }), (.string { data := #[101, 97, 115, 116, 101, 114] }), (.string { data := #[103, 111, 108, 100, 101, 110] }), (.string { data := #[100, 97, 121, 115] })]) (.int .i64 5)).run Tryz.prog w = .ok (.string (wordB 5)) w := fun w => by kernel_rfl
  have HB := Aside0.mk (Below.refl w.heap.size w)
  have HR := Aside0.mk hr
  have HT := Aside0.mk ht
  have HB0 := Aside0.mk hB0
  have HL := Aside0.mk hl
  have H1000 := Aside0.mk h1000
  clear hr ht hB0 hl
  go_enter Tryz.func105, Tryz.ntmps105
  go_wp2_with (first
    | (go_at_call 113; (with_reducible refine (words_b _).mono ?_); rintro e w1 ⟨rfl, hb⟩; replace HB := zW HB hb; clear hb))
  go_loopw [5, 13] (fun v5 v13 Wr => ∃ (i : Nat), v13 = .int .i64 i ∧ i ≤ l.length ∧ v5 = .string (rowB 5 (l.take i)) ∧ Aside0 (Below w.heap.size w Wr)) (fun _ i _ => l.length - (intOf i).toNat)
  case atStart => exact ⟨0, rfl, by omega, by rfl, HB⟩
  case round =>
    clear HB
    obtain ⟨i, rfl, hi, rfl, HB⟩ := hrel
    obtain ⟨s, hs⟩ : ∃ s, rowB 5 (l.take i) = s := ⟨_, rfl⟩
    have hsz := rowB_size 5 (l.take i) (fun n hn => HL.out n (List.mem_of_mem_take hn))
    rw [hs] at hsz ⊢
    have HSZ := Aside0.mk (show s.size ≤ 30000 by have := H1000.out; have := List.length_take_le i l; omega)
    have HS := Aside0.mk hs
    clear hs hsz
    by_cases hlt : i < l.length
    · obtain ⟨n, hn⟩ : ∃ n, l[i] = n := ⟨_, rfl⟩
      obtain ⟨ad, eA, hcell⟩ := Kd.at_int (Kd.C_below HR.out HB.out) (i : Int) (by omega) (by omega)
      have hrd : rd l (i : Int) = n := by rw [rd_nat l i hlt, hn]
      rw [hrd, Int.toNat_natCast] at hcell
      subst eA
      have hnb := HL.out n (hn ▸ List.getElem_mem hlt)
      have HN0 := Aside0.mk hnb.1
      have HN1 := Aside0.mk hnb.2
      have HNX := Aside0.mk (show rowB 5 (l.take (i + 1)) = s ++ (({ data := #[32] } : ByteArray) ++ ⟨(Lib.itoa n).toArray⟩) by rw [List.take_succ_eq_append_getElem hlt, hn, rowB_snoc, HS.out]; rfl)
      obtain ⟨t, ht⟩ : ∃ t : ByteArray, ⟨(Lib.itoa n).toArray⟩ = t := ⟨_, rfl⟩
      have htl : t.size ≤ 21 := by rw [← ht]; show (Lib.itoa n).toArray.size ≤ 21; rw [List.size_toArray]; exact Lib.itoa_length_le n hnb.1 hnb.2
      rw [ht] at HNX
      have HTT := Aside0.mk ht
      have HTL := Aside0.mk htl
      have hi0 : (0 : Int) ≤ (i : Int) := by omega
      have hi1 : (i : Int) < (l.length : Int) := by omega
      have hi2 : (i : Int) ≤ 1000 := by have := H1000.out; omega
      have hib : decide ((i : Int) < (l.length : Int)) = true := decide_eq_true hi1
      have hs1 : s.size ≤ 30000 := HSZ.out
      clear hn hrd hnb ht
      go_wp2_with (first
        | (go_at_call 107; (with_reducible refine (itoa_b n HN0.out HN1.out w _ (HT.out.below HB0.out) HB.out).mono ?_); rintro e w2 ⟨rfl, hb⟩; rw [HTT.out]; replace HB := zW HB hb; clear hb))
      go_roundw
      case rel => exact ⟨i + 1, by go_num, by omega, by rw [HNX.out], HB⟩
      case measure => simp [intOf]; omega
    · have hie : i = l.length := by omega
      subst hie
      have HTK := Aside0.mk (show l.take l.length = l from List.take_length)
      go_wp2
      go_ret
      exact ⟨by rw [← HS.out, HTK.out]; first | done | rfl, HB.out⟩
set_option maxHeartbeats 8000000 in
set_option maxRecDepth 100000 in
theorem row_6 (A : Option Addr) (c : Nat) (l : List Int) (hl : ∀ n ∈ l, -9223372036854775808 ≤ n ∧ n ≤ 9223372036854775807) (h1000 : l.length ≤ 1000) (w0 w : World) (ht : Tab w0) (hB0 : Below w0.heap.size w0 w) (hr : Kd.C (Kd.int .i64) w A l.length l) (hc : l.length ≤ c) :
    Calls Tryz.prog 105 #[.int .i64 6, .slice A l.length c] w fun e w' => e = .returned (.string (rowB 6 l)) ∧ Below w.heap.size w w' := by
  have hix : ∀ w, (Instr.index 144 (.agg #[(.string { data := #[99, 97, 108, 101, 110, 100, 97, 114] }), (.string { data := #[109, 111, 111, 110] }), (.string { data := #[119, 101, 101, 107, 100, 97, 121] }), (.string { data := #[97, 103, 101] }), (.string { data := #[101, 97, 115, 116, 101, 114] }), (.string { data := #[103, 111, 108, 100, 101, 110] }), (.string { data := #[100, 97, 121, 115] })]) (.int .i64 6)).run Tryz.prog w = .ok (.string (wordB 6)) w := fun w => by kernel_rfl
  have HB := Aside0.mk (Below.refl w.heap.size w)
  have HR := Aside0.mk hr
  have HT := Aside0.mk ht
  have HB0 := Aside0.mk hB0
  have HL := Aside0.mk hl
  have H1000 := Aside0.mk h1000
  clear hr ht hB0 hl
  go_enter Tryz.func105, Tryz.ntmps105
  go_wp2_with (first
    | (go_at_call 113; (with_reducible refine (words_b _).mono ?_); rintro e w1 ⟨rfl, hb⟩; replace HB := zW HB hb; clear hb))
  go_loopw [5, 13] (fun v5 v13 Wr => ∃ (i : Nat), v13 = .int .i64 i ∧ i ≤ l.length ∧ v5 = .string (rowB 6 (l.take i)) ∧ Aside0 (Below w.heap.size w Wr)) (fun _ i _ => l.length - (intOf i).toNat)
  case atStart => exact ⟨0, rfl, by omega, by rfl, HB⟩
  case round =>
    clear HB
    obtain ⟨i, rfl, hi, rfl, HB⟩ := hrel
    obtain ⟨s, hs⟩ : ∃ s, rowB 6 (l.take i) = s := ⟨_, rfl⟩
    have hsz := rowB_size 6 (l.take i) (fun n hn => HL.out n (List.mem_of_mem_take hn))
    rw [hs] at hsz ⊢
    have HSZ := Aside0.mk (show s.size ≤ 30000 by have := H1000.out; have := List.length_take_le i l; omega)
    have HS := Aside0.mk hs
    clear hs hsz
    by_cases hlt : i < l.length
    · obtain ⟨n, hn⟩ : ∃ n, l[i] = n := ⟨_, rfl⟩
      obtain ⟨ad, eA, hcell⟩ := Kd.at_int (Kd.C_below HR.out HB.out) (i : Int) (by omega) (by omega)
      have hrd : rd l (i : Int) = n := by rw [rd_nat l i hlt, hn]
      rw [hrd, Int.toNat_natCast] at hcell
      subst eA
      have hnb := HL.out n (hn ▸ List.getElem_mem hlt)
      have HN0 := Aside0.mk hnb.1
      have HN1 := Aside0.mk hnb.2
      have HNX := Aside0.mk (show rowB 6 (l.take (i + 1)) = s ++ (({ data := #[32] } : ByteArray) ++ ⟨(Lib.itoa n).toArray⟩) by rw [List.take_succ_eq_append_getElem hlt, hn, rowB_snoc, HS.out]; rfl)
      obtain ⟨t, ht⟩ : ∃ t : ByteArray, ⟨(Lib.itoa n).toArray⟩ = t := ⟨_, rfl⟩
      have htl : t.size ≤ 21 := by rw [← ht]; show (Lib.itoa n).toArray.size ≤ 21; rw [List.size_toArray]; exact Lib.itoa_length_le n hnb.1 hnb.2
      rw [ht] at HNX
      have HTT := Aside0.mk ht
      have HTL := Aside0.mk htl
      have hi0 : (0 : Int) ≤ (i : Int) := by omega
      have hi1 : (i : Int) < (l.length : Int) := by omega
      have hi2 : (i : Int) ≤ 1000 := by have := H1000.out; omega
      have hib : decide ((i : Int) < (l.length : Int)) = true := decide_eq_true hi1
      have hs1 : s.size ≤ 30000 := HSZ.out
      clear hn hrd hnb ht
      go_wp2_with (first
        | (go_at_call 107; (with_reducible refine (itoa_b n HN0.out HN1.out w _ (HT.out.below HB0.out) HB.out).mono ?_); rintro e w2 ⟨rfl, hb⟩; rw [HTT.out]; replace HB := zW HB hb; clear hb))
      go_roundw
      case rel => exact ⟨i + 1, by go_num, by omega, by rw [HNX.out], HB⟩
      case measure => simp [intOf]; omega
    · have hie : i = l.length := by omega
      subst hie
      have HTK := Aside0.mk (show l.take l.length = l from List.take_length)
      go_wp2
      go_ret
      exact ⟨by rw [← HS.out, HTK.out]; first | done | rfl, HB.out⟩
theorem row_b (k : Int) (hk : 0 ≤ k ∧ k ≤ 6) (A : Option Addr) (c : Nat) (l : List Int) (hl : ∀ n ∈ l, -9223372036854775808 ≤ n ∧ n ≤ 9223372036854775807) (h1000 : l.length ≤ 1000) (w0 w : World) (ht : Tab w0) (hB0 : Below w0.heap.size w0 w) (hr : Kd.C (Kd.int .i64) w A l.length l) (hc : l.length ≤ c) :
    Calls Tryz.prog 105 #[.int .i64 k, .slice A l.length c] w fun e w' => e = .returned (.string (rowB k l)) ∧ Below w.heap.size w w' := by
  have : k = 0 ∨ k = 1 ∨ k = 2 ∨ k = 3 ∨ k = 4 ∨ k = 5 ∨ k = 6 := by omega
  rcases this with rfl | rfl | rfl | rfl | rfl | rfl | rfl
  · exact row_0 A c l hl h1000 w0 w ht hB0 hr hc
  · exact row_1 A c l hl h1000 w0 w ht hB0 hr hc
  · exact row_2 A c l hl h1000 w0 w ht hB0 hr hc
  · exact row_3 A c l hl h1000 w0 w ht hB0 hr hc
  · exact row_4 A c l hl h1000 w0 w ht hB0 hr hc
  · exact row_5 A c l hl h1000 w0 w ht hB0 hr hc
  · exact row_6 A c l hl h1000 w0 w ht hB0 hr hc
end Go.Proofs.YtnllidgonghckaaGreatDoor.X
namespace Go.Proofs.YtnllidgonghckaaGreatDoor.X
open Go.RowKit Go.Proofs.YtnllidgonghckaaGreatDoorW.PrintWords Go.Proofs.YtnllidgonghckaaGreatDoorW.PrintLast Go.Proofs.YtnllidgonghckaaGreatDoorW.PrintMore Go.Proofs.YtnllidgonghckaaGreatDoor.Dm
set_option linter.unusedVariables false
set_option linter.unusedSimpArgs false
attribute [local go_sem] max2_int min2_int max_two min_two max_three min_three max_four min_four
def numsOk (ep : Int) (cs : List Int) (m0 m1 m2 : Int) (l : List S74) : Prop :=
  (-1000000000 ≤ ep ∧ ep ≤ 1000000000) ∧ (∀ n ∈ cs, -1000000000 ≤ n ∧ n ≤ 1000000000) ∧ cs.length ≤ 900 ∧ (-1000000000 ≤ m0 ∧ m0 ≤ 1000000000) ∧ (-1000000000 ≤ m1 ∧ m1 ≤ 1000000000) ∧ (-1000000000 ≤ m2 ∧ m2 ≤ 1000000000) ∧ l.length ≤ 900 ∧
    ∀ x ∈ l, (1 ≤ x.f0 ∧ x.f0 ≤ 5) ∧ (-1000000000 ≤ x.f1 ∧ x.f1 ≤ 1000000000) ∧ (-1000000000 ≤ x.f2 ∧ x.f2 ≤ 1000000000) ∧ (-1000000000 ≤ x.f3 ∧ x.f3 ≤ 1000000000)
def lineN (x : S74) : List Int := if x.f0 = 3 then [x.f1, x.f2] else if x.f0 = 4 ∨ x.f0 = 5 then [x.f3] else [x.f1, x.f2, x.f3]
def lineB (x : S74) : ByteArray := rowB (x.f0 + 1) (lineN x)
def headB (ep : Int) (cs : List Int) (m0 m1 m2 : Int) : List ByteArray := [rowB 0 ([ep] ++ cs), rowB 1 [m0, m1, m2]]
def rowsB (ep : Int) (cs : List Int) (m0 m1 m2 : Int) (l : List S74) : List ByteArray := headB ep cs m0 m1 m2 ++ l.map lineB
section
variable {α : Type} {d : Kd α} {e base : Nat} {ok : Nat → Prop} {v u : Value} {xs : List α} {W w1 : World}
theorem R_sep (h : d.R e W base ok v xs) (hn : ∃ b, u.ownBlock = some b ∧ W.heap.size ≤ b) : d.R e W base (fun k => ok k ∧ some k ≠ u.ownBlock) v xs := by
  obtain ⟨b, hb, hle⟩ := hn
  exact Kd.R_mono (Kd.R_bound h) (fun k hk => ⟨hk.1, fun q => by rw [hb] at q; have := Option.some.inj q; have := hk.2.2.1; omega⟩)
theorem R_gn (h : d.R e W base ok v xs) (hg : W.grownBy w1 none) : d.R e w1 base ok v xs := Kd.R_grown h hg (fun k _ q => by cases q)
theorem blk_gn {k : Nat} {o : Obj} (h : W.heap[k]? = some o) (hg : W.grownBy w1 none) : w1.heap[k]? = some o := (hg.block k (blk_lt h) (fun q => by cases q)).trans h
end
theorem infoS : (Tryz.prog.info? 9).map (fun i => (i.zero, i.size, i.bytes)) = some (some (.string ⟨#[]⟩), 1, 16) := by kernel_rfl
section
variable {P : Program} {ops : Array Oper} {rest : List Oper} {o : Oper} {a : Act} {Q : Exit → Act → World → Prop}
theorem lit_event {W : World} (hgd : o.guard = none) {N : Tmp} (_hd : o.dst = some N) {cs : Array Value} {t : TypeId} {n : Nat}
    (hrun : (execOp a.eval o).run P W = .ok (.value (.slice (some ⟨W.heap.size, 0, none⟩) n n)) (W.alloc (.cells cs t (0, 0))))
    (h : ∀ g, g = W.heap.size → ∀ w1, w1.heap[g]? = some (.cells cs t (0, 0)) → Below W.heap.size W w1 → wpList P ops Q rest (a.put o.dst (.slice (some ⟨g, 0, none⟩) n n)) w1) : wpList P ops Q (o :: rest) a W :=
  Kd.event_run hgd hrun (h _ rfl _ (blk_new W _) (below_alloc (Below.refl _ _) _))
end
theorem cells_of_R {W : World} {g cap base e : Nat} {ok : Nat → Prop} {xs : List ByteArray} (h : Kd.string.R e W base ok (.slice (some ⟨g, 0, none⟩) xs.length cap) xs) : ∀ (j : Nat) x, xs[j]? = some x → W.cell? ⟨g, 0 + j, none⟩ = some (.string x) := by
  intro j x hx
  obtain ⟨hj, hx⟩ := List.getElem?_eq_some_iff.1 hx
  obtain ⟨ad, eA, hc⟩ := Kd.at_string (Kd.R_reads' h).2.2 (j : Int) (by omega) (by omega)
  cases eA
  rw [Int.toNat_natCast, add_at] at hc
  rw [hc]
  unfold rdOf
  rw [Int.toNat_natCast, List.getD_eq_getElem?_getD, List.getElem?_eq_getElem hj, Option.getD_some, hx]
theorem join_n (bk c n : Nat) (xs : List ByteArray) (sep : ByteArray) (w : World) (hn : xs.length = n) (hcells : ∀ (j : Nat) x, xs[j]? = some x → w.cell? ⟨bk, 0 + j, none⟩ = some (.string x)) (hbk : bk < w.heap.size) (hN : xs.length ≤ 140737488355328) (hcap : xs.length ≤ c) (hlen : (Lib.join (xs.map (·.data.toList)) sep.data.toList).length ≤ 140737488355328) :
    Calls Tryz.prog 108 #[.slice (some ⟨bk, 0, none⟩) n c, .string sep] w fun e w' => e = .returned (.string ⟨(Lib.join (xs.map (·.data.toList)) sep.data.toList).toArray⟩) ∧ Below w.heap.size w w' := by
  subst hn
  exact Tryz.strings_Join bk 0 c xs sep w hcells hbk hN hcap hlen
theorem joinTail_len (sep : List UInt8) (r : List (List UInt8)) (B : Nat) (h : ∀ x ∈ r, x.length ≤ B) : (Lib.joinTail sep r).length ≤ r.length * (sep.length + B) := by
  unfold Lib.joinTail
  induction r with
  | nil => simp
  | cons x r ih =>
    have h1 := ih (fun y hy => h y (List.mem_cons_of_mem _ hy))
    have h2 := h x List.mem_cons_self
    simp only [List.map_cons, List.flatten_cons, List.length_append, List.length_cons]
    rw [Nat.add_mul]
    omega
theorem join_len (sep : List UInt8) (r : List (List UInt8)) (B : Nat) (h : ∀ x ∈ r, x.length ≤ B) : (Lib.join r sep).length ≤ r.length * (sep.length + B) := by
  cases r with
  | nil => simp [Lib.join_nil]
  | cons x r =>
    rw [Lib.join_cons, List.length_append]
    have h1 := joinTail_len sep r B (fun y hy => h y (List.mem_cons_of_mem _ hy))
    have h2 := h x List.mem_cons_self
    simp only [List.length_cons]
    rw [Nat.add_mul]
    omega
theorem join_bd (RS : List ByteArray) (E : ByteArray) (h : ∀ r ∈ RS, r.size ≤ 20000) (hl : RS.length ≤ 902) (hE : E.size ≤ 20000) : (Lib.join ((RS ++ [E]).map (·.data.toList)) ({ data := #[10] } : ByteArray).data.toList).length ≤ 140737488355328 := by
  have h1 := join_len ({ data := #[10] } : ByteArray).data.toList ((RS ++ [E]).map (·.data.toList)) 20000 (by
    intro x hx
    obtain ⟨y, hy, rfl⟩ := List.mem_map.1 hx
    rw [data_length]
    rcases List.mem_append.1 hy with hy | hy
    · exact h y hy
    · rw [List.mem_singleton.1 hy]; exact hE)
  have h2 : ((RS ++ [E]).map (·.data.toList)).length ≤ 903 := by simp; omega
  have h3 : ({ data := #[10] } : ByteArray).data.toList.length = 1 := rfl
  rw [h3] at h1
  have := Nat.mul_le_mul_right (1 + 20000) h2
  omega
theorem join_sz (RS : List ByteArray) (E : ByteArray) (h : ∀ r ∈ RS, r.size ≤ 20000) (hl : RS.length ≤ 902) (hE : E.size ≤ 20000) : (⟨(Lib.join ((RS ++ [E]).map (·.data.toList)) [10]).toArray⟩ : ByteArray).size ≤ 140737488355328 := by
  have := join_bd RS E h hl hE
  show (Lib.join _ _).toArray.size ≤ _
  rw [List.size_toArray]
  exact this
theorem sl_to (g : Nat) : ∀ W : World, (Instr.slice 22 (.slice (some ⟨g, 0, none⟩) 3 3) none (some (.int .i64 2)) none).run Tryz.prog W = .ok (.slice (some ⟨g, 0, none⟩) 2 3) W := by
  obtain ⟨i0, hi, hzz⟩ := Option.map_eq_some_iff.1 info3
  exact cut_to 22 3 .i64 Tryz.underlying22 hi (some ⟨g, 0, none⟩) 3 3 2 (by omega) (by omega) (by omega)
theorem sl_from (g : Nat) : ∀ W : World, (Instr.slice 22 (.slice (some ⟨g, 0, none⟩) 3 3) (some (.int .i64 2)) none none).run Tryz.prog W = .ok (.slice (some ⟨g, 2, none⟩) 1 1) W := by
  obtain ⟨i0, hi, hzz⟩ := Option.map_eq_some_iff.1 info3
  simp only [Prod.mk.injEq] at hzz
  exact cut_from 22 3 .i64 Tryz.underlying22 hi 1 hzz.2.1 (some ⟨g, 0, none⟩) 3 3 2 (by omega) (by omega)
theorem C_of_blk {W : World} {g t off : Nat} {cells : Array Value} {xs : List Int} (h : W.heap[g]? = some (.cells cells t (0, 0))) (hx : ∀ (i : Nat) (p : Int), xs[i]? = some p → cells[off + i]? = some (.int .i64 p)) (hl : xs.length ≤ 1000) : Kd.C (Kd.int .i64) W (some ⟨g, off, none⟩) xs.length xs := by
  refine ⟨rfl, by omega, fun _ => ⟨_, rfl, fun i p hp => ⟨[.int .i64 p], rfl, rfl, fun j u hu => ?_⟩⟩⟩
  cases j with
  | succ j => simp at hu
  | zero =>
    simp at hu
    subst hu
    have hc := hx i p hp
    rw [show i * (Kd.int .i64).sz + 0 = i by show i * 1 + 0 = i; omega, add_at]
    have hlt : off + i < cells.size := (Array.getElem?_eq_some_iff.1 hc).1
    have := blk_cell h (off + i)
    rw [this, hc]
theorem row_n (k : Int) (hk : 0 ≤ k ∧ k ≤ 6) (A : Option Addr) (c n : Nat) (l : List Int) (hln : l.length = n) (hl : ∀ n ∈ l, -9223372036854775808 ≤ n ∧ n ≤ 9223372036854775807) (h1000 : l.length ≤ 1000) (w0 w : World) (ht : Tab w0) (hB0 : Below w0.heap.size w0 w) (hr : Kd.C (Kd.int .i64) w A l.length l) (hc : l.length ≤ c) :
    Calls Tryz.prog 105 #[.int .i64 k, .slice A n c] w fun e w' => e = .returned (.string (rowB k l)) ∧ Below w.heap.size w w' := by
  subst hln
  exact row_b k hk A c l hl h1000 w0 w ht hB0 hr hc
theorem kindLine_b (k : Int) (h : 1 ≤ k ∧ k ≤ 5) (w : World) : Calls Tryz.prog 106 #[.int .i64 k] w fun e w' => e = .returned (.int .i64 (k + 1)) ∧ Below w.heap.size w w' :=
  (dial_kindLine.calls k (k + 1) w (by unfold dial_kindLine.f; rw [wrap_of (k - 1) (by omega) (by omega), wrap_of (2 + (k - 1)) (by omega) (by omega)]; congr 1; omega)).mono fun _ _ h => ⟨h.1, h.2.below⟩
def chkRow (r : ByteArray) (i : Int) : Nat → Int → Int
  | 0, c => c
  | k + 1, c => chkRow r i k c + bt r (k : Int) * ((k : Int) + 1) * (i + 1)
def chkRows (rs : List ByteArray) : Nat → Int
  | 0 => 0
  | i + 1 => chkRow (rs.getD i ⟨#[]⟩) (i : Int) (rs.getD i ⟨#[]⟩).size (chkRows rs i)
def checkOf (rs : List ByteArray) : Int := chkRows rs rs.length % 103
def endB (c : Int) : ByteArray := (({ data := #[101, 110, 100, 32] } : ByteArray) ++ ⟨(Lib.itoa (c / 100)).toArray⟩) ++ ⟨(Lib.itoa (c / 10 % 10)).toArray⟩ ++ ⟨(Lib.itoa (c % 10)).toArray⟩
def joinB (rs : List ByteArray) : ByteArray := ⟨(Lib.join (rs.map (·.data.toList)) [10]).toArray⟩ ++ ({ data := #[10] } : ByteArray)
def textB (ep : Int) (cs : List Int) (m0 m1 m2 : Int) (l : List S74) : ByteArray := joinB (rowsB ep cs m0 m1 m2 l ++ [endB (checkOf (rowsB ep cs m0 m1 m2 l))])
theorem chkStep_bd (b k i : Int) (h0 : 0 ≤ b) (h1 : b ≤ 255) (h2 : 0 ≤ k) (h3 : k ≤ 30000) (h4 : 0 ≤ i) (h5 : i ≤ 1000) : (0 ≤ b * (k + 1) ∧ b * (k + 1) ≤ 7650255) ∧ 0 ≤ b * (k + 1) * (i + 1) ∧ b * (k + 1) * (i + 1) ≤ 7657905255 := by
  have a0 : 0 ≤ b * (k + 1) := Int.mul_nonneg h0 (by omega)
  have a1 : b * (k + 1) ≤ 255 * 30001 := Int.mul_le_mul h1 (by omega) (by omega) (by omega)
  have b0 : 0 ≤ b * (k + 1) * (i + 1) := Int.mul_nonneg a0 (by omega)
  have b1 : b * (k + 1) * (i + 1) ≤ 7650255 * 1001 := Int.mul_le_mul (by omega) (by omega) (by omega) (by omega)
  omega
theorem chkRow_bd (r : ByteArray) (i : Int) (h0 : 0 ≤ i) (h1 : i ≤ 1000) (c : Int) : ∀ k : Nat, k ≤ 30000 → c ≤ chkRow r i k c ∧ chkRow r i k c ≤ c + k * 7657905255
  | 0, _ => by simp [chkRow]
  | k + 1, hk => by
    have ih := chkRow_bd r i h0 h1 c k (by omega)
    have b := bt_range r (k : Int)
    have s := chkStep_bd (bt r (k : Int)) (k : Int) i b.1 b.2 (by omega) (by omega) h0 h1
    simp only [chkRow]
    omega
theorem chkRows_bd (rs : List ByteArray) (hs : ∀ r ∈ rs, r.size ≤ 30000) : ∀ i : Nat, i ≤ 1000 → 0 ≤ chkRows rs i ∧ chkRows rs i ≤ i * 229737157650000
  | 0, _ => by simp [chkRows]
  | i + 1, hi => by
    have ih := chkRows_bd rs hs i (by omega)
    have hsz : (rs.getD i ⟨#[]⟩).size ≤ 30000 := by
      rw [List.getD_eq_getElem?_getD]
      rcases Nat.lt_or_ge i rs.length with h | h
      · rw [List.getElem?_eq_getElem h, Option.getD_some]
        exact hs _ (List.getElem_mem h)
      · rw [List.getElem?_eq_none h]
        decide
    have b := chkRow_bd (rs.getD i ⟨#[]⟩) (i : Int) (by omega) (by omega) (chkRows rs i) (rs.getD i ⟨#[]⟩).size hsz
    have : ((rs.getD i ⟨#[]⟩).size : Int) * 7657905255 ≤ 229737157650000 := by omega
    simp only [chkRows]
    omega
theorem lineN_ok {x : S74} (h : (-1000000000 ≤ x.f1 ∧ x.f1 ≤ 1000000000) ∧ (-1000000000 ≤ x.f2 ∧ x.f2 ≤ 1000000000) ∧ (-1000000000 ≤ x.f3 ∧ x.f3 ≤ 1000000000)) : ∀ n ∈ lineN x, -9223372036854775808 ≤ n ∧ n ≤ 9223372036854775807 := by
  intro n hn
  unfold lineN at hn
  split at hn
  · simp only [List.mem_cons, List.not_mem_nil, or_false] at hn; rcases hn with rfl | rfl <;> omega
  · split at hn
    · simp only [List.mem_cons, List.not_mem_nil, or_false] at hn; subst hn; omega
    · simp only [List.mem_cons, List.not_mem_nil, or_false] at hn; rcases hn with rfl | rfl | rfl <;> omega
theorem lineN_len (x : S74) : (lineN x).length ≤ 3 := by unfold lineN; split <;> (try split) <;> simp
theorem rowsB_size {ep : Int} {cs : List Int} {m0 m1 m2 : Int} {l : List S74} (h : numsOk ep cs m0 m1 m2 l) : ∀ r ∈ rowsB ep cs m0 m1 m2 l, r.size ≤ 20000 := by
  obtain ⟨h1, h2, h3, h4, h5, h6, h7, h8⟩ := h
  intro r hr
  unfold rowsB headB at hr
  rw [List.mem_append] at hr
  rcases hr with hr | hr
  · simp only [List.mem_cons, List.not_mem_nil, or_false] at hr
    rcases hr with rfl | rfl
    · have := rowB_size 0 ([ep] ++ cs) (by
        intro n hn
        rcases List.mem_cons.1 (show n ∈ ep :: cs from hn) with rfl | hn
        · omega
        · have := h2 n hn; omega)
      have hl : ([ep] ++ cs).length ≤ 901 := by simp only [List.length_append, List.length_cons, List.length_nil]; omega
      omega
    · have := rowB_size 1 [m0, m1, m2] (by
        intro n hn
        simp only [List.mem_cons, List.not_mem_nil, or_false] at hn
        rcases hn with rfl | rfl | rfl <;> omega)
      have hl : [m0, m1, m2].length = 3 := rfl
      omega
  · obtain ⟨x, hx, rfl⟩ := List.mem_map.1 hr
    have hx8 := h8 x hx
    have := rowB_size (x.f0 + 1) (lineN x) (lineN_ok hx8.2)
    have := lineN_len x
    unfold lineB
    omega
theorem rowsB_len (ep : Int) (cs : List Int) (m0 m1 m2 : Int) (l : List S74) : (rowsB ep cs m0 m1 m2 l).length = l.length + 2 := by unfold rowsB headB; simp
def Text1.T : Bool × List (List Nat × List Nat) := (true, [([], []), ([0], [0]), ([1], [1]), ([], []), ([3], [3]), ([2, 4], [2, 4]), ([5, 5], [5]), ([], []), ([7], [7]), ([], []), ([9], [9]), ([], []), ([11], [11]), ([8, 10, 12], [8, 10, 12]), ([13, 6], [13]), ([6, 14], [6, 14]), ([15, 14, 0, 1, 2, 3, 4, 5, 6, 7, 8, 9, 10, 11, 12, 13, 14, 15], [15])])
def Text1.B : List Nat := [0, 1, 3, 0, 8, 31, 63, 0, 128, 0, 512, 0, 2048, 8064, 16383, 32767, 65535]
theorem Text1.tab : rtab .any (opsOf Tryz.f83 1) = Text1.T := by kernel_rfl
theorem Text1.bits : waitsOk Text1.T.2 Text1.B = true := by kernel_rfl
set_option maxHeartbeats 8000000 in
set_option maxRecDepth 100000 in
theorem text_b (ep : Int) (A : Option Addr) (c : Nat) (cs : List Int) (m0 m1 m2 : Int) (Af : Option Addr) (cf : Nat) (l : List S74) (w : World) (ht : Tab w) (hr : Kd.C (Kd.int .i64) w A cs.length cs) (hc : cs.length ≤ c) (hrf : Kd.C k74 w Af l.length l) (hcf : l.length ≤ cf) (hn : numsOk ep cs m0 m1 m2 l) :
    Calls Tryz.prog 83 #[.agg #[.int .i64 ep, .slice A cs.length c], .agg #[.int .i64 m0, .int .i64 m1, .int .i64 m2], .slice Af l.length cf] w fun e w' => e = .returned (.string (textB ep cs m0 m1 m2 l)) ∧ Below w.heap.size w w' := by
  have hu24 := Tryz.underlying24
  have hu45 := Tryz.underlying45
  have hu74 := Tryz.underlying74
  have hu72 := Tryz.underlying72
  have HB := Aside0.mk (Below.refl w.heap.size w)
  have HT := Aside0.mk ht
  have HR := Aside0.mk hr
  have HC := Aside0.mk hc
  have HRF := Aside0.mk hrf
  have HCF := Aside0.mk hcf
  have HNO := Aside0.mk hn
  have HL900 := Aside0.mk hn.2.2.2.2.2.2.1
  have HEC := Aside0.mk (show ∀ n ∈ [ep] ++ cs, -9223372036854775808 ≤ n ∧ n ≤ 9223372036854775807 by
    intro n hn'
    have h1 := hn.1
    rcases List.mem_cons.1 (show n ∈ ep :: cs from hn') with rfl | h
    · omega
    · have := hn.2.1 n h; omega)
  have HM3 := Aside0.mk (show ∀ n ∈ [m0, m1, m2], -9223372036854775808 ≤ n ∧ n ≤ 9223372036854775807 by
    intro n hn'
    have h1 := hn.2.2.2.1
    have h2 := hn.2.2.2.2.1
    have h3 := hn.2.2.2.2.2.1
    simp only [List.mem_cons, List.not_mem_nil, or_false] at hn'
    rcases hn' with rfl | rfl | rfl <;> omega)
  have HEL := Aside0.mk (show ([ep] ++ cs).length ≤ 1000 by simp only [List.length_append, List.length_cons, List.length_nil]; have := hn.2.2.1; omega)
  obtain ⟨R0, hR0⟩ : ∃ R0, rowB 0 ([ep] ++ cs) = R0 := ⟨_, rfl⟩
  obtain ⟨R1, hR1⟩ : ∃ R1, rowB 1 [m0, m1, m2] = R1 := ⟨_, rfl⟩
  have HR0 := Aside0.mk hR0
  have HR1 := Aside0.mk hR1
  clear ht hr hc hrf hcf hn hR0 hR1
  go_enter Tryz.func83, Tryz.ntmps83
  go_wp2_with (first
    | ((with_reducible refine zG 3 rfl ?_); refine zBox 3 #[.int .i64 ep, .slice A cs.length c] 24 ?_; intro g1 hg w1 hbox hb; have GEg1 := zge hg HB; replace HB := zW HB hb; have BKg1 := Aside0.mk hbox; clear hb hbox hg; have z1_g10 := zC BKg1)
    | ((with_reducible refine zG 4 rfl ?_); refine zBox 4 #[.int .i64 m0, .int .i64 m1, .int .i64 m2] 45 ?_; intro g2 hg w2 hbox hb; have GEg2 := zge hg HB; have NEg1_g2 := zne hg BKg1; replace HB := zW HB hb; replace BKg1 := zb BKg1 hb; have BKg2 := Aside0.mk hbox; clear hb hbox hg; (try clear z1_g10); have z2_g10 := zC BKg1; have z2_g20 := zC BKg2))
  replace HB := zWD HB
  replace BKg1 := zbD BKg1
  replace BKg2 := zbD BKg2
  refine zStart 17 (fun w' => zCells w' g1 0 [.int .i64 ep, .slice A cs.length c] ∧ zCells w' g2 0 [.int .i64 m0, .int .i64 m1, .int .i64 m2]) #[false, false, false, false, false, false, false, false, false, false, false, false, false, false, false, false, false] Text1.tab Text1.bits ⟨zS BKg1, zS BKg2⟩ (fun hHeld HT_ HW_ => ?_)
  generalize w2.drew = wd at HB BKg1 BKg2 hHeld ⊢
  refine zP 0 (some 15) HT_ ?_
  refine zP 3 (some 18) HT_ ?_
  refine zP 7 (some 22) HT_ ?_
  refine zP 9 (some 24) HT_ ?_
  refine zP 11 (some 26) HT_ ?_
  refine zT 1 (some 16) HT_ HW_ hHeld ?_
  refine zT 4 (some 19) HT_ HW_ hHeld ?_
  refine zT 8 (some 23) HT_ HW_ hHeld ?_
  refine zT 10 (some 25) HT_ HW_ hHeld ?_
  refine zT 12 (some 27) HT_ HW_ hHeld ?_
  refine join_ (σ := Value × Value × Value) 3 #[true, true, true, true, true, true, true, true, true, true, true, true, true, true, false, false, false] (fun s => [(17, s.1), (20, s.2.1), (21, .string R0), (28, s.2.2)]) (fun s w' => Below w.heap.size w w' ∧ w'.heap[g1]? = some (.cells #[.int .i64 ep, .slice A cs.length c] 24 (0, 0)) ∧ w'.heap[g2]? = some (.cells #[.int .i64 m0, .int .i64 m1, .int .i64 m2] 45 (0, 0)) ∧ Kd.R (Kd.int .i64) 3 w' w.heap.size (fun _ => True) s.2.2 [m0, m1, m2]) ?_ ?_
  rotate_left
  · intro hCont
    refine two_ (i := 2) (j := 13) (Ni := some 17) (Nj := some 28) #[true, true, true, true, true, false, false, true, true, true, true, true, true, false, false, false, false] #[true, true, false, true, true, false, false, true, true, true, true, true, true, true, false, false, false] rfl rfl rfl rfl (two_of HT_.out (by kernel_rfl)) (by decide) (by decide) (fun K hK => ?_) (fun K hK => ?_)
    · refine Kd.R_lit_step (Kd.int .i64) (w0 := w) w.heap.size 3 (by rfl) rfl (xs := [ep]) (inner := [.int .i64 ep]) (ok := fun _ => True) (okp := fun _ => False) ?hrun (Kd.reps_scalar [ep]) (fun _ hk => hk.elim) (trivial) HB.out HB.out.size (by simp) ?_
      case hrun => first | (go_simp; done) | (go_simp; rfl)
      intro v2 wl2 hr_ hb_ hg_ hat_
      have n1_ := Aside0.mk (blk_gn BKg1.out hg_)
      have n2_ := Aside0.mk (blk_gn BKg2.out hg_)
      clear BKg1 BKg2 HB hHeld
      have BKg1 := n1_
      have BKg2 := n2_
      have HB := Aside0.mk hb_
      have HO2 := Aside0.mk hr_
      clear n1_ n2_ hb_ hr_ hg_ hat_
      refine hK.out _ _ ⟨zS BKg1, zS BKg2⟩ (fun hHeld => ?_)
      clear hK K
      refine zN ?_
      refine two_ (i := 5) (j := 13) (Ni := some 20) (Nj := some 28) #[true, true, true, true, true, true, false, true, true, true, true, true, true, false, false, false, false] #[true, true, true, true, true, false, false, true, true, true, true, true, true, true, false, false, false] rfl rfl rfl rfl (two_of HT_.out (by kernel_rfl)) (by decide) (by decide) (fun K hK => ?_) (fun K hK => ?_)
      · refine Kd.R_append_rows_step (Kd.int .i64) (Rr := fun x cs_ => cs_ = [Value.int .i64 x]) (w0 := w) w.heap.size (by rfl) (.tmp 17) (.tmp 19) 22 3 (.int .i64 0) 8 rfl Tryz.underlying22 info3 rfl (by decide) (by omega) v2 [ep] cs A cs.length c (fun _ => True) (fun _ => False) rfl rfl HO2.out (Kd.C_below HR.out HB.out) (fun _ _ h_ => h_) (fun _ hk => hk.elim) (fun _ _ => trivial) HB.out HB.out.size (by have := HEL.out; simp only [List.length_append, List.length_cons, List.length_nil] at *; omega) ?_
        intro v5 wa5 hr_ hb_ hg_ _hat
        have n1_ := Aside0.mk (blk_grown BKg1.out hg_ (Kd.R_ne HO2.out BKg1.out (by decide)))
        have n2_ := Aside0.mk (blk_grown BKg2.out hg_ (Kd.R_ne HO2.out BKg2.out (by decide)))
        clear BKg1 BKg2 HB HO2 hHeld
        have BKg1 := n1_
        have BKg2 := n2_
        have HB := Aside0.mk hb_
        have HO5 := Aside0.mk hr_
        clear n1_ n2_ hb_ hr_ hg_ _hat
        obtain ⟨A5, c5, e5⟩ := Kd.R_slice HO5.out
        subst e5
        refine hK.out _ _ ⟨zS BKg1, zS BKg2⟩ (fun hHeld => ?_)
        clear hK K
        refine zN ?_
        refine two_ (i := 6) (j := 13) (Ni := some 21) (Nj := some 28) #[true, true, true, true, true, true, true, true, true, true, true, true, true, false, false, false, false] #[true, true, true, true, true, true, false, true, true, true, true, true, true, true, false, false, false] rfl rfl rfl rfl (two_of HT_.out (by kernel_rfl)) (by decide) (by decide) (fun K hK => ?_) (fun K hK => ?_)
        · refine goes_ Tryz.func105 (by kernel_rfl) rfl #[.int .i64 0, .slice A5 ([ep] ++ cs).length c5] (by rfl) rfl rfl (by (try simp only [List.map_toArray, List.map_cons, List.map_nil]); first | done | rfl) ?_
          with_reducible refine (row_b 0 ⟨by omega, by omega⟩ A5 c5 ([ep] ++ cs) HEC.out HEL.out w _ HT.out HB.out (Kd.R_reads' HO5.out).2.2 (Kd.R_reads' HO5.out).2.1).mono ?_
          rintro e wc_6 ⟨rfl, hb⟩
          refine ⟨_, rfl, ?_⟩
          replace HB := zW HB hb
          replace BKg1 := zb BKg1 hb
          replace BKg2 := zb BKg2 hb
          replace HO5 := zr HO5 hb
          rw [HR0.out]
          clear hb hHeld
          refine hK.out _ _ ⟨zS BKg1, zS BKg2⟩ (fun hHeld => ?_)
          clear hK K
          refine zN ?_
          refine one_ (i := 13) (N := some 28) #[true, true, true, true, true, true, true, true, true, true, true, true, true, true, false, false, false] rfl rfl (one_of HT_.out (by kernel_rfl)) (by decide) (fun K hK => ?_)
          refine Kd.R_lit_step (Kd.int .i64) (w0 := w) w.heap.size 3 (by rfl) rfl (xs := [m0, m1, m2]) (inner := [.int .i64 m0, .int .i64 m1, .int .i64 m2]) (ok := fun _ => True) (okp := fun _ => False) ?hrun (Kd.reps_scalar [m0, m1, m2]) (fun _ hk => hk.elim) (trivial) HB.out HB.out.size (by simp) ?_
          case hrun => first | (go_simp; done) | (go_simp; rfl)
          intro v13 wl13 hr_ hb_ hg_ hat_
          have n1_ := Aside0.mk (blk_gn BKg1.out hg_)
          have n2_ := Aside0.mk (blk_gn BKg2.out hg_)
          clear BKg1 BKg2 HB hHeld
          have BKg1 := n1_
          have BKg2 := n2_
          have HB := Aside0.mk hb_
          have HO13 := Aside0.mk hr_
          clear n1_ n2_ hb_ hr_ hg_ hat_
          refine hK.out _ _ ⟨zS BKg1, zS BKg2⟩ (fun hHeld => ?_)
          clear hK K
          refine zN ?_
          exact norm_ (by first | (simp only [putAll, Act.put, List.setIfInBounds_toArray, List.set_cons_zero, List.set_cons_succ]; done) | (simp only [putAll, Act.put, List.setIfInBounds_toArray, List.set_cons_zero, List.set_cons_succ]; rfl)) (hCont (v2, .slice A5 ([ep] ++ cs).length c5, v13) _ ⟨HB.out, BKg1.out, BKg2.out, Kd.R_mono HO13.out (fun _ _ => trivial)⟩)
        · refine Kd.R_lit_step (Kd.int .i64) (w0 := w) w.heap.size 3 (by rfl) rfl (xs := [m0, m1, m2]) (inner := [.int .i64 m0, .int .i64 m1, .int .i64 m2]) (ok := fun _ => True) (okp := fun _ => False) ?hrun (Kd.reps_scalar [m0, m1, m2]) (fun _ hk => hk.elim) (trivial) HB.out HB.out.size (by simp) ?_
          case hrun => first | (go_simp; done) | (go_simp; rfl)
          intro v13 wl13 hr_ hb_ hg_ hat_
          have n1_ := Aside0.mk (blk_gn BKg1.out hg_)
          have n2_ := Aside0.mk (blk_gn BKg2.out hg_)
          have n_HO5 := Aside0.mk (R_gn HO5.out hg_)
          clear BKg1 BKg2 HB hHeld HO5
          have BKg1 := n1_
          have BKg2 := n2_
          have HB := Aside0.mk hb_
          have HO13 := Aside0.mk hr_
          have HO5 := n_HO5
          clear n1_ n2_ hb_ hr_ hg_ hat_ n_HO5
          refine hK.out _ _ ⟨zS BKg1, zS BKg2⟩ (fun hHeld => ?_)
          clear hK K
          refine zN ?_
          refine zGo 6 (some 21) HT_ Tryz.func105 #[.int .i64 0, .slice A5 ([ep] ++ cs).length c5] ?_
          with_reducible refine (row_b 0 ⟨by omega, by omega⟩ A5 c5 ([ep] ++ cs) HEC.out HEL.out w _ HT.out HB.out (Kd.R_reads' HO5.out).2.2 (Kd.R_reads' HO5.out).2.1).mono ?_
          rintro e wc_6 ⟨rfl, hb⟩
          replace HB := zW HB hb
          replace BKg1 := zb BKg1 hb
          replace BKg2 := zb BKg2 hb
          replace HO13 := zr HO13 hb
          rw [HR0.out]
          clear hb hHeld
          refine zV ⟨zS BKg1, zS BKg2⟩ (fun hHeld => ?_)
          exact norm_ (by first | (simp only [putAll, Act.put, List.setIfInBounds_toArray, List.set_cons_zero, List.set_cons_succ]; done) | (simp only [putAll, Act.put, List.setIfInBounds_toArray, List.set_cons_zero, List.set_cons_succ]; rfl)) (hCont (v2, .slice A5 ([ep] ++ cs).length c5, v13) _ ⟨HB.out, BKg1.out, BKg2.out, Kd.R_mono HO13.out (fun _ _ => trivial)⟩)
      · refine Kd.R_lit_step (Kd.int .i64) (w0 := w) w.heap.size 3 (by rfl) rfl (xs := [m0, m1, m2]) (inner := [.int .i64 m0, .int .i64 m1, .int .i64 m2]) (ok := fun k => True ∧ some k ≠ v2.ownBlock) (okp := fun _ => False) ?hrun (Kd.reps_scalar [m0, m1, m2]) (fun _ hk => hk.elim) (⟨trivial, fun q => by have := Kd.R_lt HO2.out _ q.symm; omega⟩) HB.out HB.out.size (by simp) ?_
        case hrun => first | (go_simp; done) | (go_simp; rfl)
        intro v13 wl13 hr_ hb_ hg_ hat_
        have n1_ := Aside0.mk (blk_gn BKg1.out hg_)
        have n2_ := Aside0.mk (blk_gn BKg2.out hg_)
        have n_HO2 := Aside0.mk (R_gn HO2.out hg_)
        clear BKg1 BKg2 HB hHeld HO2
        have BKg1 := n1_
        have BKg2 := n2_
        have HB := Aside0.mk hb_
        have HO13 := Aside0.mk hr_
        have HO2 := n_HO2
        clear n1_ n2_ hb_ hr_ hg_ hat_ n_HO2
        refine hK.out _ _ ⟨zS BKg1, zS BKg2⟩ (fun hHeld => ?_)
        clear hK K
        refine zN ?_
        refine one_ (i := 5) (N := some 20) #[true, true, true, true, true, true, false, true, true, true, true, true, true, true, false, false, false] rfl rfl (one_of HT_.out (by kernel_rfl)) (by decide) (fun K hK => ?_)
        refine Kd.R_append_rows_step (Kd.int .i64) (Rr := fun x cs_ => cs_ = [Value.int .i64 x]) (w0 := w) w.heap.size (by rfl) (.tmp 17) (.tmp 19) 22 3 (.int .i64 0) 8 rfl Tryz.underlying22 info3 rfl (by decide) (by omega) v2 [ep] cs A cs.length c (fun _ => True) (fun _ => False) rfl rfl HO2.out (Kd.C_below HR.out HB.out) (fun _ _ h_ => h_) (fun _ hk => hk.elim) (fun _ _ => trivial) HB.out HB.out.size (by have := HEL.out; simp only [List.length_append, List.length_cons, List.length_nil] at *; omega) ?_
        intro v5 wa5 hr_ hb_ hg_ _hat
        have n1_ := Aside0.mk (blk_grown BKg1.out hg_ (Kd.R_ne HO2.out BKg1.out (by decide)))
        have n2_ := Aside0.mk (blk_grown BKg2.out hg_ (Kd.R_ne HO2.out BKg2.out (by decide)))
        have n_HO13 := Aside0.mk (Kd.R_grown HO13.out hg_ (fun k hk => hk.2))
        clear BKg1 BKg2 HB HO2 hHeld HO13
        have BKg1 := n1_
        have BKg2 := n2_
        have HB := Aside0.mk hb_
        have HO5 := Aside0.mk hr_
        have HO13 := n_HO13
        clear n1_ n2_ hb_ hr_ hg_ _hat n_HO13
        obtain ⟨A5, c5, e5⟩ := Kd.R_slice HO5.out
        subst e5
        refine hK.out _ _ ⟨zS BKg1, zS BKg2⟩ (fun hHeld => ?_)
        clear hK K
        refine zN ?_
        refine zGo 6 (some 21) HT_ Tryz.func105 #[.int .i64 0, .slice A5 ([ep] ++ cs).length c5] ?_
        with_reducible refine (row_b 0 ⟨by omega, by omega⟩ A5 c5 ([ep] ++ cs) HEC.out HEL.out w _ HT.out HB.out (Kd.R_reads' HO5.out).2.2 (Kd.R_reads' HO5.out).2.1).mono ?_
        rintro e wc_6 ⟨rfl, hb⟩
        replace HB := zW HB hb
        replace BKg1 := zb BKg1 hb
        replace BKg2 := zb BKg2 hb
        replace HO13 := zr HO13 hb
        rw [HR0.out]
        clear hb hHeld
        refine zV ⟨zS BKg1, zS BKg2⟩ (fun hHeld => ?_)
        exact norm_ (by first | (simp only [putAll, Act.put, List.setIfInBounds_toArray, List.set_cons_zero, List.set_cons_succ]; done) | (simp only [putAll, Act.put, List.setIfInBounds_toArray, List.set_cons_zero, List.set_cons_succ]; rfl)) (hCont (v2, .slice A5 ([ep] ++ cs).length c5, v13) _ ⟨HB.out, BKg1.out, BKg2.out, Kd.R_mono HO13.out (fun _ _ => trivial)⟩)
    · refine Kd.R_lit_step (Kd.int .i64) (w0 := w) w.heap.size 3 (by rfl) rfl (xs := [m0, m1, m2]) (inner := [.int .i64 m0, .int .i64 m1, .int .i64 m2]) (ok := fun _ => True) (okp := fun _ => False) ?hrun (Kd.reps_scalar [m0, m1, m2]) (fun _ hk => hk.elim) (trivial) HB.out HB.out.size (by simp) ?_
      case hrun => first | (go_simp; done) | (go_simp; rfl)
      intro v13 wl13 hr_ hb_ hg_ hat_
      have n1_ := Aside0.mk (blk_gn BKg1.out hg_)
      have n2_ := Aside0.mk (blk_gn BKg2.out hg_)
      clear BKg1 BKg2 HB hHeld
      have BKg1 := n1_
      have BKg2 := n2_
      have HB := Aside0.mk hb_
      have HO13 := Aside0.mk hr_
      clear n1_ n2_ hb_ hr_ hg_ hat_
      refine hK.out _ _ ⟨zS BKg1, zS BKg2⟩ (fun hHeld => ?_)
      clear hK K
      refine zN ?_
      refine one_ (i := 2) (N := some 17) #[true, true, true, true, true, false, false, true, true, true, true, true, true, true, false, false, false] rfl rfl (one_of HT_.out (by kernel_rfl)) (by decide) (fun K hK => ?_)
      refine Kd.R_lit_step (Kd.int .i64) (w0 := w) w.heap.size 3 (by rfl) rfl (xs := [ep]) (inner := [.int .i64 ep]) (ok := fun _ => True) (okp := fun _ => False) ?hrun (Kd.reps_scalar [ep]) (fun _ hk => hk.elim) (trivial) HB.out HB.out.size (by simp) ?_
      case hrun => first | (go_simp; done) | (go_simp; rfl)
      intro v2 wl2 hr_ hb_ hg_ hat_
      have n1_ := Aside0.mk (blk_gn BKg1.out hg_)
      have n2_ := Aside0.mk (blk_gn BKg2.out hg_)
      have n_HO13 := Aside0.mk (R_gn (R_sep HO13.out hat_) hg_)
      clear BKg1 BKg2 HB hHeld HO13
      have BKg1 := n1_
      have BKg2 := n2_
      have HB := Aside0.mk hb_
      have HO2 := Aside0.mk hr_
      have HO13 := n_HO13
      clear n1_ n2_ hb_ hr_ hg_ hat_ n_HO13
      refine hK.out _ _ ⟨zS BKg1, zS BKg2⟩ (fun hHeld => ?_)
      clear hK K
      refine zN ?_
      refine one_ (i := 5) (N := some 20) #[true, true, true, true, true, true, false, true, true, true, true, true, true, true, false, false, false] rfl rfl (one_of HT_.out (by kernel_rfl)) (by decide) (fun K hK => ?_)
      refine Kd.R_append_rows_step (Kd.int .i64) (Rr := fun x cs_ => cs_ = [Value.int .i64 x]) (w0 := w) w.heap.size (by rfl) (.tmp 17) (.tmp 19) 22 3 (.int .i64 0) 8 rfl Tryz.underlying22 info3 rfl (by decide) (by omega) v2 [ep] cs A cs.length c (fun _ => True) (fun _ => False) rfl rfl HO2.out (Kd.C_below HR.out HB.out) (fun _ _ h_ => h_) (fun _ hk => hk.elim) (fun _ _ => trivial) HB.out HB.out.size (by have := HEL.out; simp only [List.length_append, List.length_cons, List.length_nil] at *; omega) ?_
      intro v5 wa5 hr_ hb_ hg_ _hat
      have n1_ := Aside0.mk (blk_grown BKg1.out hg_ (Kd.R_ne HO2.out BKg1.out (by decide)))
      have n2_ := Aside0.mk (blk_grown BKg2.out hg_ (Kd.R_ne HO2.out BKg2.out (by decide)))
      have n_HO13 := Aside0.mk (Kd.R_grown HO13.out hg_ (fun k hk => hk.2))
      clear BKg1 BKg2 HB HO2 hHeld HO13
      have BKg1 := n1_
      have BKg2 := n2_
      have HB := Aside0.mk hb_
      have HO5 := Aside0.mk hr_
      have HO13 := n_HO13
      clear n1_ n2_ hb_ hr_ hg_ _hat n_HO13
      obtain ⟨A5, c5, e5⟩ := Kd.R_slice HO5.out
      subst e5
      refine hK.out _ _ ⟨zS BKg1, zS BKg2⟩ (fun hHeld => ?_)
      clear hK K
      refine zN ?_
      refine zGo 6 (some 21) HT_ Tryz.func105 #[.int .i64 0, .slice A5 ([ep] ++ cs).length c5] ?_
      with_reducible refine (row_b 0 ⟨by omega, by omega⟩ A5 c5 ([ep] ++ cs) HEC.out HEL.out w _ HT.out HB.out (Kd.R_reads' HO5.out).2.2 (Kd.R_reads' HO5.out).2.1).mono ?_
      rintro e wc_6 ⟨rfl, hb⟩
      replace HB := zW HB hb
      replace BKg1 := zb BKg1 hb
      replace BKg2 := zb BKg2 hb
      replace HO13 := zr HO13 hb
      rw [HR0.out]
      clear hb hHeld
      refine zV ⟨zS BKg1, zS BKg2⟩ (fun hHeld => ?_)
      exact norm_ (by first | (simp only [putAll, Act.put, List.setIfInBounds_toArray, List.set_cons_zero, List.set_cons_succ]; done) | (simp only [putAll, Act.put, List.setIfInBounds_toArray, List.set_cons_zero, List.set_cons_succ]; rfl)) (hCont (v2, .slice A5 ([ep] ++ cs).length c5, v13) _ ⟨HB.out, BKg1.out, BKg2.out, Kd.R_mono HO13.out (fun _ _ => trivial)⟩)
  rintro ⟨v2, v5, v13⟩ wj ⟨hB_, hg1_, hg2_, hO_⟩
  have HB := Aside0.mk hB_
  have BKg1 := Aside0.mk hg1_
  have BKg2 := Aside0.mk hg2_
  obtain ⟨A13, c13, e13⟩ := Kd.R_slice hO_
  have e13' : v13 = .slice A13 3 c13 := e13
  subst e13'
  have HO13 := Aside0.mk hO_
  clear hB_ hg1_ hg2_ hO_ e13
  refine norm_ (a' := ?_) ?_ ?_
  rotate_left
  · simp only [putAll, Act.put, List.setIfInBounds_toArray, List.set_cons_zero, List.set_cons_succ]
    rfl
  have hHeld : True := trivial
  refine zGo 14 (some 29) HT_ Tryz.func105 #[.int .i64 1, .slice A13 3 c13] ?_
  with_reducible refine (row_n 1 ⟨by omega, by omega⟩ A13 c13 3 [m0, m1, m2] rfl HM3.out (by simp) w _ HT.out HB.out (Kd.R_reads' HO13.out).2.2 (by simpa using (Kd.R_reads' HO13.out).2.1)).mono ?_
  rintro e w14 ⟨rfl, hb⟩
  rw [HR1.out]
  have n0_ := Aside0.mk (below_thenN HB.out hb)
  have n1_ := Aside0.mk (blk_below BKg1.out hb)
  have n2_ := Aside0.mk (blk_below BKg2.out hb)
  clear HB BKg1 BKg2 HO13 hHeld
  have HB := n0_
  have BKg1 := n1_
  have BKg2 := n2_
  clear n0_ n1_ n2_ hb
  refine zV ⟨zS BKg1, zS BKg2⟩ (fun hHeld => ?_)
  refine one_ (i := 15) (N := some 30) #[true, true, true, true, true, true, true, true, true, true, true, true, true, true, true, true, false] rfl rfl (one_of HT_.out (by kernel_rfl)) (by decide) (fun K hK => ?_)
  refine Kd.R_lit_step Kd.string (w0 := w) w.heap.size 9 (by rfl) rfl (xs := [R0, R1]) (inner := [.string R0, .string R1]) (ok := fun _ => True) (okp := fun _ => False) ?hrun (Kd.reps_scalar [R0, R1]) (fun _ hk => hk.elim) trivial HB.out HB.out.size (by simp) ?_
  case hrun => first | (go_simp; done) | (go_simp; rfl)
  intro v15 w15 hr_ hb_ hg_ _hat
  have n1_ := Aside0.mk (blk_gn BKg1.out hg_)
  have n2_ := Aside0.mk (blk_gn BKg2.out hg_)
  clear BKg1 BKg2 HB hHeld
  have BKg1 := n1_
  have BKg2 := n2_
  have HB := Aside0.mk hb_
  have HOs := Aside0.mk hr_
  clear n1_ n2_ hb_ hr_ hg_ _hat
  refine hK.out _ _ ⟨zS BKg1, zS BKg2⟩ (fun hHeld => ?_)
  clear hK K
  refine zN ?_
  refine zP 16 (some 7) HT_ ?_
  refine done_ (done_of HT_.out (by kernel_rfl)) ?_
  obtain ⟨HH, hHH⟩ : ∃ HH, headB ep cs m0 m1 m2 = HH := ⟨_, rfl⟩
  have hHOs := HOs.out
  rw [show [R0, R1] = HH by rw [← hHH, ← HR0.out, ← HR1.out]; rfl] at hHOs
  clear HOs
  have HOs := Aside0.mk hHOs
  have HHH := Aside0.mk hHH
  have HHL := Aside0.mk (show HH.length = 2 by rw [← hHH]; rfl)
  clear hHOs hHH BKg1 BKg2 hHeld HT_ HW_
  try go_wp2
  go_loopw [7, 33] (fun v7 v33 Wr => ∃ (i : Nat), v33 = .int .i64 i ∧ i ≤ l.length ∧ Aside0 (Below w.heap.size w Wr) ∧ Aside0 (Kd.string.R 9 Wr w.heap.size (fun _ => True) v7 (HH ++ (l.take i).map lineB))) (fun _ i _ => l.length - (intOf i).toNat)
  case atStart => exact ⟨0, rfl, by omega, HB, by simpa using HOs⟩
  case round =>
    clear HB HOs
    obtain ⟨i, rfl, hi, HB, HOs⟩ := hrel
    by_cases hlt : i < l.length
    · obtain ⟨vs, hvs⟩ : ∃ v, v = u7 := ⟨_, rfl⟩
      subst hvs
      obtain ⟨x, hx⟩ : ∃ x, l[i] = x := ⟨_, rfl⟩
      have hxn := HNO.out.2.2.2.2.2.2.2 x (hx ▸ List.getElem_mem hlt)
      have hxk := hxn.1
      have hxo := hxn.2
      clear hxn
      have HXK := Aside0.mk hxk
      have HXK1 := Aside0.mk (show 0 ≤ x.f0 + 1 ∧ x.f0 + 1 ≤ 6 by omega)
      obtain ⟨ad, eA, x0, x1, x2, x3⟩ := at_T74 (Kd.C_below HRF.out HB.out) (i : Int) (by omega) (by omega)
      have hrd : rd_T74 l (i : Int) = x := by unfold rd_T74; rw [Int.toNat_natCast, List.getD_eq_getElem?_getD, List.getElem?_eq_getElem hlt, Option.getD_some, hx]
      rw [hrd, Int.toNat_natCast] at x0 x1 x2 x3
      subst eA
      obtain ⟨LB, hLB⟩ : ∃ LB, lineB x = LB := ⟨_, rfl⟩
      obtain ⟨RS, hRS⟩ : ∃ RS, HH ++ (l.take i).map lineB = RS := ⟨_, rfl⟩
      have HNX := Aside0.mk (show HH ++ (l.take (i + 1)).map lineB = RS ++ [LB] by rw [List.take_succ_eq_append_getElem hlt, List.map_append, ← List.append_assoc, hRS, hx, ← hLB]; rfl)
      have HRSL := Aside0.mk (show RS.length ≤ 902 by rw [← hRS, List.length_append, HHL.out, List.length_map]; have := List.length_take_le i l; have := HL900.out; omega)
      have HLBB := Aside0.mk hLB
      rw [hRS] at HOs
      have hi0 : (0 : Int) ≤ (i : Int) := by omega
      have hi1 : (i : Int) < (l.length : Int) := by omega
      have hi2 : (i : Int) ≤ 1000 := by have := HL900.out; omega
      have hib : decide ((i : Int) < (l.length : Int)) = true := decide_eq_true hi1
      clear hx hrd hLB hRS
      by_cases k3 : x.f0 = 3
      · have kb3 : (x.f0 == 3) = true := beq_iff_eq.mpr (by omega)
        have kd3 : decide (x.f0 = 3) = true := decide_eq_true (by omega)
        have hln : lineN x = [x.f1, x.f2] := by unfold lineN; rw [if_pos (by omega)]
        have HLO := Aside0.mk (hln ▸ lineN_ok hxo)
        have HLB := Aside0.mk (show rowB (x.f0 + 1) [x.f1, x.f2] = LB by rw [← HLBB.out, ← hln]; rfl)
        clear hln hxo hxk k3
        go_wp2_with (first
          | ((with_reducible refine zG 9 rfl ?_); refine zBox 9 #[.int .i64 0, .int .i64 0, .int .i64 0, .int .i64 0] 74 ?_; intro gq hg w1 hbox hb; have GEgq := zge hg HB; replace HB := zW HB hb; replace HOs := zr HOs hb; have BKgq := Aside0.mk hbox; clear hb hbox hg; have n1_gq0 := zC BKgq)
          | ((with_reducible refine zH 74 9 rfl ?_); refine zSto 74 9 #[.int .i64 x.f0, .int .i64 x.f1, .int .i64 x.f2, .int .i64 x.f3] BKgq ?_; intro w2 hw; replace HB := zWS hw GEgq HB; replace HOs := Aside0.mk (R_setRow' hw (by first | decide | (intro q hq; simp [askKd, kQ] at hq; omega)) BKgq.out HOs.out); replace BKgq := znew hw BKgq; clear hw; (try clear n1_gq0); have n2_gq0 := zC BKgq)
          | ((with_reducible refine zG 43 rfl ?_); refine lit_event ?hg (N := 43) ?hd (cs := #[.int .i64 x.f1, .int .i64 x.f2, .int .i64 x.f3]) (t := 3) (n := 3) ?hr ?_; (case hd => rfl); (case hg => rfl); (case hr => first | (go_simp; done) | (go_simp; rfl)); intro gl hg w3 hbox hb; replace HB := zW HB hb; replace HOs := zr HOs hb; replace BKgq := zb BKgq hb; have BKgl := Aside0.mk hbox; clear hb hbox hg; (try clear n2_gq0); have n3_gq0 := zC BKgq; have hsl2 := sl_to gl; have hsl3 := sl_from gl)
          | (go_at_call 106; (with_reducible refine (kindLine_b x.f0 HXK.out _).mono ?_); rintro e w4 ⟨rfl, hb⟩; replace HB := zW HB hb; replace HOs := zr HOs hb; replace BKgq := zb BKgq hb; replace BKgl := zb BKgl hb; clear hb; (try clear n3_gq0); have n4_gq0 := zC BKgq)
          | (go_at_call 105; (with_reducible refine (row_n (x.f0 + 1) HXK1.out (some ⟨gl, 0, none⟩) 3 2 [x.f1, x.f2] rfl HLO.out (by simp) w _ HT.out HB.out ?hC (by simp)).mono ?_); (case hC => exact C_of_blk BKgl.out (fun i p hp => by match i, hp with  | 0, hp => (simp at hp; subst hp; rfl) | 1, hp => (simp at hp; subst hp; rfl) | j + 2, hp => simp at hp) (by simp)); rintro e w5 ⟨rfl, hb⟩; rw [HLB.out]; replace HB := zW HB hb; replace HOs := zr HOs hb; replace BKgq := zb BKgq hb; replace BKgl := zb BKgl hb; clear hb)
          | ((with_reducible refine gate_builtin (b := .append) (xs := #[.tmp 55, .tmp 61]) rfl ?_); at_builtin; refine Kd.R_append Kd.string (w0 := w) w.heap.size rfl (.tmp 55) (.tmp 61) 137 9 (.string ⟨#[]⟩) 16 rfl Tryz.underlying137 infoS rfl (by decide) (by omega) vs RS LB [.string LB] (fun _ => True) (fun _ => False) rfl rfl ?aP (fun _ hk => hk.elim) ?aF ?aO ?aB ?aS ?aL ?_; (case aP => exact rfl); (case aF => exact fun _ _ => trivial); (case aO => exact HOs.out); (case aB => exact HB.out); (case aS => exact HB.out.size); (case aL => have := HRSL.out; omega); intro v1 w6 ho hb hg _hat; clear HB HOs BKgq BKgl; have HB := Aside0.mk hb; have HOs := Aside0.mk ho; clear ho hb hg _hat))
        go_roundw
        case rel => exact ⟨i + 1, by go_num, by omega, HB, by rw [HNX.out]; exact HOs⟩
        case measure => simp [intOf]; omega
      by_cases k4 : x.f0 = 4
      · have kb3 : (x.f0 == 3) = false := beq_eq_false_iff_ne.mpr (by omega)
        have kd3 : decide (x.f0 = 3) = false := decide_eq_false (by omega)
        have kb4 : (x.f0 == 4) = true := beq_iff_eq.mpr (by omega)
        have kd4 : decide (x.f0 = 4) = true := decide_eq_true (by omega)
        have hln : lineN x = [x.f3] := by unfold lineN; rw [if_neg (by omega), if_pos (by omega)]
        have HLO := Aside0.mk (hln ▸ lineN_ok hxo)
        have HLB := Aside0.mk (show rowB (x.f0 + 1) [x.f3] = LB by rw [← HLBB.out, ← hln]; rfl)
        clear hln hxo hxk k3 k4
        go_wp2_with (first
          | ((with_reducible refine zG 9 rfl ?_); refine zBox 9 #[.int .i64 0, .int .i64 0, .int .i64 0, .int .i64 0] 74 ?_; intro gq hg w1 hbox hb; have GEgq := zge hg HB; replace HB := zW HB hb; replace HOs := zr HOs hb; have BKgq := Aside0.mk hbox; clear hb hbox hg; have n1_gq0 := zC BKgq)
          | ((with_reducible refine zH 74 9 rfl ?_); refine zSto 74 9 #[.int .i64 x.f0, .int .i64 x.f1, .int .i64 x.f2, .int .i64 x.f3] BKgq ?_; intro w2 hw; replace HB := zWS hw GEgq HB; replace HOs := Aside0.mk (R_setRow' hw (by first | decide | (intro q hq; simp [askKd, kQ] at hq; omega)) BKgq.out HOs.out); replace BKgq := znew hw BKgq; clear hw; (try clear n1_gq0); have n2_gq0 := zC BKgq)
          | ((with_reducible refine zG 43 rfl ?_); refine lit_event ?hg (N := 43) ?hd (cs := #[.int .i64 x.f1, .int .i64 x.f2, .int .i64 x.f3]) (t := 3) (n := 3) ?hr ?_; (case hd => rfl); (case hg => rfl); (case hr => first | (go_simp; done) | (go_simp; rfl)); intro gl hg w3 hbox hb; replace HB := zW HB hb; replace HOs := zr HOs hb; replace BKgq := zb BKgq hb; have BKgl := Aside0.mk hbox; clear hb hbox hg; (try clear n2_gq0); have n3_gq0 := zC BKgq; have hsl2 := sl_to gl; have hsl3 := sl_from gl)
          | (go_at_call 106; (with_reducible refine (kindLine_b x.f0 HXK.out _).mono ?_); rintro e w4 ⟨rfl, hb⟩; replace HB := zW HB hb; replace HOs := zr HOs hb; replace BKgq := zb BKgq hb; replace BKgl := zb BKgl hb; clear hb; (try clear n3_gq0); have n4_gq0 := zC BKgq)
          | (go_at_call 105; (with_reducible refine (row_n (x.f0 + 1) HXK1.out (some ⟨gl, 2, none⟩) 1 1 [x.f3] rfl HLO.out (by simp) w _ HT.out HB.out ?hC (by simp)).mono ?_); (case hC => exact C_of_blk BKgl.out (fun i p hp => by match i, hp with  | 0, hp => (simp at hp; subst hp; rfl) | j + 1, hp => simp at hp) (by simp)); rintro e w5 ⟨rfl, hb⟩; rw [HLB.out]; replace HB := zW HB hb; replace HOs := zr HOs hb; replace BKgq := zb BKgq hb; replace BKgl := zb BKgl hb; clear hb)
          | ((with_reducible refine gate_builtin (b := .append) (xs := #[.tmp 55, .tmp 61]) rfl ?_); at_builtin; refine Kd.R_append Kd.string (w0 := w) w.heap.size rfl (.tmp 55) (.tmp 61) 137 9 (.string ⟨#[]⟩) 16 rfl Tryz.underlying137 infoS rfl (by decide) (by omega) vs RS LB [.string LB] (fun _ => True) (fun _ => False) rfl rfl ?aP (fun _ hk => hk.elim) ?aF ?aO ?aB ?aS ?aL ?_; (case aP => exact rfl); (case aF => exact fun _ _ => trivial); (case aO => exact HOs.out); (case aB => exact HB.out); (case aS => exact HB.out.size); (case aL => have := HRSL.out; omega); intro v1 w6 ho hb hg _hat; clear HB HOs BKgq BKgl; have HB := Aside0.mk hb; have HOs := Aside0.mk ho; clear ho hb hg _hat))
        go_roundw
        case rel => exact ⟨i + 1, by go_num, by omega, HB, by rw [HNX.out]; exact HOs⟩
        case measure => simp [intOf]; omega
      by_cases k5 : x.f0 = 5
      · have kb3 : (x.f0 == 3) = false := beq_eq_false_iff_ne.mpr (by omega)
        have kd3 : decide (x.f0 = 3) = false := decide_eq_false (by omega)
        have kb4 : (x.f0 == 4) = false := beq_eq_false_iff_ne.mpr (by omega)
        have kd4 : decide (x.f0 = 4) = false := decide_eq_false (by omega)
        have kb5 : (x.f0 == 5) = true := beq_iff_eq.mpr (by omega)
        have kd5 : decide (x.f0 = 5) = true := decide_eq_true (by omega)
        have hln : lineN x = [x.f3] := by unfold lineN; rw [if_neg (by omega), if_pos (by omega)]
        have HLO := Aside0.mk (hln ▸ lineN_ok hxo)
        have HLB := Aside0.mk (show rowB (x.f0 + 1) [x.f3] = LB by rw [← HLBB.out, ← hln]; rfl)
        clear hln hxo hxk k3 k4 k5
        go_wp2_with (first
          | ((with_reducible refine zG 9 rfl ?_); refine zBox 9 #[.int .i64 0, .int .i64 0, .int .i64 0, .int .i64 0] 74 ?_; intro gq hg w1 hbox hb; have GEgq := zge hg HB; replace HB := zW HB hb; replace HOs := zr HOs hb; have BKgq := Aside0.mk hbox; clear hb hbox hg; have n1_gq0 := zC BKgq)
          | ((with_reducible refine zH 74 9 rfl ?_); refine zSto 74 9 #[.int .i64 x.f0, .int .i64 x.f1, .int .i64 x.f2, .int .i64 x.f3] BKgq ?_; intro w2 hw; replace HB := zWS hw GEgq HB; replace HOs := Aside0.mk (R_setRow' hw (by first | decide | (intro q hq; simp [askKd, kQ] at hq; omega)) BKgq.out HOs.out); replace BKgq := znew hw BKgq; clear hw; (try clear n1_gq0); have n2_gq0 := zC BKgq)
          | ((with_reducible refine zG 43 rfl ?_); refine lit_event ?hg (N := 43) ?hd (cs := #[.int .i64 x.f1, .int .i64 x.f2, .int .i64 x.f3]) (t := 3) (n := 3) ?hr ?_; (case hd => rfl); (case hg => rfl); (case hr => first | (go_simp; done) | (go_simp; rfl)); intro gl hg w3 hbox hb; replace HB := zW HB hb; replace HOs := zr HOs hb; replace BKgq := zb BKgq hb; have BKgl := Aside0.mk hbox; clear hb hbox hg; (try clear n2_gq0); have n3_gq0 := zC BKgq; have hsl2 := sl_to gl; have hsl3 := sl_from gl)
          | (go_at_call 106; (with_reducible refine (kindLine_b x.f0 HXK.out _).mono ?_); rintro e w4 ⟨rfl, hb⟩; replace HB := zW HB hb; replace HOs := zr HOs hb; replace BKgq := zb BKgq hb; replace BKgl := zb BKgl hb; clear hb; (try clear n3_gq0); have n4_gq0 := zC BKgq)
          | (go_at_call 105; (with_reducible refine (row_n (x.f0 + 1) HXK1.out (some ⟨gl, 2, none⟩) 1 1 [x.f3] rfl HLO.out (by simp) w _ HT.out HB.out ?hC (by simp)).mono ?_); (case hC => exact C_of_blk BKgl.out (fun i p hp => by match i, hp with  | 0, hp => (simp at hp; subst hp; rfl) | j + 1, hp => simp at hp) (by simp)); rintro e w5 ⟨rfl, hb⟩; rw [HLB.out]; replace HB := zW HB hb; replace HOs := zr HOs hb; replace BKgq := zb BKgq hb; replace BKgl := zb BKgl hb; clear hb)
          | ((with_reducible refine gate_builtin (b := .append) (xs := #[.tmp 55, .tmp 61]) rfl ?_); at_builtin; refine Kd.R_append Kd.string (w0 := w) w.heap.size rfl (.tmp 55) (.tmp 61) 137 9 (.string ⟨#[]⟩) 16 rfl Tryz.underlying137 infoS rfl (by decide) (by omega) vs RS LB [.string LB] (fun _ => True) (fun _ => False) rfl rfl ?aP (fun _ hk => hk.elim) ?aF ?aO ?aB ?aS ?aL ?_; (case aP => exact rfl); (case aF => exact fun _ _ => trivial); (case aO => exact HOs.out); (case aB => exact HB.out); (case aS => exact HB.out.size); (case aL => have := HRSL.out; omega); intro v1 w6 ho hb hg _hat; clear HB HOs BKgq BKgl; have HB := Aside0.mk hb; have HOs := Aside0.mk ho; clear ho hb hg _hat))
        go_roundw
        case rel => exact ⟨i + 1, by go_num, by omega, HB, by rw [HNX.out]; exact HOs⟩
        case measure => simp [intOf]; omega
      have kb3 : (x.f0 == 3) = false := beq_eq_false_iff_ne.mpr (by omega)
      have kd3 : decide (x.f0 = 3) = false := decide_eq_false (by omega)
      have kb4 : (x.f0 == 4) = false := beq_eq_false_iff_ne.mpr (by omega)
      have kd4 : decide (x.f0 = 4) = false := decide_eq_false (by omega)
      have kb5 : (x.f0 == 5) = false := beq_eq_false_iff_ne.mpr (by omega)
      have kd5 : decide (x.f0 = 5) = false := decide_eq_false (by omega)
      have hln : lineN x = [x.f1, x.f2, x.f3] := by unfold lineN; rw [if_neg (by omega), if_neg (by omega)]
      have HLO := Aside0.mk (hln ▸ lineN_ok hxo)
      have HLB := Aside0.mk (show rowB (x.f0 + 1) [x.f1, x.f2, x.f3] = LB by rw [← HLBB.out, ← hln]; rfl)
      clear hln hxo hxk k3 k4 k5
      go_wp2_with (first
        | ((with_reducible refine zG 9 rfl ?_); refine zBox 9 #[.int .i64 0, .int .i64 0, .int .i64 0, .int .i64 0] 74 ?_; intro gq hg w1 hbox hb; have GEgq := zge hg HB; replace HB := zW HB hb; replace HOs := zr HOs hb; have BKgq := Aside0.mk hbox; clear hb hbox hg; have n1_gq0 := zC BKgq)
        | ((with_reducible refine zH 74 9 rfl ?_); refine zSto 74 9 #[.int .i64 x.f0, .int .i64 x.f1, .int .i64 x.f2, .int .i64 x.f3] BKgq ?_; intro w2 hw; replace HB := zWS hw GEgq HB; replace HOs := Aside0.mk (R_setRow' hw (by first | decide | (intro q hq; simp [askKd, kQ] at hq; omega)) BKgq.out HOs.out); replace BKgq := znew hw BKgq; clear hw; (try clear n1_gq0); have n2_gq0 := zC BKgq)
        | ((with_reducible refine zG 43 rfl ?_); refine lit_event ?hg (N := 43) ?hd (cs := #[.int .i64 x.f1, .int .i64 x.f2, .int .i64 x.f3]) (t := 3) (n := 3) ?hr ?_; (case hd => rfl); (case hg => rfl); (case hr => first | (go_simp; done) | (go_simp; rfl)); intro gl hg w3 hbox hb; replace HB := zW HB hb; replace HOs := zr HOs hb; replace BKgq := zb BKgq hb; have BKgl := Aside0.mk hbox; clear hb hbox hg; (try clear n2_gq0); have n3_gq0 := zC BKgq; have hsl2 := sl_to gl; have hsl3 := sl_from gl)
        | (go_at_call 106; (with_reducible refine (kindLine_b x.f0 HXK.out _).mono ?_); rintro e w4 ⟨rfl, hb⟩; replace HB := zW HB hb; replace HOs := zr HOs hb; replace BKgq := zb BKgq hb; replace BKgl := zb BKgl hb; clear hb; (try clear n3_gq0); have n4_gq0 := zC BKgq)
        | (go_at_call 105; (with_reducible refine (row_n (x.f0 + 1) HXK1.out (some ⟨gl, 0, none⟩) 3 3 [x.f1, x.f2, x.f3] rfl HLO.out (by simp) w _ HT.out HB.out ?hC (by simp)).mono ?_); (case hC => exact C_of_blk BKgl.out (fun i p hp => by match i, hp with  | 0, hp => (simp at hp; subst hp; rfl) | 1, hp => (simp at hp; subst hp; rfl) | 2, hp => (simp at hp; subst hp; rfl) | j + 3, hp => simp at hp) (by simp)); rintro e w5 ⟨rfl, hb⟩; rw [HLB.out]; replace HB := zW HB hb; replace HOs := zr HOs hb; replace BKgq := zb BKgq hb; replace BKgl := zb BKgl hb; clear hb)
        | ((with_reducible refine gate_builtin (b := .append) (xs := #[.tmp 55, .tmp 61]) rfl ?_); at_builtin; refine Kd.R_append Kd.string (w0 := w) w.heap.size rfl (.tmp 55) (.tmp 61) 137 9 (.string ⟨#[]⟩) 16 rfl Tryz.underlying137 infoS rfl (by decide) (by omega) vs RS LB [.string LB] (fun _ => True) (fun _ => False) rfl rfl ?aP (fun _ hk => hk.elim) ?aF ?aO ?aB ?aS ?aL ?_; (case aP => exact rfl); (case aF => exact fun _ _ => trivial); (case aO => exact HOs.out); (case aB => exact HB.out); (case aS => exact HB.out.size); (case aL => have := HRSL.out; omega); intro v1 w6 ho hb hg _hat; clear HB HOs BKgq BKgl; have HB := Aside0.mk hb; have HOs := Aside0.mk ho; clear ho hb hg _hat))
      go_roundw
      case rel => exact ⟨i + 1, by go_num, by omega, HB, by rw [HNX.out]; exact HOs⟩
      case measure => simp [intOf]; omega
    · have hie : i = l.length := by omega
      subst hie
      have HTK := Aside0.mk (show l.take l.length = l from List.take_length)
      obtain ⟨RS, hRS⟩ : ∃ RS, rowsB ep cs m0 m1 m2 l = RS := ⟨_, rfl⟩
      have hHOs := HOs.out
      rw [HTK.out, show HH ++ l.map lineB = RS by rw [← hRS, ← HHH.out]; rfl] at hHOs
      clear HOs
      obtain ⟨A7, c7, e7⟩ := Kd.R_slice hHOs
      have HOs := Aside0.mk hHOs
      have HSZ := Aside0.mk (show ∀ r ∈ RS, r.size ≤ 20000 by rw [← hRS]; exact rowsB_size HNO.out)
      have HRL := Aside0.mk (show RS.length ≤ 902 by have := rowsB_len ep cs m0 m1 m2 l; rw [hRS] at this; have := HL900.out; omega)
      have HRS := Aside0.mk hRS
      subst e7
      clear hHOs hRS
      go_wp2
      go_loop [11, 66] (fun v11 v66 => ∃ (i : Nat), v66 = .int .i64 i ∧ i ≤ RS.length ∧ v11 = .int .i64 (chkRows RS i)) (fun _ i => RS.length - (intOf i).toNat)
      case atStart => exact ⟨0, rfl, by omega, rfl⟩
      case round =>
        obtain ⟨i, rfl, hi, rfl⟩ := hrel
        have hi2 : (i : Int) ≤ 902 := by have := HRL.out; omega
        have hcb := chkRows_bd RS (fun r hr => by have := HSZ.out r hr; omega) i (by have := HRL.out; omega)
        obtain ⟨C, hC⟩ : ∃ C, chkRows RS i = C := ⟨_, rfl⟩
        rw [hC] at hcb ⊢
        have HCE := Aside0.mk hC
        have HC0 := Aside0.mk (show 0 ≤ C ∧ C ≤ 207222916200300000 by have h2 := hcb.2; omega)
        clear hcb hC
        by_cases hlt : i < RS.length
        · obtain ⟨r, hr⟩ : ∃ r, RS[i] = r := ⟨_, rfl⟩
          have hrs := HSZ.out r (hr ▸ List.getElem_mem hlt)
          obtain ⟨ad, eA, hcell⟩ := Kd.at_string (Kd.R_reads' HOs.out).2.2 (i : Int) (by omega) (by omega)
          have hrd : rdOf ByteArray.empty RS (i : Int) = r := by unfold rdOf; rw [Int.toNat_natCast, List.getD_eq_getElem?_getD, List.getElem?_eq_getElem hlt, Option.getD_some, hr]
          rw [hrd, Int.toNat_natCast] at hcell
          subst eA
          have HNX := Aside0.mk (show chkRows RS (i + 1) = chkRow r i r.size C by show chkRow (RS.getD i ⟨#[]⟩) i (RS.getD i ⟨#[]⟩).size (chkRows RS i) = _; rw [List.getD_eq_getElem?_getD, List.getElem?_eq_getElem hlt, Option.getD_some, hr, HCE.out])
          have hi0 : (0 : Int) ≤ (i : Int) := by omega
          have hi1 : (i : Int) < (RS.length : Int) := by omega
          have hib : decide ((i : Int) < (RS.length : Int)) = true := decide_eq_true hi1
          have HRZ := Aside0.mk hrs
          clear hr hrd
          go_wp2
          go_loop [11, 73] (fun v11 v73 => ∃ (k : Nat), v73 = .int .i64 k ∧ k ≤ r.size ∧ v11 = .int .i64 (chkRow r i k C)) (fun _ k => r.size - (intOf k).toNat)
          case atStart => exact ⟨0, rfl, by omega, rfl⟩
          case round =>
            obtain ⟨k, rfl, hk, rfl⟩ := hrel
            have hrb := chkRow_bd r (i : Int) hi0 (by omega) C k (by omega)
            obtain ⟨D, hD⟩ : ∃ D, chkRow r i k C = D := ⟨_, rfl⟩
            rw [hD] at hrb ⊢
            have HDE := Aside0.mk hD
            have hk2 : (k : Int) ≤ 20000 := by omega
            have HD0 := Aside0.mk (show 0 ≤ D ∧ D ≤ 8000000000000000000 by have h1 := HC0.out; have h2 := hrb.2; omega)
            clear hrb hD
            by_cases hkt : k < r.size
            · obtain ⟨b, hb⟩ : ∃ b, bt r (k : Int) = b := ⟨_, rfl⟩
              have hbb := bt_range r (k : Int)
              rw [hb] at hbb
              have hstep := chkStep_bd b (k : Int) (i : Int) hbb.1 hbb.2 (by omega) (by omega) hi0 (by omega)
              have hbe : ((r[k]'hkt).toNat : Int) = b := by have h1 := bt_at r (k : Int) (by simpa using hkt); rw [← hb, ← h1]; rfl
              have HNY := Aside0.mk (show chkRow r i (k + 1) C = D + b * ((k : Int) + 1) * ((i : Int) + 1) by show chkRow r i k C + bt r (k : Int) * ((k : Int) + 1) * ((i : Int) + 1) = _; rw [HDE.out, hb])
              have hb0 := hbb.1
              have hb1 := hbb.2
              have p1 : 0 ≤ b * ((k : Int) + 1) := hstep.1.1
              have p2 : b * ((k : Int) + 1) ≤ 7650255 := hstep.1.2
              have p3 : 0 ≤ b * ((k : Int) + 1) * ((i : Int) + 1) := hstep.2.1
              have p4 : b * ((k : Int) + 1) * ((i : Int) + 1) ≤ 7657905255 := hstep.2.2
              have d1 : 0 ≤ D := HD0.out.1
              have d2 : D ≤ 8000000000000000000 := HD0.out.2
              have hkb : decide ((k : Int) < (r.size : Int)) = true := decide_eq_true (by omega)
              have hk0 : (0 : Int) ≤ (k : Int) := by omega
              have hk1 : (k : Int) < (r.size : Int) := by omega
              clear hb hbb hstep
              go_wp2
              go_round
              case rel => exact ⟨k + 1, by go_num, by omega, by rw [HNY.out]⟩
              case measure => simp [intOf]; omega
            · have hke : k = r.size := by omega
              subst hke
              go_wp2
              go_round
              case rel => exact ⟨i + 1, by go_num, by omega, by rw [HNX.out, HDE.out]⟩
              case measure => simp [intOf]; omega
        · have hie : i = RS.length := by omega
          subst hie
          have q1 : Int.tmod C 103 = C % 103 := Int.tmod_eq_emod_of_nonneg HC0.out.1
          obtain ⟨K, hK⟩ : ∃ K, C % 103 = K := ⟨_, rfl⟩
          have hK0 : 0 ≤ K := by omega
          have hK1 : K ≤ 102 := by omega
          have HKK := Aside0.mk (show checkOf RS = K by unfold checkOf; rw [HCE.out]; exact hK)
          have hC0 := HC0.out.1
          have hC1 := HC0.out.2
          have k1 : Int.tdiv K 100 = K / 100 := Int.tdiv_eq_ediv_of_nonneg hK0
          have k2 : Int.tdiv K 10 = K / 10 := Int.tdiv_eq_ediv_of_nonneg hK0
          obtain ⟨s1, hs1⟩ : ∃ s : ByteArray, ⟨(Lib.itoa (K / 100)).toArray⟩ = s := ⟨_, rfl⟩
          obtain ⟨s2, hs2⟩ : ∃ s : ByteArray, ⟨(Lib.itoa (K / 10 % 10)).toArray⟩ = s := ⟨_, rfl⟩
          obtain ⟨s3, hs3⟩ : ∃ s : ByteArray, ⟨(Lib.itoa (K % 10)).toArray⟩ = s := ⟨_, rfl⟩
          have z1 : s1.size ≤ 21 := by rw [← hs1]; show (Lib.itoa _).toArray.size ≤ 21; rw [List.size_toArray]; exact Lib.itoa_length_le _ (by omega) (by omega)
          have z2 : s2.size ≤ 21 := by rw [← hs2]; show (Lib.itoa _).toArray.size ≤ 21; rw [List.size_toArray]; exact Lib.itoa_length_le _ (by omega) (by omega)
          have z3 : s3.size ≤ 21 := by rw [← hs3]; show (Lib.itoa _).toArray.size ≤ 21; rw [List.size_toArray]; exact Lib.itoa_length_le _ (by omega) (by omega)
          have HS1 := Aside0.mk hs1
          have HS2 := Aside0.mk hs2
          have HS3 := Aside0.mk hs3
          have HEB := Aside0.mk (show endB K = (({ data := #[101, 110, 100, 32] } : ByteArray) ++ s1) ++ s2 ++ s3 by unfold endB; rw [hs1, hs2, hs3])
          have HKB := Aside0.mk (show 0 ≤ K ∧ K ≤ 102 from ⟨hK0, hK1⟩)
          have HZE := Aside0.mk (show ((({ data := #[101, 110, 100, 32] } : ByteArray) ++ s1) ++ s2 ++ s3).size ≤ 70 by simp only [ByteArray.size_append]; have : ({ data := #[101, 110, 100, 32] } : ByteArray).size = 4 := rfl; omega)
          obtain ⟨J, hJ⟩ : ∃ J : ByteArray, (⟨(Lib.join ((RS ++ [endB K]).map (·.data.toList)) ({ data := #[10] } : ByteArray).data.toList).toArray⟩ : ByteArray) = J := ⟨_, rfl⟩
          have zJ : J.size ≤ 140737488355328 := by rw [← hJ]; exact join_sz RS (endB K) (fun r hr => HSZ.out r hr) HRL.out (by rw [HEB.out]; exact Nat.le_trans HZE.out (by omega))
          have HJ := Aside0.mk hJ
          clear hs1 hs2 hs3 hJ
          go_wp2_with (first
            | (go_at_call 107; (with_reducible refine (itoa_b (K / 100) (by have := HKB.out; omega) (by have := HKB.out; omega) w _ HT.out HB.out).mono ?_); rintro e wi1 ⟨rfl, hb⟩; rw [HS1.out]; have n0_ := Aside0.mk (below_thenN HB.out hb); have n1_ := Aside0.mk (Kd.R_below HOs.out hb); clear HB HOs; have HB := n0_; have HOs := n1_; clear n0_ n1_ hb)
            | (go_at_call 107; (with_reducible refine (itoa_b (K / 10 % 10) (by have := HKB.out; omega) (by have := HKB.out; omega) w _ HT.out HB.out).mono ?_); rintro e wi2 ⟨rfl, hb⟩; rw [HS2.out]; have n0_ := Aside0.mk (below_thenN HB.out hb); have n1_ := Aside0.mk (Kd.R_below HOs.out hb); clear HB HOs; have HB := n0_; have HOs := n1_; clear n0_ n1_ hb)
            | (go_at_call 107; (with_reducible refine (itoa_b (K % 10) (by have := HKB.out; omega) (by have := HKB.out; omega) w _ HT.out HB.out).mono ?_); rintro e wi3 ⟨rfl, hb⟩; rw [HS3.out]; have n0_ := Aside0.mk (below_thenN HB.out hb); have n1_ := Aside0.mk (Kd.R_below HOs.out hb); clear HB HOs; have HB := n0_; have HOs := n1_; clear n0_ n1_ hb)
            | ((with_reducible refine gate_builtin (b := .append) (xs := #[.tmp 92, .tmp 106]) rfl ?_); at_builtin; refine Kd.R_append Kd.string (w0 := w) w.heap.size rfl (.tmp 92) (.tmp 106) 137 9 (.string ⟨#[]⟩) 16 rfl Tryz.underlying137 infoS rfl (by decide) (by omega) _ RS ((({ data := #[101, 110, 100, 32] } : ByteArray) ++ s1) ++ s2 ++ s3) [.string ((({ data := #[101, 110, 100, 32] } : ByteArray) ++ s1) ++ s2 ++ s3)] (fun _ => True) (fun _ => False) rfl rfl ?aP (fun _ hk => hk.elim) ?aF ?aO ?aB ?aS ?aL ?_; (case aP => exact rfl); (case aF => exact fun _ _ => trivial); (case aO => exact HOs.out); (case aB => exact HB.out); (case aS => exact HB.out.size); (case aL => have := HRL.out; omega); intro v1 w6 ho hb hg _hat; (rw [← HEB.out] at ho); clear HB HOs; have HB := Aside0.mk hb; obtain ⟨gj, cj, ej, _, hltj, _⟩ := Kd.R_form ho (by simp); (rw [ej] at ho); have HOs := Aside0.mk ho; have HLJ := Aside0.mk hltj; subst ej; clear ho hb hg _hat hltj)
            | (go_at_call 108; (with_reducible refine (join_n gj cj (RS.length + 1) (RS ++ [endB K]) ({ data := #[10] } : ByteArray) _ (by simp) (cells_of_R HOs.out) HLJ.out ?j1 (Kd.R_reads' HOs.out).2.1 ?j2).mono ?_); (case j1 => have := HRL.out; simp; omega); (case j2 => exact join_bd RS (endB K) (fun r hr => HSZ.out r hr) HRL.out (by rw [HEB.out]; exact Nat.le_trans HZE.out (by omega))); rintro e w7 ⟨rfl, hb⟩; have n0_ := Aside0.mk (below_thenN HB.out hb); clear HB HOs; have HB := n0_; clear n0_ hb; rw [HJ.out]))
          go_ret
          exact ⟨by rw [show textB ep cs m0 m1 m2 l = J ++ ({ data := #[10] } : ByteArray) by unfold textB; rw [HRS.out, HKK.out, ← HJ.out]; rfl]; first | done | rfl, HB.out⟩
end Go.Proofs.YtnllidgonghckaaGreatDoor.X
namespace Go.Proofs.YtnllidgonghckaaGreatDoor.X
open Go.RowKit Go.Proofs.YtnllidgonghckaaGreatDoorW.PrintWords Go.Proofs.YtnllidgonghckaaGreatDoorW.PrintLast Go.Proofs.YtnllidgonghckaaGreatDoorW.PrintMore Go.Proofs.YtnllidgonghckaaGreatDoor.Dm
set_option linter.unusedVariables false
set_option linter.unusedSimpArgs false
attribute [local go_sem] max2_int min2_int max_two min_two max_three min_three max_four min_four
theorem numsOk_of {ep : Int} {cs : List Int} {m0 m1 m2 : Int} {l : List S74} (hcal : calB ep cs = true) (hmn : moonB m0 m1 m2 = true) (hfs : areFactsB l = true) : numsOk ep cs m0 m1 m2 l := by
  have hc := calB_iff hcal
  have hm := moonB_iff hmn
  have hk := areFactsB_kind hfs
  simp only [areFactsB, Bool.and_eq_true, decide_eq_true_eq, List.all_eq_true] at hfs
  refine ⟨by omega, fun n hn => by have := hc.2.2.2.2 n hn; omega, by omega, by omega, by omega, by omega, by omega, fun x hx => ?_⟩
  have h1 := hk x hx
  have h2 := hfs.2 x hx
  simp only [factB, Bool.and_eq_true] at h2
  obtain ⟨h3, h4⟩ := h2
  have h5 : loOf x.f0 ≤ x.f3 ∧ x.f3 ≤ hiOf x.f0 := by simpa [inB] using h4
  have h6 : 0 ≤ loOf x.f0 ∧ hiOf x.f0 ≤ 366 := by unfold loOf hiOf; constructor <;> (repeat' split) <;> omega
  have h7 : (-1000000000 ≤ x.f1 ∧ x.f1 ≤ 1000000000) ∧ (-1000000000 ≤ x.f2 ∧ x.f2 ≤ 1000000000) := by
    unfold kindOk at h3
    split at h3
    · simp only [inB, Bool.and_eq_true, decide_eq_true_eq] at h3; omega
    · split at h3
      · simp only [Bool.and_eq_true, beq_iff_eq] at h3; omega
      · cases h3
  exact ⟨h1, h7.1, h7.2, by omega⟩
set_option maxHeartbeats 8000000 in
set_option maxRecDepth 100000 in
theorem Print_good (ep : Int) (A : Option Addr) (c : Nat) (cs : List Int) (m0 m1 m2 : Int) (Af : Option Addr) (cf : Nat) (l : List S74) (w : World) (ht : Tab w) (hr : Kd.C (Kd.int .i64) w A cs.length cs) (hc : cs.length ≤ c) (hrf : Kd.C k74 w Af l.length l) (hcf : l.length ≤ cf) (hcal : calB ep cs = true) (hmn : moonB m0 m1 m2 = true) (hfs : areFactsB l = true) :
    Calls Tryz.prog 44 #[.agg #[.int .i64 ep, .slice A cs.length c], .agg #[.int .i64 m0, .int .i64 m1, .int .i64 m2], .slice Af l.length cf] w fun e w' => e = .returned (.tuple #[.string (textB ep cs m0 m1 m2 l), .int .i64 0]) ∧ Below w.heap.size w w' := by
  have HNO := Aside0.mk (numsOk_of hcal hmn hfs)
  obtain ⟨T, hT⟩ : ∃ T, textB ep cs m0 m1 m2 l = T := ⟨_, rfl⟩
  have HTX := Aside0.mk hT
  clear hT
  have hu24 := Tryz.underlying24
  have hu45 := Tryz.underlying45
  have HB := Aside0.mk (Below.refl w.heap.size w)
  have HT := Aside0.mk ht
  have HR := Aside0.mk hr
  have HC := Aside0.mk hc
  have HRF := Aside0.mk hrf
  have HCF := Aside0.mk hcf
  clear ht hr hc hrf hcf
  have HCAL := Aside0.mk hcal
  clear hcal
  have HMN := Aside0.mk hmn
  clear hmn
  have HFS := Aside0.mk hfs
  clear hfs
  go_enter Tryz.func44, Tryz.ntmps44
  go_wp2_with (first
    | ((with_reducible refine zG 3 rfl ?_); refine zBox 3 #[.int .i64 ep, .slice A cs.length c] 24 ?_; intro g1 hg w1 hbox hb; have GEg1 := zge hg HB; replace HB := zW HB hb; have BKg1 := Aside0.mk hbox; clear hb hbox hg; have z1_g10 := zC BKg1)
    | ((with_reducible refine zG 4 rfl ?_); refine zBox 4 #[.int .i64 m0, .int .i64 m1, .int .i64 m2] 45 ?_; intro g2 hg w2 hbox hb; have GEg2 := zge hg HB; have NEg1_g2 := zne hg BKg1; replace HB := zW HB hb; replace BKg1 := zb BKg1 hb; have BKg2 := Aside0.mk hbox; clear hb hbox hg; (try clear z1_g10); have z2_g10 := zC BKg1; have z2_g20 := zC BKg2)
    | (go_at_call 46; (with_reducible refine (isCal_l ep A c cs true HCAL.out w _ HR.out HC.out HB.out).mono ?_); rintro e w3 ⟨rfl, hb⟩; replace HB := zW HB hb; replace BKg1 := zb BKg1 hb; replace BKg2 := zb BKg2 hb; clear hb; (try clear z2_g10 z2_g20); have z3_g10 := zC BKg1; have z3_g20 := zC BKg2)
    | (go_at_call 58; (with_reducible refine (isMoon_l m0 m1 m2 true HMN.out _).mono ?_); rintro e w4 ⟨rfl, hb⟩; replace HB := zW HB hb; replace BKg1 := zb BKg1 hb; replace BKg2 := zb BKg2 hb; clear hb; (try clear z3_g10 z3_g20); have z4_g10 := zC BKg1; have z4_g20 := zC BKg2)
    | (go_at_call 76; (with_reducible refine (areFacts_l Af cf l true HFS.out w _ HRF.out HCF.out HB.out).mono ?_); rintro e w5 ⟨rfl, hb⟩; replace HB := zW HB hb; replace BKg1 := zb BKg1 hb; replace BKg2 := zb BKg2 hb; clear hb; (try clear z4_g10 z4_g20); have z5_g10 := zC BKg1; have z5_g20 := zC BKg2)
    | (go_at_call 83; (with_reducible refine (text_b ep A c cs m0 m1 m2 Af cf l _ (HT.out.below HB.out) (Kd.C_below HR.out HB.out) HC.out (Kd.C_below HRF.out HB.out) HCF.out HNO.out).mono ?_); rintro e w6 ⟨rfl, hb⟩; rw [HTX.out]; replace HB := zW HB hb; replace BKg1 := zb BKg1 hb; replace BKg2 := zb BKg2 hb; clear hb))
  go_ret2
  exact ⟨by rw [HTX.out]; first | done | rfl, HB.out⟩
end Go.Proofs.YtnllidgonghckaaGreatDoor.X
namespace Go.Proofs.YtnllidgonghckaaGreatDoor.X
open Go.RowKit Go.Proofs.YtnllidgonghckaaGreatDoorW.PrintWords Go.Proofs.YtnllidgonghckaaGreatDoorW.PrintLast Go.Proofs.YtnllidgonghckaaGreatDoorW.PrintMore Go.Proofs.YtnllidgonghckaaGreatDoor.Dm
set_option linter.unusedVariables false
set_option linter.unusedSimpArgs false
attribute [local go_sem] max2_int min2_int max_two min_two max_three min_three max_four min_four
inductive DialV where
  | plain (d : Int)
  | annual (d m : Int)
  | leaps (d m y : Int)
def DialV.val : DialV → Value
  | .plain d => .iface 126 (.agg #[.int .i64 d])
  | .annual d m => .iface 128 (.agg #[.int .i64 d, .int .i64 m])
  | .leaps d m y => .iface 130 (.agg #[.int .i64 d, .int .i64 m, .int .i64 y])
def DialV.raw : DialV → Value
  | .plain d => .agg #[.int .i64 d]
  | .annual d m => .agg #[.int .i64 d, .int .i64 m]
  | .leaps d m y => .agg #[.int .i64 d, .int .i64 m, .int .i64 y]
def DialV.set : DialV → Int → Int → Int → DialV
  | .plain _, _, _, d => .plain d
  | .annual _ _, _, m, d => .annual d m
  | .leaps _ _ _, y, m, d => .leaps d m y
def DialV.next : DialV → DialV
  | .plain d => .plain (d % 31 + 1)
  | .annual d m => if d < rd (mlist true) (m - 1) then .annual (d + 1) m else .annual 1 (m % 12 + 1)
  | .leaps d m y => if d < rd (mlist (decide (y % 4 = 0))) (m - 1) then .leaps (d + 1) m y else .leaps 1 (m % 12 + 1) (y + m / 12)
def DialV.shown : DialV → Int
  | .plain d => d
  | .annual d _ => d
  | .leaps d _ _ => d
def DialV.ok (k : Int) : DialV → Prop
  | .plain d => 0 ≤ d ∧ d ≤ 31
  | .annual d m => 0 ≤ d ∧ d ≤ 31 ∧ 1 ≤ m ∧ m ≤ 12
  | .leaps d m y => 0 ≤ d ∧ d ≤ 31 ∧ 1 ≤ m ∧ m ≤ 12 ∧ 0 ≤ y ∧ y ≤ 4000 + k
def DialV.setF : DialV → FuncId
  | .plain _ => 151
  | .annual _ _ => 153
  | .leaps _ _ _ => 155
def DialV.nextF : DialV → FuncId
  | .plain _ => 150
  | .annual _ _ => 152
  | .leaps _ _ _ => 154
theorem DialV.set_enters (D : DialV) (x : Value) (w : World) : (callMethod D.val "tellurion/dial.set" #[x]).run Tryz.prog w = .ok (.enter D.setF #[D.raw, x]) w := by
  cases D <;> kernel_rfl
theorem DialV.next_enters (D : DialV) (w : World) : (callMethod D.val "tellurion/dial.next" #[]).run Tryz.prog w = .ok (.enter D.nextF #[D.raw]) w := by
  cases D <;> kernel_rfl
set_option maxHeartbeats 8000000 in
set_option maxRecDepth 100000 in
theorem set_plain (d y' m' d' : Int) (W : World) : Calls Tryz.prog 151 #[.agg #[.int .i64 d], .agg #[.int .i64 y', .int .i64 m', .int .i64 d']] W fun e w' => e = .returned (.iface 126 (.agg #[.int .i64 d'])) ∧ Below W.heap.size W w' := by
  have hu0 := Tryz.underlying126
  have hu1 := Tryz.underlying128
  have hu2 := Tryz.underlying130
  have hu3 := Tryz.underlying38
  have hu4 := Tryz.underlying95
  have HW := Aside0.mk (Below.refl W.heap.size W)
  go_enter Tryz.func151, Tryz.ntmps151
  go_wp2_with (first
    | ((with_reducible refine zG 2 rfl ?_); refine zBox 2 #[.int .i64 d] 126 ?_; intro g1 hg w1 hbox hb; have GEg1 := zge hg HW; replace HW := zW HW hb; have BKg1 := Aside0.mk hbox; clear hb hbox hg; have z1_g10 : w1.cell? ⟨g1, 0, none⟩ = some (.int .i64 d) := zx BKg1 0)
    | ((with_reducible refine zG 3 rfl ?_); refine zBox 3 #[.int .i64 y', .int .i64 m', .int .i64 d'] 38 ?_; intro g2 hg w2 hbox hb; have GEg2 := zge hg HW; have NEg1_g2 := zne hg BKg1; replace HW := zW HW hb; replace BKg1 := zb BKg1 hb; have BKg2 := Aside0.mk hbox; clear hb hbox hg; (try clear z1_g10); have z2_g10 : w2.cell? ⟨g1, 0, none⟩ = some (.int .i64 d) := zx BKg1 0; have z2_g20 := zC BKg2))
  go_ret
  exact ⟨rfl, HW.out⟩
set_option maxHeartbeats 8000000 in
set_option maxRecDepth 100000 in
theorem set_annual (d m y' m' d' : Int) (W : World) : Calls Tryz.prog 153 #[.agg #[.int .i64 d, .int .i64 m], .agg #[.int .i64 y', .int .i64 m', .int .i64 d']] W fun e w' => e = .returned (.iface 128 (.agg #[.int .i64 d', .int .i64 m'])) ∧ Below W.heap.size W w' := by
  have hu0 := Tryz.underlying126
  have hu1 := Tryz.underlying128
  have hu2 := Tryz.underlying130
  have hu3 := Tryz.underlying38
  have hu4 := Tryz.underlying95
  have HW := Aside0.mk (Below.refl W.heap.size W)
  go_enter Tryz.func153, Tryz.ntmps153
  go_wp2_with (first
    | ((with_reducible refine zG 2 rfl ?_); refine zBox 2 #[.int .i64 d, .int .i64 m] 128 ?_; intro g1 hg w1 hbox hb; have GEg1 := zge hg HW; replace HW := zW HW hb; have BKg1 := Aside0.mk hbox; clear hb hbox hg; have z1_g10 := zC BKg1)
    | ((with_reducible refine zG 3 rfl ?_); refine zBox 3 #[.int .i64 y', .int .i64 m', .int .i64 d'] 38 ?_; intro g2 hg w2 hbox hb; have GEg2 := zge hg HW; have NEg1_g2 := zne hg BKg1; replace HW := zW HW hb; replace BKg1 := zb BKg1 hb; have BKg2 := Aside0.mk hbox; clear hb hbox hg; (try clear z1_g10); have z2_g10 := zC BKg1; have z2_g20 := zC BKg2))
  go_ret
  exact ⟨rfl, HW.out⟩
set_option maxHeartbeats 8000000 in
set_option maxRecDepth 100000 in
theorem set_leaps (d m y y' m' d' : Int) (W : World) : Calls Tryz.prog 155 #[.agg #[.int .i64 d, .int .i64 m, .int .i64 y], .agg #[.int .i64 y', .int .i64 m', .int .i64 d']] W fun e w' => e = .returned (.iface 130 (.agg #[.int .i64 d', .int .i64 m', .int .i64 y'])) ∧ Below W.heap.size W w' := by
  have hu0 := Tryz.underlying126
  have hu1 := Tryz.underlying128
  have hu2 := Tryz.underlying130
  have hu3 := Tryz.underlying38
  have hu4 := Tryz.underlying95
  have HW := Aside0.mk (Below.refl W.heap.size W)
  go_enter Tryz.func155, Tryz.ntmps155
  go_wp2_with (first
    | ((with_reducible refine zG 2 rfl ?_); refine zBox 2 #[.int .i64 d, .int .i64 m, .int .i64 y] 130 ?_; intro g1 hg w1 hbox hb; have GEg1 := zge hg HW; replace HW := zW HW hb; have BKg1 := Aside0.mk hbox; clear hb hbox hg; have z1_g10 := zC BKg1)
    | ((with_reducible refine zG 3 rfl ?_); refine zBox 3 #[.int .i64 y', .int .i64 m', .int .i64 d'] 38 ?_; intro g2 hg w2 hbox hb; have GEg2 := zge hg HW; have NEg1_g2 := zne hg BKg1; replace HW := zW HW hb; replace BKg1 := zb BKg1 hb; have BKg2 := Aside0.mk hbox; clear hb hbox hg; (try clear z1_g10); have z2_g10 := zC BKg1; have z2_g20 := zC BKg2))
  go_ret
  exact ⟨rfl, HW.out⟩
set_option maxHeartbeats 8000000 in
set_option maxRecDepth 100000 in
theorem shown_plain (d : Int) (W : World) : Calls Tryz.prog 75 #[.iface 126 (.agg #[.int .i64 d])] W fun e w' => e = .returned (.int .i64 d) ∧ Below W.heap.size W w' := by
  have hu0 := Tryz.underlying126
  have hu1 := Tryz.underlying128
  have hu2 := Tryz.underlying130
  have hu3 := Tryz.underlying38
  have hu4 := Tryz.underlying95
  have hta0 : ∀ w, (Instr.typeAssert (.iface 126 (.agg #[.int .i64 d])) 95 126 true).run Tryz.prog w = .ok (.tuple #[.agg #[.int .i64 d], .bool true]) w := fun w => by kernel_rfl
  have HW := Aside0.mk (Below.refl W.heap.size W)
  go_enter Tryz.func75, Tryz.ntmps75
  go_wp2_with (first
    | ((with_reducible refine zG 3 rfl ?_); refine zBox 3 #[.int .i64 0] 126 ?_; intro g1 hg w1 hbox hb; have GEg1 := zge hg HW; replace HW := zW HW hb; have BKg1 := Aside0.mk hbox; clear hb hbox hg; have z1_g10 := zC BKg1; have z1_g10f := zF BKg1)
    | ((with_reducible refine zH 126 3 rfl ?_); refine zSto 126 3 #[.int .i64 d] BKg1 ?_; intro w2 hw; replace HW := zWS hw GEg1 HW; replace BKg1 := znew hw BKg1; clear hw; (try clear z1_g10 z1_g10f); have z2_g10 : w2.cell? ⟨g1, 0, none⟩ = some (.int .i64 d) := zx BKg1 0))
  go_ret
  exact ⟨rfl, HW.out⟩
set_option maxHeartbeats 8000000 in
set_option maxRecDepth 100000 in
theorem shown_annual (d m : Int) (W : World) : Calls Tryz.prog 75 #[.iface 128 (.agg #[.int .i64 d, .int .i64 m])] W fun e w' => e = .returned (.int .i64 d) ∧ Below W.heap.size W w' := by
  have hu0 := Tryz.underlying126
  have hu1 := Tryz.underlying128
  have hu2 := Tryz.underlying130
  have hu3 := Tryz.underlying38
  have hu4 := Tryz.underlying95
  have hta0 : ∀ w, (Instr.typeAssert (.iface 128 (.agg #[.int .i64 d, .int .i64 m])) 95 126 true).run Tryz.prog w = .ok (.tuple #[.agg #[.int .i64 0], .bool false]) w := fun w => by kernel_rfl
  have hta1 : ∀ w, (Instr.typeAssert (.iface 128 (.agg #[.int .i64 d, .int .i64 m])) 95 128 true).run Tryz.prog w = .ok (.tuple #[.agg #[.int .i64 d, .int .i64 m], .bool true]) w := fun w => by kernel_rfl
  have HW := Aside0.mk (Below.refl W.heap.size W)
  go_enter Tryz.func75, Tryz.ntmps75
  go_wp2_with (first
    | ((with_reducible refine zG 4 rfl ?_); refine zBox 4 #[.int .i64 0, .int .i64 0] 128 ?_; intro g1 hg w1 hbox hb; have GEg1 := zge hg HW; replace HW := zW HW hb; have BKg1 := Aside0.mk hbox; clear hb hbox hg; have z1_g10 := zC BKg1; have z1_g10f := zF BKg1)
    | ((with_reducible refine zH 128 4 rfl ?_); refine zSto 128 4 #[.int .i64 d, .int .i64 m] BKg1 ?_; intro w2 hw; replace HW := zWS hw GEg1 HW; replace BKg1 := znew hw BKg1; clear hw; (try clear z1_g10 z1_g10f); have z2_g10 := zC BKg1))
  go_ret
  exact ⟨rfl, HW.out⟩
set_option maxHeartbeats 8000000 in
set_option maxRecDepth 100000 in
theorem shown_leaps (d m y : Int) (W : World) : Calls Tryz.prog 75 #[.iface 130 (.agg #[.int .i64 d, .int .i64 m, .int .i64 y])] W fun e w' => e = .returned (.int .i64 d) ∧ Below W.heap.size W w' := by
  have hu0 := Tryz.underlying126
  have hu1 := Tryz.underlying128
  have hu2 := Tryz.underlying130
  have hu3 := Tryz.underlying38
  have hu4 := Tryz.underlying95
  have hta0 : ∀ w, (Instr.typeAssert (.iface 130 (.agg #[.int .i64 d, .int .i64 m, .int .i64 y])) 95 126 true).run Tryz.prog w = .ok (.tuple #[.agg #[.int .i64 0], .bool false]) w := fun w => by kernel_rfl
  have hta1 : ∀ w, (Instr.typeAssert (.iface 130 (.agg #[.int .i64 d, .int .i64 m, .int .i64 y])) 95 128 true).run Tryz.prog w = .ok (.tuple #[.agg #[.int .i64 0, .int .i64 0], .bool false]) w := fun w => by kernel_rfl
  have hta2 : ∀ w, (Instr.typeAssert (.iface 130 (.agg #[.int .i64 d, .int .i64 m, .int .i64 y])) 95 130 true).run Tryz.prog w = .ok (.tuple #[.agg #[.int .i64 d, .int .i64 m, .int .i64 y], .bool true]) w := fun w => by kernel_rfl
  have HW := Aside0.mk (Below.refl W.heap.size W)
  go_enter Tryz.func75, Tryz.ntmps75
  go_wp2_with (first
    | ((with_reducible refine zG 5 rfl ?_); refine zBox 5 #[.int .i64 0, .int .i64 0, .int .i64 0] 130 ?_; intro g1 hg w1 hbox hb; have GEg1 := zge hg HW; replace HW := zW HW hb; have BKg1 := Aside0.mk hbox; clear hb hbox hg; have z1_g10 := zC BKg1; have z1_g10f := zF BKg1)
    | ((with_reducible refine zH 130 5 rfl ?_); refine zSto 130 5 #[.int .i64 d, .int .i64 m, .int .i64 y] BKg1 ?_; intro w2 hw; replace HW := zWS hw GEg1 HW; replace BKg1 := znew hw BKg1; clear hw; (try clear z1_g10 z1_g10f); have z2_g10 := zC BKg1))
  go_ret
  exact ⟨rfl, HW.out⟩
set_option maxHeartbeats 8000000 in
set_option maxRecDepth 100000 in
theorem dialOf_plain (W : World) : Calls Tryz.prog 72 #[.int .i64 1] W fun e w' => e = .returned (.tuple #[.iface 126 (.agg #[.int .i64 0]), .bool true]) ∧ w' = W := by
  have hb : ∀ w, (Instr.build 126 #[]).run Tryz.prog w = .ok (.agg #[.int .i64 0]) w := fun w => by kernel_rfl
  have hu0 := Tryz.underlying126
  have hu1 := Tryz.underlying128
  have hu2 := Tryz.underlying130
  have hu3 := Tryz.underlying38
  have hu4 := Tryz.underlying95
  go_enter Tryz.func72, Tryz.ntmps72
  go_wp2
  go_ret2
  exact ⟨rfl, rfl⟩
set_option maxHeartbeats 8000000 in
set_option maxRecDepth 100000 in
theorem dialOf_annual (W : World) : Calls Tryz.prog 72 #[.int .i64 2] W fun e w' => e = .returned (.tuple #[.iface 128 (.agg #[.int .i64 0, .int .i64 0]), .bool true]) ∧ w' = W := by
  have hb : ∀ w, (Instr.build 128 #[]).run Tryz.prog w = .ok (.agg #[.int .i64 0, .int .i64 0]) w := fun w => by kernel_rfl
  have hu0 := Tryz.underlying126
  have hu1 := Tryz.underlying128
  have hu2 := Tryz.underlying130
  have hu3 := Tryz.underlying38
  have hu4 := Tryz.underlying95
  go_enter Tryz.func72, Tryz.ntmps72
  go_wp2
  go_ret2
  exact ⟨rfl, rfl⟩
set_option maxHeartbeats 8000000 in
set_option maxRecDepth 100000 in
theorem dialOf_leaps (W : World) : Calls Tryz.prog 72 #[.int .i64 3] W fun e w' => e = .returned (.tuple #[.iface 130 (.agg #[.int .i64 0, .int .i64 0, .int .i64 0]), .bool true]) ∧ w' = W := by
  have hb : ∀ w, (Instr.build 130 #[]).run Tryz.prog w = .ok (.agg #[.int .i64 0, .int .i64 0, .int .i64 0]) w := fun w => by kernel_rfl
  have hu0 := Tryz.underlying126
  have hu1 := Tryz.underlying128
  have hu2 := Tryz.underlying130
  have hu3 := Tryz.underlying38
  have hu4 := Tryz.underlying95
  go_enter Tryz.func72, Tryz.ntmps72
  go_wp2
  go_ret2
  exact ⟨rfl, rfl⟩
set_option maxHeartbeats 8000000 in
set_option maxRecDepth 100000 in
theorem next_plain (d : Int) (h0 : 0 ≤ d ∧ d ≤ 31) (W : World) : Calls Tryz.prog 150 #[.agg #[.int .i64 d]] W fun e w' => e = .returned (.iface 126 (.agg #[.int .i64 (d % 31 + 1)])) ∧ Below W.heap.size W w' := by
  have hu0 := Tryz.underlying126
  have hu1 := Tryz.underlying128
  have hu2 := Tryz.underlying130
  have hu3 := Tryz.underlying38
  have hu4 := Tryz.underlying95
  have g1_ : Int.tmod d 31 = d % 31 := Int.tmod_eq_emod_of_nonneg h0.1
  have g2_ : IntKind.i64.wrap (d % 31) = d % 31 := (i64_w _).trans (wrap_of _ (by omega) (by omega))
  have g3_ : IntKind.i64.wrap (d % 31 + 1) = d % 31 + 1 := (i64_w _).trans (wrap_of _ (by omega) (by omega))
  clear h0
  have HW := Aside0.mk (Below.refl W.heap.size W)
  go_enter Tryz.func150, Tryz.ntmps150
  go_wp2_with (first
    | ((with_reducible refine zG 1 rfl ?_); refine zBox 1 #[.int .i64 d] 126 ?_; intro g1 hg w1 hbox hb; have GEg1 := zge hg HW; replace HW := zW HW hb; have BKg1 := Aside0.mk hbox; clear hb hbox hg; have z1_g10 : w1.cell? ⟨g1, 0, none⟩ = some (.int .i64 d) := zx BKg1 0))
  go_ret
  exact ⟨rfl, HW.out⟩
def Nxa1.T : Bool × List (List Nat × List Nat) := (true, [([], []), ([0], [0]), ([], []), ([], []), ([3], [3]), ([4], [4]), ([2, 5], [2, 5]), ([6], [6]), ([1, 7], [1, 7])])
def Nxa1.B : List Nat := [0, 1, 0, 0, 8, 24, 60, 124, 255]
theorem Nxa1.tab : rtab .any (opsOf Tryz.f152 1) = Nxa1.T := by kernel_rfl
theorem Nxa1.bits : waitsOk Nxa1.T.2 Nxa1.B = true := by kernel_rfl
def Nxl1.T : Bool × List (List Nat × List Nat) := (true, [([], []), ([0], [0]), ([], []), ([2], [2]), ([3], [3]), ([4], [4]), ([5], [5]), ([], []), ([7], [7]), ([8], [8]), ([6, 9], [6, 9]), ([10], [10]), ([1, 11], [1, 11])])
def Nxl1.B : List Nat := [0, 1, 0, 4, 12, 28, 60, 0, 128, 384, 1020, 2044, 4095]
theorem Nxl1.tab : rtab .any (opsOf Tryz.f154 1) = Nxl1.T := by kernel_rfl
theorem Nxl1.bits : waitsOk Nxl1.T.2 Nxl1.B = true := by kernel_rfl
set_option maxHeartbeats 8000000 in
set_option maxRecDepth 100000 in
theorem next_annual_stay (d m : Int) (h0 : 0 ≤ d ∧ d ≤ 31 ∧ 1 ≤ m ∧ m ≤ 12) (hx : d < rd (mlist true) (m - 1)) (W : World) : Calls Tryz.prog 152 #[.agg #[.int .i64 d, .int .i64 m]] W fun e w' => e = .returned (.iface 128 (.agg #[.int .i64 (d + 1), .int .i64 m])) ∧ Below W.heap.size W w' := by
  have hu0 := Tryz.underlying126
  have hu1 := Tryz.underlying128
  have hu2 := Tryz.underlying130
  have hu3 := Tryz.underlying38
  have hu4 := Tryz.underlying95
  obtain ⟨ix, hix⟩ : ∃ ix, m - 1 = ix := ⟨_, rfl⟩
  rw [hix] at hx
  obtain ⟨X, hX⟩ : ∃ X, rd (mlist true) ix = X := ⟨_, rfl⟩
  rw [hX] at hx
  have HX := Aside0.mk hX
  have HM := Aside0.mk (show 0 ≤ ix ∧ ix < 12 by omega)
  have w1_ : IntKind.i64.wrap (m - 1) = ix := ((i64_w _).trans (wrap_of _ (by omega) (by omega))).trans hix
  have w2_ : wrap64 (m - 1) = ix := (wrap_of _ (by omega) (by omega)).trans hix
  have w3_ : wrap64 ix = ix := wrap_of _ (by omega) (by omega)
  have q1 : decide (d < X) = true := decide_eq_true hx
  have g3_ : IntKind.i64.wrap (d + 1) = d + 1 := (i64_w _).trans (wrap_of _ (by omega) (by omega))
  have g3w : wrap64 (d + 1) = d + 1 := wrap_of _ (by omega) (by omega)
  clear h0 hx hX hix
  have HW := Aside0.mk (Below.refl W.heap.size W)
  go_enter Tryz.func152, Tryz.ntmps152
  go_upto_region 1 with (first
    | ((with_reducible refine zG 1 rfl ?_); refine zBox 1 #[.int .i64 d, .int .i64 m] 128 ?_; intro g1 hg w1 hbox hb; have GEg1 := zge hg HW; replace HW := zW HW hb; have BKg1 := Aside0.mk hbox; clear hb hbox hg; have z1_g10 := zC BKg1))
  replace HW := zWD HW
  replace BKg1 := zbD BKg1
  refine zStart 9 (fun w' => zCells w' g1 0 [.int .i64 d, .int .i64 m]) #[false, false, false, false, false, false, false, false, false] Nxa1.tab Nxa1.bits (zS BKg1) (fun hHeld HT_ HW_ => ?_)
  generalize w1.drew = wd at HW BKg1 hHeld ⊢
  refine zP 0 (some 3) HT_ ?_
  refine zP 3 (some 6) HT_ ?_
  refine zT 1 (some 4) HT_ HW_ hHeld ?_
  refine zT 4 (some 7) HT_ HW_ hHeld ?_
  refine zP 5 (some 8) HT_ ?_
  refine zGo 2 (some 5) HT_ Tryz.func85 #[.bool true] ?_
  with_reducible refine (months_b true _).mono ?_
  rintro e wd_1 ⟨ad0, cz, rfl, hC, hb⟩
  replace HW := zW HW hb
  replace BKg1 := zb BKg1 hb
  obtain ⟨ad, e_, hel⟩ := Kd.at_int hC ix HM.out.1 (by have := HM.out.2; omega); cases e_; rw [HX.out] at hel; have HEL := Aside0.mk hel; have p1 := eq_true HM.out.1; have p2 := eq_true HM.out.2; have ho := hC; clear hC hel
  clear ho
  clear hb hHeld
  refine zV (zS BKg1) (fun hHeld => ?_)
  refine zP 6 (some 9) HT_ ?_
  refine one_ (i := 7) (N := some 10) #[true, true, true, true, true, true, true, true, false] rfl rfl (one_of HT_.out (by kernel_rfl)) (by decide) (fun K hK => ?_)
  refine ev_yield (.int .i64 X) (by rfl) rfl ?_ ?_
  · have hel := HEL.out
    go_simp
  refine hK.out _ _ (zS BKg1) (fun hHeld => ?_)
  clear hK K
  refine zN ?_
  refine zP 8 (some 11) HT_ ?_
  refine done_ (done_of HT_.out (by kernel_rfl)) ?_
  have ze0 := (blk_cell BKg1.out 0).trans (show _ = some (.int .i64 d) from rfl)
  have ze1 := (blk_cell BKg1.out 1).trans (show _ = some (.int .i64 m) from rfl)
  try go_wp2
  go_ret
  exact ⟨rfl, HW.out⟩
set_option maxHeartbeats 8000000 in
set_option maxRecDepth 100000 in
theorem next_annual_turn (d m : Int) (h0 : 0 ≤ d ∧ d ≤ 31 ∧ 1 ≤ m ∧ m ≤ 12) (hx : ¬ d < rd (mlist true) (m - 1)) (W : World) : Calls Tryz.prog 152 #[.agg #[.int .i64 d, .int .i64 m]] W fun e w' => e = .returned (.iface 128 (.agg #[.int .i64 1, .int .i64 (m % 12 + 1)])) ∧ Below W.heap.size W w' := by
  have hu0 := Tryz.underlying126
  have hu1 := Tryz.underlying128
  have hu2 := Tryz.underlying130
  have hu3 := Tryz.underlying38
  have hu4 := Tryz.underlying95
  obtain ⟨ix, hix⟩ : ∃ ix, m - 1 = ix := ⟨_, rfl⟩
  rw [hix] at hx
  obtain ⟨X, hX⟩ : ∃ X, rd (mlist true) ix = X := ⟨_, rfl⟩
  rw [hX] at hx
  have HX := Aside0.mk hX
  have HM := Aside0.mk (show 0 ≤ ix ∧ ix < 12 by omega)
  have w1_ : IntKind.i64.wrap (m - 1) = ix := ((i64_w _).trans (wrap_of _ (by omega) (by omega))).trans hix
  have w2_ : wrap64 (m - 1) = ix := (wrap_of _ (by omega) (by omega)).trans hix
  have w3_ : wrap64 ix = ix := wrap_of _ (by omega) (by omega)
  have q1 : decide (d < X) = false := decide_eq_false hx
  have g1_ : Int.tmod m 12 = m % 12 := Int.tmod_eq_emod_of_nonneg (by omega)
  have g2_ : IntKind.i64.wrap (m % 12) = m % 12 := (i64_w _).trans (wrap_of _ (by omega) (by omega))
  have g2w : wrap64 (m % 12) = m % 12 := wrap_of _ (by omega) (by omega)
  have g3_ : IntKind.i64.wrap (m % 12 + 1) = m % 12 + 1 := (i64_w _).trans (wrap_of _ (by omega) (by omega))
  have g3w : wrap64 (m % 12 + 1) = m % 12 + 1 := wrap_of _ (by omega) (by omega)
  clear h0 hx hX hix
  have HW := Aside0.mk (Below.refl W.heap.size W)
  go_enter Tryz.func152, Tryz.ntmps152
  go_upto_region 1 with (first
    | ((with_reducible refine zG 1 rfl ?_); refine zBox 1 #[.int .i64 d, .int .i64 m] 128 ?_; intro g1 hg w1 hbox hb; have GEg1 := zge hg HW; replace HW := zW HW hb; have BKg1 := Aside0.mk hbox; clear hb hbox hg; have z1_g10 := zC BKg1))
  replace HW := zWD HW
  replace BKg1 := zbD BKg1
  refine zStart 9 (fun w' => zCells w' g1 0 [.int .i64 d, .int .i64 m]) #[false, false, false, false, false, false, false, false, false] Nxa1.tab Nxa1.bits (zS BKg1) (fun hHeld HT_ HW_ => ?_)
  generalize w1.drew = wd at HW BKg1 hHeld ⊢
  refine zP 0 (some 3) HT_ ?_
  refine zP 3 (some 6) HT_ ?_
  refine zT 1 (some 4) HT_ HW_ hHeld ?_
  refine zT 4 (some 7) HT_ HW_ hHeld ?_
  refine zP 5 (some 8) HT_ ?_
  refine zGo 2 (some 5) HT_ Tryz.func85 #[.bool true] ?_
  with_reducible refine (months_b true _).mono ?_
  rintro e wd_1 ⟨ad0, cz, rfl, hC, hb⟩
  replace HW := zW HW hb
  replace BKg1 := zb BKg1 hb
  obtain ⟨ad, e_, hel⟩ := Kd.at_int hC ix HM.out.1 (by have := HM.out.2; omega); cases e_; rw [HX.out] at hel; have HEL := Aside0.mk hel; have p1 := eq_true HM.out.1; have p2 := eq_true HM.out.2; have ho := hC; clear hC hel
  clear ho
  clear hb hHeld
  refine zV (zS BKg1) (fun hHeld => ?_)
  refine zP 6 (some 9) HT_ ?_
  refine one_ (i := 7) (N := some 10) #[true, true, true, true, true, true, true, true, false] rfl rfl (one_of HT_.out (by kernel_rfl)) (by decide) (fun K hK => ?_)
  refine ev_yield (.int .i64 X) (by rfl) rfl ?_ ?_
  · have hel := HEL.out
    go_simp
  refine hK.out _ _ (zS BKg1) (fun hHeld => ?_)
  clear hK K
  refine zN ?_
  refine zP 8 (some 11) HT_ ?_
  refine done_ (done_of HT_.out (by kernel_rfl)) ?_
  have ze0 := (blk_cell BKg1.out 0).trans (show _ = some (.int .i64 d) from rfl)
  have ze1 := (blk_cell BKg1.out 1).trans (show _ = some (.int .i64 m) from rfl)
  try go_wp2
  go_ret
  exact ⟨rfl, HW.out⟩
set_option maxHeartbeats 8000000 in
set_option maxRecDepth 100000 in
theorem next_leaps_stay (d m y : Int) (h0 : 0 ≤ d ∧ d ≤ 31 ∧ 1 ≤ m ∧ m ≤ 12 ∧ 0 ≤ y ∧ y ≤ 100000) (hx : d < rd (mlist (decide (y % 4 = 0))) (m - 1)) (W : World) : Calls Tryz.prog 154 #[.agg #[.int .i64 d, .int .i64 m, .int .i64 y]] W fun e w' => e = .returned (.iface 130 (.agg #[.int .i64 (d + 1), .int .i64 m, .int .i64 y])) ∧ Below W.heap.size W w' := by
  have hu0 := Tryz.underlying126
  have hu1 := Tryz.underlying128
  have hu2 := Tryz.underlying130
  have hu3 := Tryz.underlying38
  have hu4 := Tryz.underlying95
  obtain ⟨lp, hlp⟩ : ∃ lp, decide (y % 4 = 0) = lp := ⟨_, rfl⟩
  rw [hlp] at hx
  have g5_ : Int.tmod y 4 = y % 4 := Int.tmod_eq_emod_of_nonneg h0.2.2.2.2.1
  have g6_ : IntKind.i64.wrap (y % 4) = y % 4 := (i64_w _).trans (wrap_of _ (by omega) (by omega))
  have g7_ : (y % 4 == 0) = lp := by rw [← hlp]; by_cases h : y % 4 = 0 <;> simp [h]
  obtain ⟨ix, hix⟩ : ∃ ix, m - 1 = ix := ⟨_, rfl⟩
  rw [hix] at hx
  obtain ⟨X, hX⟩ : ∃ X, rd (mlist lp) ix = X := ⟨_, rfl⟩
  rw [hX] at hx
  have HX := Aside0.mk hX
  have HM := Aside0.mk (show 0 ≤ ix ∧ ix < 12 by omega)
  have w1_ : IntKind.i64.wrap (m - 1) = ix := ((i64_w _).trans (wrap_of _ (by omega) (by omega))).trans hix
  have w2_ : wrap64 (m - 1) = ix := (wrap_of _ (by omega) (by omega)).trans hix
  have w3_ : wrap64 ix = ix := wrap_of _ (by omega) (by omega)
  have q1 : decide (d < X) = true := decide_eq_true hx
  have g3_ : IntKind.i64.wrap (d + 1) = d + 1 := (i64_w _).trans (wrap_of _ (by omega) (by omega))
  have g3w : wrap64 (d + 1) = d + 1 := wrap_of _ (by omega) (by omega)
  clear h0 hx hX hix hlp
  have HW := Aside0.mk (Below.refl W.heap.size W)
  go_enter Tryz.func154, Tryz.ntmps154
  go_upto_region 1 with (first
    | ((with_reducible refine zG 1 rfl ?_); refine zBox 1 #[.int .i64 d, .int .i64 m, .int .i64 y] 130 ?_; intro g1 hg w1 hbox hb; have GEg1 := zge hg HW; replace HW := zW HW hb; have BKg1 := Aside0.mk hbox; clear hb hbox hg; have z1_g10 := zC BKg1))
  replace HW := zWD HW
  replace BKg1 := zbD BKg1
  refine zStart 13 (fun w' => zCells w' g1 0 [.int .i64 d, .int .i64 m, .int .i64 y]) #[false, false, false, false, false, false, false, false, false, false, false, false, false] Nxl1.tab Nxl1.bits (zS BKg1) (fun hHeld HT_ HW_ => ?_)
  generalize w1.drew = wd at HW BKg1 hHeld ⊢
  refine zP 0 (some 3) HT_ ?_
  refine zP 2 (some 5) HT_ ?_
  refine zP 7 (some 10) HT_ ?_
  refine zT 1 (some 4) HT_ HW_ hHeld ?_
  refine zT 3 (some 6) HT_ HW_ hHeld ?_
  refine zP 4 (some 7) HT_ ?_
  refine zP 5 (some 8) HT_ ?_
  refine zT 8 (some 11) HT_ HW_ hHeld ?_
  refine zP 9 (some 12) HT_ ?_
  refine zGo 6 (some 9) HT_ Tryz.func85 #[.bool lp] ?_
  with_reducible refine (months_b lp _).mono ?_
  rintro e wd_1 ⟨ad0, cz, rfl, hC, hb⟩
  replace HW := zW HW hb
  replace BKg1 := zb BKg1 hb
  obtain ⟨ad, e_, hel⟩ := Kd.at_int hC ix HM.out.1 (by have := HM.out.2; omega); cases e_; rw [HX.out] at hel; have HEL := Aside0.mk hel; have p1 := eq_true HM.out.1; have p2 := eq_true HM.out.2; have ho := hC; clear hC hel
  clear ho
  clear hb hHeld
  refine zV (zS BKg1) (fun hHeld => ?_)
  refine zP 10 (some 13) HT_ ?_
  refine one_ (i := 11) (N := some 14) #[true, true, true, true, true, true, true, true, true, true, true, true, false] rfl rfl (one_of HT_.out (by kernel_rfl)) (by decide) (fun K hK => ?_)
  refine ev_yield (.int .i64 X) (by rfl) rfl ?_ ?_
  · have hel := HEL.out
    go_simp
  refine hK.out _ _ (zS BKg1) (fun hHeld => ?_)
  clear hK K
  refine zN ?_
  refine zP 12 (some 15) HT_ ?_
  refine done_ (done_of HT_.out (by kernel_rfl)) ?_
  have ze0 := (blk_cell BKg1.out 0).trans (show _ = some (.int .i64 d) from rfl)
  have ze1 := (blk_cell BKg1.out 1).trans (show _ = some (.int .i64 m) from rfl)
  have ze2 := (blk_cell BKg1.out 2).trans (show _ = some (.int .i64 y) from rfl)
  try go_wp2
  go_ret
  exact ⟨rfl, HW.out⟩
set_option maxHeartbeats 8000000 in
set_option maxRecDepth 100000 in
theorem next_leaps_turn (d m y : Int) (h0 : 0 ≤ d ∧ d ≤ 31 ∧ 1 ≤ m ∧ m ≤ 12 ∧ 0 ≤ y ∧ y ≤ 100000) (hx : ¬ d < rd (mlist (decide (y % 4 = 0))) (m - 1)) (W : World) : Calls Tryz.prog 154 #[.agg #[.int .i64 d, .int .i64 m, .int .i64 y]] W fun e w' => e = .returned (.iface 130 (.agg #[.int .i64 1, .int .i64 (m % 12 + 1), .int .i64 (y + m / 12)])) ∧ Below W.heap.size W w' := by
  have hu0 := Tryz.underlying126
  have hu1 := Tryz.underlying128
  have hu2 := Tryz.underlying130
  have hu3 := Tryz.underlying38
  have hu4 := Tryz.underlying95
  obtain ⟨lp, hlp⟩ : ∃ lp, decide (y % 4 = 0) = lp := ⟨_, rfl⟩
  rw [hlp] at hx
  have g5_ : Int.tmod y 4 = y % 4 := Int.tmod_eq_emod_of_nonneg h0.2.2.2.2.1
  have g6_ : IntKind.i64.wrap (y % 4) = y % 4 := (i64_w _).trans (wrap_of _ (by omega) (by omega))
  have g7_ : (y % 4 == 0) = lp := by rw [← hlp]; by_cases h : y % 4 = 0 <;> simp [h]
  obtain ⟨ix, hix⟩ : ∃ ix, m - 1 = ix := ⟨_, rfl⟩
  rw [hix] at hx
  obtain ⟨X, hX⟩ : ∃ X, rd (mlist lp) ix = X := ⟨_, rfl⟩
  rw [hX] at hx
  have HX := Aside0.mk hX
  have HM := Aside0.mk (show 0 ≤ ix ∧ ix < 12 by omega)
  have w1_ : IntKind.i64.wrap (m - 1) = ix := ((i64_w _).trans (wrap_of _ (by omega) (by omega))).trans hix
  have w2_ : wrap64 (m - 1) = ix := (wrap_of _ (by omega) (by omega)).trans hix
  have w3_ : wrap64 ix = ix := wrap_of _ (by omega) (by omega)
  have q1 : decide (d < X) = false := decide_eq_false hx
  have g1_ : Int.tmod m 12 = m % 12 := Int.tmod_eq_emod_of_nonneg (by omega)
  have g2_ : IntKind.i64.wrap (m % 12) = m % 12 := (i64_w _).trans (wrap_of _ (by omega) (by omega))
  have g2w : wrap64 (m % 12) = m % 12 := wrap_of _ (by omega) (by omega)
  have g3_ : IntKind.i64.wrap (m % 12 + 1) = m % 12 + 1 := (i64_w _).trans (wrap_of _ (by omega) (by omega))
  have g3w : wrap64 (m % 12 + 1) = m % 12 + 1 := wrap_of _ (by omega) (by omega)
  have g8_ : Int.tdiv m 12 = m / 12 := Int.tdiv_eq_ediv_of_nonneg (by omega)
  have g9_ : IntKind.i64.wrap (m / 12) = m / 12 := (i64_w _).trans (wrap_of _ (by omega) (by omega))
  have g9w : wrap64 (m / 12) = m / 12 := wrap_of _ (by omega) (by omega)
  have ga_ : IntKind.i64.wrap (y + m / 12) = y + m / 12 := (i64_w _).trans (wrap_of _ (by omega) (by omega))
  have gaw : wrap64 (y + m / 12) = y + m / 12 := wrap_of _ (by omega) (by omega)
  clear h0 hx hX hix hlp
  have HW := Aside0.mk (Below.refl W.heap.size W)
  go_enter Tryz.func154, Tryz.ntmps154
  go_upto_region 1 with (first
    | ((with_reducible refine zG 1 rfl ?_); refine zBox 1 #[.int .i64 d, .int .i64 m, .int .i64 y] 130 ?_; intro g1 hg w1 hbox hb; have GEg1 := zge hg HW; replace HW := zW HW hb; have BKg1 := Aside0.mk hbox; clear hb hbox hg; have z1_g10 := zC BKg1))
  replace HW := zWD HW
  replace BKg1 := zbD BKg1
  refine zStart 13 (fun w' => zCells w' g1 0 [.int .i64 d, .int .i64 m, .int .i64 y]) #[false, false, false, false, false, false, false, false, false, false, false, false, false] Nxl1.tab Nxl1.bits (zS BKg1) (fun hHeld HT_ HW_ => ?_)
  generalize w1.drew = wd at HW BKg1 hHeld ⊢
  refine zP 0 (some 3) HT_ ?_
  refine zP 2 (some 5) HT_ ?_
  refine zP 7 (some 10) HT_ ?_
  refine zT 1 (some 4) HT_ HW_ hHeld ?_
  refine zT 3 (some 6) HT_ HW_ hHeld ?_
  refine zP 4 (some 7) HT_ ?_
  refine zP 5 (some 8) HT_ ?_
  refine zT 8 (some 11) HT_ HW_ hHeld ?_
  refine zP 9 (some 12) HT_ ?_
  refine zGo 6 (some 9) HT_ Tryz.func85 #[.bool lp] ?_
  with_reducible refine (months_b lp _).mono ?_
  rintro e wd_1 ⟨ad0, cz, rfl, hC, hb⟩
  replace HW := zW HW hb
  replace BKg1 := zb BKg1 hb
  obtain ⟨ad, e_, hel⟩ := Kd.at_int hC ix HM.out.1 (by have := HM.out.2; omega); cases e_; rw [HX.out] at hel; have HEL := Aside0.mk hel; have p1 := eq_true HM.out.1; have p2 := eq_true HM.out.2; have ho := hC; clear hC hel
  clear ho
  clear hb hHeld
  refine zV (zS BKg1) (fun hHeld => ?_)
  refine zP 10 (some 13) HT_ ?_
  refine one_ (i := 11) (N := some 14) #[true, true, true, true, true, true, true, true, true, true, true, true, false] rfl rfl (one_of HT_.out (by kernel_rfl)) (by decide) (fun K hK => ?_)
  refine ev_yield (.int .i64 X) (by rfl) rfl ?_ ?_
  · have hel := HEL.out
    go_simp
  refine hK.out _ _ (zS BKg1) (fun hHeld => ?_)
  clear hK K
  refine zN ?_
  refine zP 12 (some 15) HT_ ?_
  refine done_ (done_of HT_.out (by kernel_rfl)) ?_
  have ze0 := (blk_cell BKg1.out 0).trans (show _ = some (.int .i64 d) from rfl)
  have ze1 := (blk_cell BKg1.out 1).trans (show _ = some (.int .i64 m) from rfl)
  have ze2 := (blk_cell BKg1.out 2).trans (show _ = some (.int .i64 y) from rfl)
  try go_wp2
  go_ret
  exact ⟨rfl, HW.out⟩
end Go.Proofs.YtnllidgonghckaaGreatDoor.X
namespace Go.Proofs.YtnllidgonghckaaGreatDoor.X
open Go.RowKit Go.Proofs.YtnllidgonghckaaGreatDoorW.PrintWords Go.Proofs.YtnllidgonghckaaGreatDoorW.PrintLast Go.Proofs.YtnllidgonghckaaGreatDoorW.PrintMore Go.Proofs.YtnllidgonghckaaGreatDoor.Dm
set_option linter.unusedVariables false
set_option linter.unusedSimpArgs false
theorem DialV.set_b (D : DialV) (y m d : Int) (W : World) : Calls Tryz.prog D.setF #[D.raw, .agg #[.int .i64 y, .int .i64 m, .int .i64 d]] W fun e w' => e = .returned (D.set y m d).val ∧ Below W.heap.size W w' := by
  cases D with
  | plain d0 => exact set_plain d0 y m d W
  | annual d0 m0 => exact set_annual d0 m0 y m d W
  | leaps d0 m0 y0 => exact set_leaps d0 m0 y0 y m d W
theorem DialV.next_b (D : DialV) (k : Int) (hk : k ≤ 90000) (h : D.ok k) (W : World) : Calls Tryz.prog D.nextF #[D.raw] W fun e w' => e = .returned D.next.val ∧ Below W.heap.size W w' := by
  cases D with
  | plain d0 => exact next_plain d0 h W
  | annual d0 m0 =>
    by_cases hx : d0 < rd (mlist true) (m0 - 1)
    · exact (next_annual_stay d0 m0 h hx W).mono fun e w hh => ⟨by rw [hh.1]; unfold DialV.next; dsimp only; rw [if_pos hx]; rfl, hh.2⟩
    · exact (next_annual_turn d0 m0 h hx W).mono fun e w hh => ⟨by rw [hh.1]; unfold DialV.next; dsimp only; rw [if_neg hx]; rfl, hh.2⟩
  | leaps d0 m0 y0 =>
    have hb : 0 ≤ d0 ∧ d0 ≤ 31 ∧ 1 ≤ m0 ∧ m0 ≤ 12 ∧ 0 ≤ y0 ∧ y0 ≤ 100000 := by unfold DialV.ok at h; omega
    by_cases hx : d0 < rd (mlist (decide (y0 % 4 = 0))) (m0 - 1)
    · exact (next_leaps_stay d0 m0 y0 hb hx W).mono fun e w hh => ⟨by rw [hh.1]; unfold DialV.next; dsimp only; rw [if_pos hx]; rfl, hh.2⟩
    · exact (next_leaps_turn d0 m0 y0 hb hx W).mono fun e w hh => ⟨by rw [hh.1]; unfold DialV.next; dsimp only; rw [if_neg hx]; rfl, hh.2⟩
theorem DialV.shown_b (D : DialV) (W : World) : Calls Tryz.prog 75 #[D.val] W fun e w' => e = .returned (.int .i64 D.shown) ∧ Below W.heap.size W w' := by
  cases D with
  | plain d0 => exact shown_plain d0 W
  | annual d0 m0 => exact shown_annual d0 m0 W
  | leaps d0 m0 y0 => exact shown_leaps d0 m0 y0 W
theorem DialV.next_ok (D : DialV) (k : Int) (h : D.ok k) : D.next.ok (k + 1) := by
  cases D with
  | plain d0 => unfold DialV.ok DialV.next at *; dsimp only; omega
  | annual d0 m0 =>
    have := mlist_rd true (m0 - 1)
    unfold DialV.next
    unfold DialV.ok at h
    dsimp only at *
    split
    · unfold DialV.ok; dsimp only; omega
    · unfold DialV.ok; dsimp only; omega
  | leaps d0 m0 y0 =>
    have := mlist_rd (decide (y0 % 4 = 0)) (m0 - 1)
    unfold DialV.next
    unfold DialV.ok at h
    dsimp only at *
    split
    · unfold DialV.ok; dsimp only; omega
    · unfold DialV.ok; dsimp only; omega
theorem DialV.set_ok (D : DialV) (y m d k : Int) (hk : 0 ≤ k) (h : 0 ≤ y ∧ y ≤ 4000 ∧ 1 ≤ m ∧ m ≤ 12 ∧ 0 ≤ d ∧ d ≤ 31) : (D.set y m d).ok k := by
  cases D <;> (unfold DialV.set DialV.ok; dsimp only; omega)
theorem mloop_bd : ∀ (l : List Int) (left i m d : Int), mloop l left i = some (m, d) → 0 ≤ left → (∀ n ∈ l, n ≤ 31) → i + 1 ≤ m ∧ m ≤ i + l.length ∧ 1 ≤ d ∧ d ≤ 31
  | [], left, i, m, d, h, _, _ => by cases h
  | n :: r, left, i, m, d, h, hl, hm => by
    have hn := hm n List.mem_cons_self
    unfold mloop at h
    by_cases hx : left < n
    · rw [if_pos hx] at h
      cases h
      simp only [List.length_cons]
      omega
    · rw [if_neg hx] at h
      have := mloop_bd r (left - n) (i + 1) m d h (by omega) (fun x hx => hm x (List.mem_cons_of_mem _ hx))
      simp only [List.length_cons]
      omega
theorem mlist_le (lp : Bool) : ∀ n ∈ mlist lp, n ≤ 31 := by cases lp <;> decide
theorem dateOf_bd (ep : Int) (cs : List Int) (day y m d : Int) (h : dateOf ep cs day = some (y, m, d)) : 0 ≤ y ∧ y ≤ 4000 ∧ 1 ≤ m ∧ m ≤ 12 ∧ 0 ≤ d ∧ d ≤ 31 := by
  unfold dateOf at h
  split at h
  · rename_i hy
    obtain ⟨h1, h2⟩ := yearOf_spec ep cs day hy
    cases hq : mloop (mlist (leapB cs (yearOf ep cs day))) (day - fday ep cs (yearOf ep cs day).toNat) 0 with
    | none => rw [hq] at h; cases h
    | some p =>
      obtain ⟨a, b⟩ := p
      rw [hq] at h
      cases h
      have := mloop_bd _ _ _ _ _ hq (by omega) (mlist_le _)
      rw [mlist_length] at this
      have hyb := hy
      simp only [yearB, Bool.and_eq_true, decide_eq_true_eq] at hyb
      omega
  · cases h
theorem onOf_bd (ep : Int) (cs : List Int) (epn : Int) (csn : List Int) (last day y m d : Int) (h : onOf ep cs epn csn last day = some (y, m, d)) : 0 ≤ y ∧ y ≤ 4000 ∧ 1 ≤ m ∧ m ≤ 12 ∧ 0 ≤ d ∧ d ≤ 31 := by
  unfold onOf at h
  split at h
  · exact dateOf_bd _ _ _ _ _ _ h
  · exact dateOf_bd _ _ _ _ _ _ h
structure Held (S : Nat) (X : Nat → Prop) (w W : World) : Prop where
  os : W.os = w.os
  tape : W.tape = w.tape
  output : W.output = w.output
  size : S ≤ W.heap.size
  block : ∀ k, k < S → ¬ X k → W.heap[k]? = w.heap[k]?
section
variable {S : Nat} {X : Nat → Prop} {w W W1 : World}
theorem Held.below (h : Held S X w W) (hb : Below W.heap.size W W1) : Held S X w W1 :=
  ⟨hb.os.trans h.os, hb.tape.trans h.tape, hb.output.trans h.output, Nat.le_trans h.size hb.size, fun k hk hx => (hb.block k (Nat.lt_of_lt_of_le hk h.size)).trans (h.block k hk hx)⟩
theorem Held.belowD (h : Held S X w W) (hb : Below W.drew.heap.size W.drew W1) : Held S X w W1 := h.below (drew_then hb)
theorem Held.refl (h : S ≤ w.heap.size) : Held S X w w := ⟨rfl, rfl, rfl, h, fun _ _ _ => rfl⟩
theorem Held.trans (h : Held S X w W) (h2 : Held S X W W1) : Held S X w W1 :=
  ⟨h2.os.trans h.os, h2.tape.trans h.tape, h2.output.trans h.output, h2.size, fun k hk hx => (h2.block k hk hx).trans (h.block k hk hx)⟩
theorem Held.mono {S' : Nat} (hs : S' ≤ S) (h : Held S X w W) : Held S' X w W :=
  ⟨h.os, h.tape, h.output, Nat.le_trans hs h.size, fun k hk hx => h.block k (Nat.lt_of_lt_of_le hk hs) hx⟩
theorem Held.grown {row : Option Nat} (h : Held S X w W) (hg : W.grownBy W1 row) (hr : ∀ k, row = some k → S ≤ k ∨ X k) : Held S X w W1 :=
  ⟨hg.os.trans h.os, hg.tape.trans h.tape, hg.output.trans h.output, Nat.le_trans h.size hg.size, fun k hk hn => (hg.block k (Nat.lt_of_lt_of_le hk h.size) (fun e => (hr k e.symm).elim (fun q => by omega) hn)).trans (h.block k hk hn)⟩
theorem Held.blk {g : Nat} {o : Obj} (h : Held S X w W) (hg : w.heap[g]? = some o) (hs : g < S) (hx : ¬ X g) : W.heap[g]? = some o := (h.block g hs hx).trans hg
theorem below_held (hb : Below w.heap.size w W) (h : Held S X W W1) (hn : w.heap.size ≤ S) (hx : ∀ k, X k → w.heap.size ≤ k) : Below w.heap.size w W1 :=
  ⟨h.os.trans hb.os, h.tape.trans hb.tape, h.output.trans hb.output, Nat.le_trans hn h.size, fun k hk => (h.block k (by omega) (fun q => by have := hx k q; omega)).trans (hb.block k hk)⟩
theorem Opd.held {ep : Int} {A : Option Addr} {c : Nat} {cs F : List Int} {a5 : Addr} {c5 mb : Nat} {w0 : World} (h : Opd ep A c cs F a5 c5 mb w0 w) (hs : w.heap.size ≤ S) (hk : Held S X w W) (ha : ¬ X a5.block) (hm : ¬ X mb) (hx : ∀ k, X k → w0.heap.size ≤ k) : Opd ep A c cs F a5 c5 mb w0 W := by
  obtain ⟨es, cl, hmm⟩ := h.m
  refine ⟨h.hF, h.cal, h.rc, h.c, ?_, ⟨es, cl, hk.blk hmm (Nat.lt_of_lt_of_le (blk_lt hmm) hs) hm⟩, below_held h.b hk (Nat.le_trans h.b.size hs) hx, h.zmb⟩
  have h1 := Kd.R_flat (ok' := fun k => k = a5.block ∧ k ≠ mb) (fun q => q) h.f (fun k hk hne => ⟨(Option.some.inj hk).symm, hne⟩)
  exact Kd.R_mono (Kd.R_step h1 (fun k hk' hlt => hk.block k (Nat.lt_of_lt_of_le hlt hs) (by rw [hk'.1]; exact ha))) (fun k hk => hk.2)
end
end Go.Proofs.YtnllidgonghckaaGreatDoor.X
namespace Go.Proofs.YtnllidgonghckaaGreatDoor.X
open Go.RowKit Go.Proofs.YtnllidgonghckaaGreatDoorW.PrintWords Go.Proofs.YtnllidgonghckaaGreatDoorW.PrintLast Go.Proofs.YtnllidgonghckaaGreatDoorW.PrintMore Go.Proofs.YtnllidgonghckaaGreatDoor.Dm
set_option linter.unusedVariables false
set_option linter.unusedSimpArgs false
attribute [local go_sem] max2_int min2_int max_two min_two max_three min_three max_four min_four
set_option maxHeartbeats 8000000 in
set_option maxRecDepth 100000 in
theorem days_l (ep : Int) (A : Option Addr) (c : Nat) (cs : List Int) (epn : Int) (An : Option Addr) (cn : Nat) (csn F Fn : List Int) (a5 : Addr) (c5 mb : Nat) (a5n : Addr) (c5n mbn : Nat) (last a b : Int) (W : World) : Calls Tryz.prog 74 #[.agg #[.int .i64 ep, .slice A cs.length c, .int .i64 epn, .slice An csn.length cn, .int .i64 last, .int .i64 ep, .slice A cs.length c, .int .i64 0, .int .i64 0, .int .i64 0, .slice (some a5) F.length c5, .map (some mb), .int .i64 epn, .slice An csn.length cn, .int .i64 0, .int .i64 0, .int .i64 0, .slice (some a5n) Fn.length c5n, .map (some mbn)], .int .i64 a, .int .i64 b] W fun e w' => ∃ gr gf gt : Nat, e = .returned (.func (.func 91) #[] #[.pointer (some ⟨gf, 0, none⟩), .pointer (some ⟨gt, 0, none⟩), .pointer (some ⟨gr, 0, none⟩)]) ∧ (w'.heap[gr]? = some (.cells #[.int .i64 ep, .slice A cs.length c, .int .i64 epn, .slice An csn.length cn, .int .i64 last, .int .i64 ep, .slice A cs.length c, .int .i64 0, .int .i64 0, .int .i64 0, .slice (some a5) F.length c5, .map (some mb), .int .i64 epn, .slice An csn.length cn, .int .i64 0, .int .i64 0, .int .i64 0, .slice (some a5n) Fn.length c5n, .map (some mbn)] 92 (0, 0)) ∧ w'.heap[gf]? = some (.cells #[.int .i64 a] 3 (0, 0)) ∧ w'.heap[gt]? = some (.cells #[.int .i64 b] 3 (0, 0))) ∧ (W.heap.size ≤ gr ∧ W.heap.size ≤ gf ∧ W.heap.size ≤ gt) ∧ Below W.heap.size W w' := by
  have hu92 := Tryz.underlying92
  have hu38 := Tryz.underlying38
  have hmf : ∀ (fn : Go.Fn) (first cap : Array Value) (w : World), (Instr.makeFunc fn first cap).run Tryz.prog w = .ok (.func fn first cap) w := fun _ _ _ _ => rfl
  have HW := Aside0.mk (Below.refl W.heap.size W)
  go_enter Tryz.func74, Tryz.ntmps74
  go_wp2_with (first
    | ((with_reducible refine zG 3 rfl ?_); refine zBox 3 #[.int .i64 ep, .slice A cs.length c, .int .i64 epn, .slice An csn.length cn, .int .i64 last, .int .i64 ep, .slice A cs.length c, .int .i64 0, .int .i64 0, .int .i64 0, .slice (some a5) F.length c5, .map (some mb), .int .i64 epn, .slice An csn.length cn, .int .i64 0, .int .i64 0, .int .i64 0, .slice (some a5n) Fn.length c5n, .map (some mbn)] 92 ?_; intro gr hg w1 hbox hb; have GEgr := zge hg HW; replace HW := zW HW hb; have BKgr := Aside0.mk hbox; clear hb hbox hg; have z1_gr0 := zC BKgr)
    | ((with_reducible refine zG 4 rfl ?_); refine zBox 4 #[.int .i64 a] 3 ?_; intro gf hg w2 hbox hb; have GEgf := zge hg HW; have NEgr_gf := zne hg BKgr; replace HW := zW HW hb; replace BKgr := zb BKgr hb; have BKgf := Aside0.mk hbox; clear hb hbox hg; (try clear z1_gr0); have z2_gr0 := zC BKgr; have z2_gf0 : w2.cell? ⟨gf, 0, none⟩ = some (.int .i64 a) := zx BKgf 0)
    | ((with_reducible refine zG 5 rfl ?_); refine zBox 5 #[.int .i64 b] 3 ?_; intro gt hg w3 hbox hb; have GEgt := zge hg HW; have NEgr_gt := zne hg BKgr; have NEgf_gt := zne hg BKgf; replace HW := zW HW hb; replace BKgr := zb BKgr hb; replace BKgf := zb BKgf hb; have BKgt := Aside0.mk hbox; clear hb hbox hg; (try clear z2_gr0 z2_gf0); have z3_gr0 := zC BKgr; have z3_gf0 : w3.cell? ⟨gf, 0, none⟩ = some (.int .i64 a) := zx BKgf 0; have z3_gt0 : w3.cell? ⟨gt, 0, none⟩ = some (.int .i64 b) := zx BKgt 0))
  go_ret
  exact ⟨gr, gf, gt, rfl, ⟨BKgr.out, BKgf.out, BKgt.out⟩, ⟨GEgr.out, GEgf.out, GEgt.out⟩, HW.out⟩
set_option maxHeartbeats 8000000 in
set_option maxRecDepth 100000 in
theorem iter_b (ep : Int) (A : Option Addr) (c : Nat) (cs : List Int) (epn : Int) (An : Option Addr) (cn : Nat) (csn F Fn : List Int) (a5 : Addr) (c5 mb : Nat) (a5n : Addr) (c5n mbn : Nat) (last a b : Int) (w : World) (l n gr gf gt : Nat) (ha : 0 ≤ a) (hb2 : b ≤ 2000000) (hab : a ≤ b) (J : Nat → World → Prop) (hJb : ∀ k W W', J k W → Below W.heap.size W W' → J k W')
    (hJI : ∀ k W, J k W → (W.heap[gr]? = some (.cells #[.int .i64 ep, .slice A cs.length c, .int .i64 epn, .slice An csn.length cn, .int .i64 last, .int .i64 ep, .slice A cs.length c, .int .i64 0, .int .i64 0, .int .i64 0, .slice (some a5) F.length c5, .map (some mb), .int .i64 epn, .slice An csn.length cn, .int .i64 0, .int .i64 0, .int .i64 0, .slice (some a5n) Fn.length c5n, .map (some mbn)] 92 (0, 0)) ∧ W.heap[gf]? = some (.cells #[.int .i64 a] 3 (0, 0)) ∧ W.heap[gt]? = some (.cells #[.int .i64 b] 3 (0, 0))) ∧ Opd ep A c cs F a5 c5 mb w W ∧ Opd epn An cn csn Fn a5n c5n mbn w W)
    (hround : ∀ (k : Nat) y mo d W, J k W → a + k ≤ b → onOf ep cs epn csn last (a + k) = some (y, mo, d) → YieldAt Fence.wide (n - 1) Tryz.prog l #[.int .i64 (a + k), .agg #[.int .i64 y, .int .i64 mo, .int .i64 d]] W fun e W' => e = .returned (.bool true) ∧ J (k + 1) W')
    (W : World) (h0 : J 0 W) : CallsIn Fence.wide n Tryz.prog 91 #[.func (.yield l) #[] #[], .pointer (some ⟨gf, 0, none⟩), .pointer (some ⟨gt, 0, none⟩), .pointer (some ⟨gr, 0, none⟩)] W fun e W' => (e = .returned (.tuple #[]) ∧ ∃ k : Nat, a + k = b + 1 ∧ J k W') ∨ ∃ k : Nat, a + k ≤ b ∧ onOf ep cs epn csn last (a + k) = none ∧ e = .panicked [{ v := .iface 121 (.agg #[.int .i64 (a + (k : Int))]), recovered := false }] ∧ J k W' := by
  refine callsIn_wide.2 ?_
  have hu92 := Tryz.underlying92
  have hu38 := Tryz.underlying38
  have hmf : ∀ (fn : Go.Fn) (first cap : Array Value) (w : World), (Instr.makeFunc fn first cap).run Tryz.prog w = .ok (.func fn first cap) w := fun _ _ _ _ => rfl
  have hcf : (Aside0 (a ≤ b)) := Aside0.mk hab
  have HJB := Aside0.mk hJb
  have HJI := Aside0.mk hJI
  have HRO := Aside0.mk hround
  have H0 := Aside0.mk h0
  have HA := Aside0.mk (show 0 ≤ a ∧ b ≤ 2000000 ∧ a ≤ b from ⟨ha, hb2, hab⟩)
  have zz := (blk_cell (hJI 0 W h0).1.2.1 0).trans (show _ = some (Value.int .i64 a) from rfl)
  clear ha hb2 hab hJb hJI hround h0 hcf
  go_enter Tryz.func91, Tryz.ntmps91
  go_wp2
  clear zz
  go_loopw [5] (fun vi wr => ∃ (k : Nat), vi = .int .i64 (a + k) ∧ Aside0 (a + (k : Int) ≤ b + 1) ∧ Aside0 (J k wr)) (fun vi _ => (b + 1 - intOf vi).toNat)
  case atStart => exact ⟨0, by simp, Aside0.mk (by have := HA.out; omega), H0⟩
  case round =>
    obtain ⟨k, e_, hk, hj⟩ := hrel
    obtain ⟨v, hv⟩ : ∃ v, a + (k : Int) = v := ⟨_, rfl⟩
    rw [hv] at e_ hk
    subst e_
    have HV := Aside0.mk hv
    obtain ⟨⟨hgr, hgf, hgt⟩, hop, hopn⟩ := HJI.out k wr hj.out
    have OP := Aside0.mk hop
    have OPn := Aside0.mk hopn
    have BKgr := Aside0.mk hgr
    have zt := (blk_cell hgt 0).trans (show _ = some (Value.int .i64 b) from rfl)
    clear hv hop hopn hgr hgf hgt
    by_cases hvb : v ≤ b
    · have q1 : decide (v ≤ b) = true := decide_eq_true hvb
      have HVB := Aside0.mk hvb
      clear hvb
      go_upto_region 3 with (fail)
      clear zt q1
      cases hdt : onOf ep cs epn csn last v with
      | none =>
        have HDT := Aside0.mk hdt
        clear hdt
        go_wp2_with (first | ((with_reducible refine zG 14 rfl ?_); refine load_row_event rfl rfl 92 (.tmp 3) rfl BKgr.out (by rfl) Tryz.underlying92 rfl (by kernel_rfl) ?_) | (go_at_call 69; (with_reducible refine (on_n OP.out OPn.out last v HDT.out).mono ?_); rintro e w3 ⟨rfl, hb⟩))
        refine ⟨rfl, ?_⟩
        exact .inr ⟨k, by rw [HV.out]; exact HVB.out, by rw [HV.out]; exact HDT.out, by rw [HV.out], HJB.out k _ _ hj.out hb⟩
      | some p =>
        obtain ⟨y, mo, d⟩ := p
        have HDT := Aside0.mk hdt
        clear hdt
        refine (wpIn_wide (n := n)).1 (wpIn_region_lit ?_)
        refine wpListIn_take rfl 5 (by rfl) (by rintro ⟨_, _, h⟩; rcases h with ⟨h, _⟩ | ⟨_, _, _, h, _⟩ <;> cases h) ?_
        simp only [List.take, List.drop]
        go_wp2_with (first | ((with_reducible refine zG 14 rfl ?_); refine load_row_event rfl rfl 92 (.tmp 3) rfl BKgr.out (by rfl) Tryz.underlying92 rfl (by kernel_rfl) ?_) | (go_at_call 69; (with_reducible refine (on_b OP.out OPn.out last v y mo d HDT.out).mono ?_); rintro e w3 ⟨rfl, hb⟩))
        have hy := HRO.out k y mo d w3 (HJB.out k _ _ hj.out hb) (by rw [HV.out]; exact HVB.out) (by rw [HV.out]; exact HDT.out)
        rw [HV.out] at hy
        refine yield_event (N := 17) (l := l) (x := .tmp 12) (R := fun e W' => e = .returned (.bool true) ∧ J (k + 1) W') (args := #[.int .i64 v, .agg #[.int .i64 y, .int .i64 mo, .int .i64 d]]) rfl rfl rfl (by simp [Act.eval]) (by simp [Act.eval]) rfl hy (fun e w' h => ⟨_, h.1⟩) ?_
        rintro _ w4 ⟨e4, hj4⟩
        cases e4
        have HJ4 := Aside0.mk hj4
        have HK := Aside0.mk (show v + 1 = a + ((k + 1 : Nat) : Int) by have := HV.out; omega)
        have w1_ : IntKind.i64.wrap (v + 1) = v + 1 := (i64_w _).trans (wrap_of _ (by have := HV.out; have := HVB.out; have := HA.out; omega) (by have := HVB.out; have := HA.out; omega))
        have w2_ : wrap64 (v + 1) = v + 1 := wrap_of _ (by have := HV.out; have := HVB.out; have := HA.out; omega) (by have := HVB.out; have := HA.out; omega)
        clear hy hj4 hb
        refine wpListIn_of rfl (by rfl) (by rintro ⟨_, _, h⟩; rcases h with ⟨h, _⟩ | ⟨_, _, _, h, _⟩ <;> cases h) ?_
        go_wp2
        go_roundw
        case rel => exact ⟨k + 1, congrArg _ HK.out, Aside0.mk (by have := HK.out; have := HVB.out; omega), HJ4⟩
        case measure => have := HVB.out; simp [intOf]; omega
    · have q1 : decide (v ≤ b) = false := decide_eq_false hvb
      have HVB := Aside0.mk hvb
      clear hvb
      go_wp2
      go_end0
      exact .inl ⟨rfl, k, by have := HVB.out; have := HV.out; have := hk.out; omega, hj.out⟩
end Go.Proofs.YtnllidgonghckaaGreatDoor.X
namespace Go.Proofs.YtnllidgonghckaaGreatDoor.X
open Go.RowKit
set_option linter.unusedVariables false
set_option linter.unusedSimpArgs false
theorem range_keep {P : Program} {n : Nat} {g : Operand} {ps : Array Tmp} {assign body : Code} {Q : Exit → Act → World → Prop} {a : Act} {w : World} {gf : Nat} {lb : Array Value} (hg : a.eval g = .func (.func gf) #[] lb) (eg : ∀ args w, (callFunc gf args).run P w = .ok (.enter gf args) w)
    (I : Nat → World → Prop) (Vis : Nat → Array Value → Prop) (Done Bad : Nat → Prop) (ch : Nat → List PanicEntry) (Ax : Nat → Array Value → Act → World → Prop)
    (hI0 : ∀ o, I 0 ((w.alloc (.deferred (some []))).alloc o)) (hIb : ∀ k W W', I k W → Below W.heap.size W W' → I k W') (hIput : ∀ k W o, I k W → w.heap.size + 1 < W.heap.size → I k (W.putObj (w.heap.size + 1) o))
    (hAput : ∀ k args b W o, Ax k args b W → w.heap.size + 1 < W.heap.size → Ax k args b (W.putObj (w.heap.size + 1) o))
    (hps : ∀ k args, Vis k args → args.size = ps.size)
    (hcall : ∀ (l : Nat) (J : Nat → World → Prop) (W : World), (∀ k W W', J k W → Below W.heap.size W W' → J k W') → (∀ k W, J k W → I k W) →
      (∀ k args W, Vis k args → J k W → YieldAt Fence.wide (n - 1 - 1) P l args W fun e W' => e = .returned (.bool true) ∧ J (k + 1) W') → J 0 W →
      CallsIn Fence.wide (n - 1) P gf (#[.func (.yield l) #[] #[]] ++ lb) W fun e W' => (e = .returned (.tuple #[]) ∧ ∃ k, Done k ∧ J k W') ∨ ∃ k, Bad k ∧ e = .panicked (ch k) ∧ J k W')
    (hassign : ∀ k args W (K : Act → World → Prop), Vis k args → I k W → w.heap.size + 1 < W.heap.size → (∀ a1 W1, Below W.heap.size W W1 → Ax k args a1 W1 → K a1 W1) →
      assign.wpIn (Fence.wide.inRound (w.heap.size + 1)) (n - 1 - 1) P (Exit.then K (fun _ _ _ => False)) { tmps := (ps.zip args).foldl (fun t (p, v) => t.setIfInBounds p v) a.tmps, defers := [] } W)
    (hbody : ∀ k args a1 W, Vis k args → I k W → w.heap.size + 1 < W.heap.size → Ax k args a1 W →
      body.wpIn (Fence.wide.inRound (w.heap.size + 1)) (n - 1 - 1) P (fun e _ W' => e = .normal ∧ I (k + 1) W' ∧ W'.heap[w.heap.size + 1]? = W.heap[w.heap.size + 1]? ∧ W'.heap[w.heap.size]? = W.heap[w.heap.size]?) a1 W)
    (hdone : ∀ k W, Done k → I k W → W.heap[w.heap.size]? = some (.deferred (some [])) → Q .normal { a with defers := { target := .collected w.heap.size, args := #[] } :: a.defers } W)
    (hbad : ∀ k W, Bad k → I k W → W.heap[w.heap.size]? = some (.deferred (some [])) → Q (.panic (ch k)) { a with defers := { target := .collected w.heap.size, args := #[] } :: a.defers } W) :
    (Code.rangeFunc g ps assign body).wpIn Fence.wide n P Q a w := by
  refine wpIn_rangeFunc ?_
  intro fn hfn
  rw [show Fence.wide.round = none from rfl]
  obtain ⟨rec, hrec⟩ : ∃ rec : LoopState → Option Code → Loop, rec = fun st pe => { state := st, pending := pe, fn, tmps := a.tmps, params := ps, assign, body, defers := w.heap.size } := ⟨_, rfl⟩
  obtain ⟨W1, hW1⟩ : ∃ W1, (w.alloc (.deferred (some []))).alloc (.loop (rec .ready none)) = W1 := ⟨_, rfl⟩
  have hL1 : W1.heap[w.heap.size + 1]? = some (.loop (rec .ready none)) := by
    rw [← hW1]; have := World.alloc_heap_new (w.alloc (.deferred (some []))) (.loop (rec .ready none)); rwa [World.size_alloc] at this
  have hK1 : W1.heap[w.heap.size]? = some (.deferred (some [])) := by
    rw [← hW1]; exact (Below.heap_alloc _ _ _ (by simp)).trans (World.alloc_heap_new w _)
  have hI1 : I 0 W1 := by rw [← hW1]; exact hI0 _
  refine ⟨w.heap.size + 1, [{ target := .collected w.heap.size, args := #[] }], W1, { target := .fn (.func gf) lb, args := #[.func (.yield (w.heap.size + 1)) #[] #[]] }, W1, gf,
    #[.func (.yield (w.heap.size + 1)) #[] #[]] ++ lb, W1, ?_, ?_, ?_, ?_, fun q => by simp [Fence.wide] at q, ?_⟩
  · rw [← hW1, hrec]; exact run_enterLoop_outer _ _ _ _ _
  · simp only [resolve, hg]
    simp [go_sem]
  · intro f' hf'; trivial
  · simp [invoke, go_sem, eg]
  · refine (hcall (w.heap.size + 1)
      (fun k W => I k W ∧ W.heap[w.heap.size + 1]? = some (.loop (rec .ready none)) ∧ W.heap[w.heap.size]? = some (.deferred (some []))) W1
      (fun k A B ⟨h1, h2, h3⟩ hb => ⟨hIb k A B h1 hb, (hb.block _ (Array.getElem?_eq_some_iff.1 h2).1).trans h2, (hb.block _ (Array.getElem?_eq_some_iff.1 h3).1).trans h3⟩)
      (fun k W h => h.1) ?_ ⟨hI1, hL1, hK1⟩).mono ?_
    · rintro k args W hvis ⟨hi, hl, hk⟩
      have hlt : w.heap.size + 1 < W.heap.size := (Array.getElem?_eq_some_iff.1 hl).1
      have hy := run_yield (P := P) (args := args) hl (by rw [hrec]; exact hps k args hvis)
      rw [hrec] at hy
      refine ⟨fn, _, assign, body, hy, roundIn_of_wpIn trivial (hassign k args W _ hvis hi hlt (fun a1 W2 hb2 hax => ?_))⟩
      have hl2 : W2.heap[w.heap.size + 1]? = some (.loop (rec .ready none)) := (hb2.block _ hlt).trans hl
      have hk2 : W2.heap[w.heap.size]? = some (.deferred (some [])) := (hb2.block _ (by omega)).trans hk
      have hlt2 : w.heap.size + 1 < W2.heap.size := Nat.lt_of_lt_of_le hlt hb2.size
      refine ⟨_, run_beginRound hl2 (by rw [hrec]), ?_⟩
      have hl3 : (W2.putObj (w.heap.size + 1) (.loop { rec .ready none with state := .busy })).heap[w.heap.size + 1]? = some (.loop { rec .ready none with state := .busy }) := World.putObj_heap_same hlt2
      have hk3 : (W2.putObj (w.heap.size + 1) (.loop { rec .ready none with state := .busy })).heap[w.heap.size]? = some (.deferred (some [])) := (World.putObj_heap_other (by omega)).trans hk2
      refine wpIn_mono (hbody k args a1 _ hvis (hIput k W2 _ (hIb k W W2 hi hb2) hlt2) (Array.getElem?_eq_some_iff.1 hl3).1 (hAput k args a1 W2 _ hax hlt2)) ?_
      rintro e a3 W3 ⟨rfl, hi4, hl4, hk4⟩
      have hl5 := hl4.trans hl3
      have hk5 := hk4.trans hk3
      have hr := run_endRound (P := P) none hl5
      refine ⟨_, _, hr, rfl, hIput _ W3 _ hi4 (Array.getElem?_eq_some_iff.1 hl5).1, ?_, (World.putObj_heap_other (by omega)).trans hk5⟩
      rw [hrec]
      exact World.putObj_heap_same (Array.getElem?_eq_some_iff.1 hl5).1
    · rintro e W2 (⟨rfl, k, hd, hi, hl, hk⟩ | ⟨k, hbd, rfl, hi, hl, hk⟩)
      · exact ⟨none, _, by have := run_endLoop (P := P) hl (by rw [hrec]; simp); rw [hrec] at this; exact this, hdone k _ hd (hIput k W2 _ hi (Array.getElem?_eq_some_iff.1 hl).1) ((World.putObj_heap_other (by omega)).trans hk)⟩
      · exact hbad k _ hbd hi hk
end Go.Proofs.YtnllidgonghckaaGreatDoor.X
namespace Go.Proofs.YtnllidgonghckaaGreatDoor.X
open Go.RowKit Go.Proofs.YtnllidgonghckaaGreatDoorW.PrintWords Go.Proofs.YtnllidgonghckaaGreatDoorW.PrintLast Go.Proofs.YtnllidgonghckaaGreatDoorW.PrintMore Go.Proofs.YtnllidgonghckaaGreatDoor.Dm
set_option linter.unusedVariables false
set_option linter.unusedSimpArgs false
def keepStep (a comes : Int) (st : DialV × List Int × Int) (n y m d : Int) : DialV × List Int × Int :=
  if n = a then (st.1.set y m d, st.2.1, st.2.2)
  else if st.1.next.shown = d then (st.1.next, st.2.1, st.2.2)
  else if comes < 0 ∨ wday n = comes then (st.1.next.set y m d, st.2.1 ++ [n], st.2.2)
  else (st.1.next, st.2.1, st.2.2 + 1)
def keepSt (on : Int → Option (Int × Int × Int)) (a comes : Int) (D0 : DialV) : Nat → DialV × List Int × Int
  | 0 => (D0, [], 0)
  | k + 1 => match on (a + (k : Int)) with
    | some (y, m, d) => keepStep a comes (keepSt on a comes D0 k) (a + (k : Int)) y m d
    | none => keepSt on a comes D0 k
theorem keepSt_bd {on : Int → Option (Int × Int × Int)} (hon : ∀ n y m d, on n = some (y, m, d) → 0 ≤ y ∧ y ≤ 4000 ∧ 1 ≤ m ∧ m ≤ 12 ∧ 0 ≤ d ∧ d ≤ 31) (a comes : Int) (D0 : DialV) : ∀ k : Nat, (∀ j : Nat, j < k → (on (a + (j : Int))).isSome = true) →
    (keepSt on a comes D0 k).2.1.length ≤ k ∧ 0 ≤ (keepSt on a comes D0 k).2.2 ∧ (keepSt on a comes D0 k).2.2 ≤ k ∧ (0 < k → (keepSt on a comes D0 k).1.ok k)
  | 0, _ => ⟨Nat.le_refl _, Int.le_refl _, Int.le_refl _, fun h => absurd h (by omega)⟩
  | k + 1, hs => by
    obtain ⟨h1, h2, h3, h4⟩ := keepSt_bd hon a comes D0 k (fun j hj => hs j (by omega))
    have hk := hs k (by omega)
    cases hq : on (a + (k : Int)) with
    | none => rw [hq] at hk; cases hk
    | some p =>
      obtain ⟨y, m, d⟩ := p
      have hb := hon _ _ _ _ hq
      have e : keepSt on a comes D0 (k + 1) = keepStep a comes (keepSt on a comes D0 k) (a + (k : Int)) y m d := by
        show (match on (a + (k : Int)) with | some (y, m, d) => keepStep a comes (keepSt on a comes D0 k) (a + (k : Int)) y m d | none => keepSt on a comes D0 k) = _
        rw [hq]
      rw [e]
      unfold keepStep
      split
      · exact ⟨by dsimp only; omega, h2, by dsimp only; push_cast; omega, fun _ => DialV.set_ok _ y m d _ (by omega) hb⟩
      · rename_i hne
        have hk0 : 0 < k := by
          rcases Nat.eq_zero_or_pos k with c | c
          · subst c; exact absurd (by simp) hne
          · exact c
        have hn := DialV.next_ok _ _ (h4 hk0)
        split
        · exact ⟨by dsimp only; omega, h2, by dsimp only; push_cast; omega, fun _ => by push_cast; exact hn⟩
        · split
          · exact ⟨by simp only [List.length_append, List.length_singleton]; omega, h2, by dsimp only; push_cast; omega, fun _ => DialV.set_ok _ y m d _ (by omega) hb⟩
          · exact ⟨by dsimp only; omega, by dsimp only; omega, by dsimp only; push_cast; omega, fun _ => by push_cast; exact hn⟩
theorem wp_calm {P : Program} {c : Code} {K : Act → World → Prop} {Q : Exit → Act → World → Prop} {a : Act} {w : World} (h : c.wp P (Exit.then K (fun _ _ _ => False)) a w) : c.wp P (Exit.then K Q) a w :=
  wp_mono h (fun e a w q => by cases e <;> first | exact q | exact q.elim)
section
variable {S : Nat} {X : Nat → Prop} {w W W1 : World}
theorem Held.setCell {g : Nat} {u : Value} (hw : W1 = W.setCell ⟨g, 0, none⟩ u) (hx : X g) (h : Held S X w W) : Held S X w W1 := by
  rw [hw]
  exact ⟨h.os, h.tape, h.output, by simpa [World.setCell] using h.size, fun k hk hn => (Below.heap_setCell W ⟨g, 0, none⟩ u k (fun e => hn (e ▸ hx))).trans (h.block k hk hn)⟩
theorem R_setCell_low {α : Type} {d : Kd α} {e base g B : Nat} {v u : Value} {xs : List α} (hw : W1 = W.setCell ⟨g, 0, none⟩ u) (hlt : g < B) (h : d.R e W base (fun k => B ≤ k) v xs) : d.R e W1 base (fun k => B ≤ k) v xs := by
  rw [hw]
  exact Kd.R_step h (fun k hk _ => Below.heap_setCell W ⟨g, 0, none⟩ u k (by show k ≠ g; omega))
theorem blk_setCell {g : Nat} {t : TypeId} {old u : Value} (hw : W1 = W.setCell ⟨g, 0, none⟩ u) (h : W.heap[g]? = some (.cells #[old] t (0, 0))) : W1.heap[g]? = some (.cells #[u] t (0, 0)) := by
  rw [hw]; exact blk_set h 0 u
theorem blk_setFar {g k : Nat} {o : Obj} {u : Value} (hw : W1 = W.setCell ⟨g, 0, none⟩ u) (hne : k ≠ g) (h : W.heap[k]? = some o) : W1.heap[k]? = some o := by
  rw [hw]; exact obj_far h (p := ⟨g, 0, none⟩) hne u
theorem Held.of_below (h : Below S w W) (hs : S ≤ W.heap.size := by first | exact h.size | assumption) : Held S X w W := ⟨h.os, h.tape, h.output, hs, fun k hk _ => h.block k hk⟩
theorem Held.putObj {g : Nat} {o : Obj} (hs : S ≤ g) (h : Held S X w W) : Held S X w (W.putObj g o) :=
  ⟨h.os, h.tape, h.output, by simpa [World.putObj] using h.size, fun k hk hn => (World.putObj_heap_other (by omega)).trans (h.block k hk hn)⟩
theorem Opd.rebase {ep : Int} {A : Option Addr} {c : Nat} {cs F : List Int} {a5 : Addr} {c5 mb : Nat} {w0 : World} (h : Opd ep A c cs F a5 c5 mb w W) (hB : Below w0.heap.size w0 w) (rc : Kd.C (Kd.int .i64) w0 A cs.length cs) : Opd ep A c cs F a5 c5 mb w0 W ∧ w.heap.size ≤ a5.block ∧ w.heap.size ≤ mb :=
  ⟨⟨h.hF, h.cal, rc, h.c, Kd.R_lower h.f hB.size, h.m, ⟨h.b.os.trans hB.os, h.b.tape.trans hB.tape, h.b.output.trans hB.output, Nat.le_trans hB.size h.b.size, fun k hk => (h.b.block k (Nat.lt_of_lt_of_le hk hB.size)).trans (hB.block k hk)⟩, Nat.le_trans hB.size h.zmb⟩,
    ((Kd.R_bound h.f).1 a5.block rfl).2.1, h.zmb⟩
end
set_option maxRecDepth 100000 in
theorem store_dial (D : DialV) {g : Nat} {W : World} {old : Value} (h : W.heap[g]? = some (.cells #[old] 95 (0, 0))) : (storeVar 95 ⟨g, 0, none⟩ D.val).run Tryz.prog W = .ok () (W.setCell ⟨g, 0, none⟩ D.val) := by
  have hu := Tryz.underlying95
  have hc : W.cell? ⟨g, 0, none⟩ = some old := (blk_cell h 0).trans rfl
  have hz := blk_frozen h 0
  cases D <;> (unfold DialV.val; go_simp)
set_option maxRecDepth 100000 in
theorem store_slice {base : Nat} {ok : Nat → Prop} {v : Value} {xs : List Int} {W' : World} (hR : Kd.R (Kd.int .i64) 3 W' base ok v xs) {g : Nat} {W : World} {old : Value} (h : W.heap[g]? = some (.cells #[old] 22 (0, 0))) : (storeVar 22 ⟨g, 0, none⟩ v).run Tryz.prog W = .ok () (W.setCell ⟨g, 0, none⟩ v) := by
  have hu := Tryz.underlying22
  have hc : W.cell? ⟨g, 0, none⟩ = some old := (blk_cell h 0).trans rfl
  have hz := blk_frozen h 0
  obtain ⟨Av, cv, rfl⟩ := Kd.R_slice hR
  generalize xs.length = n
  go_simp
structure KeepI (on : Int → Option (Int × Int × Int)) (a comes : Int) (D0 : DialV) (gx go gw : Nat) (w : World) (k : Nat) (W : World) : Prop where
  hh : Held w.heap.size (fun q => q = gx ∨ q = go ∨ q = gw) w W
  sm : ∀ j : Nat, j < k → (on (a + (j : Int))).isSome = true
  x : W.heap[gx]? = some (.cells #[(keepSt on a comes D0 k).1.val] 95 (0, 0))
  o : ∃ v, W.heap[go]? = some (.cells #[v] 22 (0, 0)) ∧ Kd.R (Kd.int .i64) 3 W (w.heap.size + 2) (fun q => w.heap.size + 2 ≤ q) v (keepSt on a comes D0 k).2.1
  g : W.heap[gw]? = some (.cells #[.int .i64 (keepSt on a comes D0 k).2.2] 3 (0, 0))
section
variable {on : Int → Option (Int × Int × Int)} {a comes : Int} {D0 : DialV} {gx go gw : Nat} {w : World} {k : Nat} {W W1 : World}
theorem KeepI.below (h : KeepI on a comes D0 gx go gw w k W) (hb : Below W.heap.size W W1) : KeepI on a comes D0 gx go gw w k W1 :=
  ⟨h.hh.below hb, h.sm, blk_below h.x hb, (let ⟨v, h1, h2⟩ := h.o; ⟨v, blk_below h1 hb, Kd.R_below h2 hb⟩), blk_below h.g hb⟩
theorem KeepI.put (h : KeepI on a comes D0 gx go gw w k W) (hx : gx < w.heap.size) (ho : go < w.heap.size) (hg : gw < w.heap.size) (o : Obj) : KeepI on a comes D0 gx go gw w k (W.putObj (w.heap.size + 1) o) :=
  ⟨h.hh.putObj (by omega), h.sm, (World.putObj_heap_other (by omega)).trans h.x, (let ⟨v, h1, h2⟩ := h.o; ⟨v, (World.putObj_heap_other (by omega)).trans h1, Kd.R_step h2 (fun q hq _ => World.putObj_heap_other (by omega))⟩), (World.putObj_heap_other (by omega)).trans h.g⟩
theorem KeepI.of (D : DialV) (out : List Int) (wr : Int) (e : keepSt on a comes D0 k = (D, out, wr)) (hh : Held w.heap.size (fun q => q = gx ∨ q = go ∨ q = gw) w W) (sm : ∀ j : Nat, j < k → (on (a + (j : Int))).isSome = true)
    (x : W.heap[gx]? = some (.cells #[D.val] 95 (0, 0))) (v : Value) (ho : W.heap[go]? = some (.cells #[v] 22 (0, 0))) (hR : Kd.R (Kd.int .i64) 3 W (w.heap.size + 2) (fun q => w.heap.size + 2 ≤ q) v out)
    (g : W.heap[gw]? = some (.cells #[.int .i64 wr] 3 (0, 0))) : KeepI on a comes D0 gx go gw w k W := by
  refine ⟨hh, sm, ?_, ⟨v, ho, ?_⟩, ?_⟩
  · rw [e]; exact x
  · rw [e]; exact hR
  · rw [e]; exact g
theorem blk_grown_low {α : Type} {dd : Kd α} {e base B g' : Nat} {v : Value} {xs : List α} {oo : Obj} (h : W.heap[g']? = some oo) (hg : W.grownBy W1 v.ownBlock) (hR : dd.R e W base (fun q => B ≤ q) v xs) (hlt : g' < B) : W1.heap[g']? = some oo :=
  (hg.block g' (blk_lt h) (fun e => by have := hR.1 g' e.symm; omega)).trans h
theorem round_end {Wk : World} (hh : Held w.heap.size (fun q => q = gx ∨ q = go ∨ q = gw) w Wk) (HH : Held (w.heap.size + 2) (fun q => q = gx ∨ q = go ∨ q = gw) Wk W) (hl : gx < w.heap.size ∧ go < w.heap.size ∧ gw < w.heap.size)
    (D : DialV) (out : List Int) (wr : Int) (e : keepSt on a comes D0 k = (D, out, wr)) (sm : ∀ j : Nat, j < k → (on (a + (j : Int))).isSome = true)
    (x : W.heap[gx]? = some (.cells #[D.val] 95 (0, 0))) (v : Value) (ho : W.heap[go]? = some (.cells #[v] 22 (0, 0))) (hR : Kd.R (Kd.int .i64) 3 W (w.heap.size + 2) (fun q => w.heap.size + 2 ≤ q) v out)
    (g : W.heap[gw]? = some (.cells #[.int .i64 wr] 3 (0, 0))) : KeepI on a comes D0 gx go gw w k W ∧ W.heap[w.heap.size + 1]? = Wk.heap[w.heap.size + 1]? ∧ W.heap[w.heap.size]? = Wk.heap[w.heap.size]? :=
  ⟨KeepI.of D out wr e (hh.trans (HH.mono (by omega))) sm x v ho hR g, HH.block _ (by omega) (by rintro (h | h | h) <;> omega), HH.block _ (by omega) (by rintro (h | h | h) <;> omega)⟩
end
end Go.Proofs.YtnllidgonghckaaGreatDoor.X
namespace Go.Proofs.YtnllidgonghckaaGreatDoor.X
open Go.RowKit Go.Proofs.YtnllidgonghckaaGreatDoorW.PrintWords Go.Proofs.YtnllidgonghckaaGreatDoorW.PrintLast Go.Proofs.YtnllidgonghckaaGreatDoorW.PrintMore Go.Proofs.YtnllidgonghckaaGreatDoor.Dm
set_option linter.unusedVariables false
set_option linter.unusedSimpArgs false
attribute [local go_sem] max2_int min2_int max_two min_two max_three min_three max_four min_four
attribute [local go_sem] Oper.semAt_some
def Kp0.T : Bool × List (List Nat × List Nat) := (true, [([], []), ([0], [0]), ([], []), ([], []), ([1, 2, 3, 1], [1, 2, 3])])
def Kp0.B : List Nat := [0, 1, 0, 0, 15]
theorem Kp0.tab : rtab .any (opsOf Tryz.f73 0) = Kp0.T := by kernel_rfl
theorem Kp0.bits : waitsOk Kp0.T.2 Kp0.B = true := by kernel_rfl
def Kp6.T : Bool × List (List Nat × List Nat) := (true, [([], []), ([0], [0]), ([], []), ([2], [2]), ([1, 3], [1, 3])])
def Kp6.B : List Nat := [0, 1, 0, 4, 15]
theorem Kp6.tab : rtab .any (opsOf Tryz.f73 6) = Kp6.T := by kernel_rfl
theorem Kp6.bits : waitsOk Kp6.T.2 Kp6.B = true := by kernel_rfl
def Kp7.T : Bool × List (List Nat × List Nat) := (true, [([], []), ([0], [0]), ([1], [1]), ([2], [2]), ([3, 2, 2], [2, 3]), ([2], [2]), ([4, 5, 2], [2, 4, 5]), ([2, 6], [2, 6])])
def Kp7.B : List Nat := [0, 1, 3, 7, 15, 7, 63, 127]
theorem Kp7.tab : rtab .any (opsOf Tryz.f73 7) = Kp7.T := by kernel_rfl
theorem Kp7.bits : waitsOk Kp7.T.2 Kp7.B = true := by kernel_rfl
set_option maxHeartbeats 8000000 in
set_option maxRecDepth 100000 in
theorem keep1_b (ep : Int) (A : Option Addr) (c : Nat) (cs : List Int) (epn : Int) (An : Option Addr) (cn : Nat) (csn : List Int) (last a b comes : Int) (D0 : DialV) (gR gf gt gx gc go gw : Nat) (w0 W : World) (hB : Below w0.heap.size w0 W) (hr : Kd.C (Kd.int .i64) w0 A cs.length cs) (hc : cs.length ≤ c) (hrn : Kd.C (Kd.int .i64) w0 An csn.length csn) (hcn : csn.length ≤ cn) (hcal : calB ep cs = true) (hcaln : calB epn csn = true)
    (bR : W.heap[gR]? = some (.cells #[.int .i64 ep, .slice A cs.length c, .int .i64 epn, .slice An csn.length cn, .int .i64 last] 63 (0, 0))) (bf : W.heap[gf]? = some (.cells #[.int .i64 a] 3 (0, 0))) (bt : W.heap[gt]? = some (.cells #[.int .i64 b] 3 (0, 0))) (bx : W.heap[gx]? = some (.cells #[D0.val] 95 (0, 0))) (bc : W.heap[gc]? = some (.cells #[.int .i64 comes] 3 (0, 0))) (bo : W.heap[go]? = some (.cells #[.slice none 0 0] 22 (0, 0))) (bw : W.heap[gw]? = some (.cells #[.int .i64 0] 3 (0, 0)))
    (hge : w0.heap.size ≤ gx ∧ w0.heap.size ≤ go ∧ w0.heap.size ≤ gw) (hne : gf ≠ gw ∧ gc ≠ gw) (hab : 0 ≤ a ∧ b ≤ 2000000 ∧ a ≤ b ∧ b ≤ a + 1500) (hcm : comes ≤ 6) :
    Calls Tryz.prog 73 #[.pointer (some ⟨gR, 0, none⟩), .pointer (some ⟨gf, 0, none⟩), .pointer (some ⟨gt, 0, none⟩), .pointer (some ⟨gx, 0, none⟩), .pointer (some ⟨gc, 0, none⟩), .pointer (some ⟨go, 0, none⟩), .pointer (some ⟨gw, 0, none⟩)] W fun e w' => (Held W.heap.size (fun q => q = gx ∨ q = go ∨ q = gw) W w') ∧ ((e = .returned (.tuple #[]) ∧ ∃ k : Nat, a + (k : Int) = b + 1 ∧ (∀ j : Nat, j < k → (onOf ep cs epn csn last (a + (j : Int))).isSome = true) ∧ (∃ v, w'.heap[go]? = some (.cells #[v] 22 (0, 0)) ∧ Kd.R (Kd.int .i64) 3 w' w0.heap.size (fun q => W.heap.size ≤ q) v (keepSt (onOf ep cs epn csn last) a comes D0 k).2.1) ∧ w'.heap[gw]? = some (.cells #[.int .i64 (keepSt (onOf ep cs epn csn last) a comes D0 k).2.2] 3 (0, 0))) ∨
      ∃ k : Nat, a + (k : Int) ≤ b ∧ onOf ep cs epn csn last (a + (k : Int)) = none ∧ e = .panicked [{ v := .iface 121 (.agg #[.int .i64 (a + (k : Int))]), recovered := false }]) := by
  have hu0 := Tryz.underlying63
  have hu1 := Tryz.underlying38
  have hu2 := Tryz.underlying92
  have hu3 := Tryz.underlying95
  have hu4 := Tryz.underlying22
  have hmf : ∀ (fn : Go.Fn) (first cap : Array Value) (w : World), (Instr.makeFunc fn first cap).run Tryz.prog w = .ok (.func fn first cap) w := fun _ _ _ _ => rfl
  obtain ⟨F, hF⟩ : ∃ F, firsts ep cs = F := ⟨_, rfl⟩
  obtain ⟨Fn, hFn⟩ : ∃ F, firsts epn csn = F := ⟨_, rfl⟩
  have HFF := Aside0.mk hF
  have HFFn := Aside0.mk hFn
  have HB := Aside0.mk hB
  have HR0 := Aside0.mk hr
  have HRn0 := Aside0.mk hrn
  have HR := Aside0.mk (Kd.C_below hr hB)
  have HRn := Aside0.mk (Kd.C_below hrn hB)
  have HC := Aside0.mk hc
  have HCn := Aside0.mk hcn
  have HCAL := Aside0.mk hcal
  have HCALn := Aside0.mk hcaln
  have HGE := Aside0.mk hge
  have HNE := Aside0.mk hne
  have HAB := Aside0.mk hab
  have HCM := Aside0.mk hcm
  have BKR := Aside0.mk bR
  have BKf := Aside0.mk bf
  have BKt := Aside0.mk bt
  have BKx := Aside0.mk bx
  have BKc := Aside0.mk bc
  have BKo := Aside0.mk bo
  have BKw := Aside0.mk bw
  have HW := Aside0.mk (Below.refl W.heap.size W)
  have HLT := Aside0.mk (show gx < W.heap.size ∧ go < W.heap.size ∧ gw < W.heap.size from ⟨blk_lt bx, blk_lt bo, blk_lt bw⟩)
  clear hF hFn hB hr hc hrn hcn hcal hcaln hge hne hab hcm bR bf bt bx bc bo bw
  refine (callsIn_wide (n := 3)).1 (callsIn_of_wp_marks Tryz.func73 rfl trivial ?_ rfl)
  simp only [Tryz.ntmps73, List.size_toArray, List.length_cons, List.length_nil, Nat.reduceAdd, Nat.reduceSub, Array.replicate_succ, Array.replicate_zero, List.push_toArray, List.append_toArray, List.nil_append, List.cons_append]
  refine wpIn_wide.2 ?_
  go_upto_region 0 with (fail)
  refine wp_calm ?_
  replace HW := zWD HW
  replace BKR := zbD BKR
  replace BKf := zbD BKf
  replace BKt := zbD BKt
  replace BKx := zbD BKx
  replace BKc := zbD BKc
  replace BKo := zbD BKo
  replace BKw := zbD BKw
  refine zStart 5 (fun w' => w'.cell? ⟨gR, 0, none⟩ = some (.int .i64 ep) ∧ w'.cell? ⟨gR, 1, none⟩ = some (.slice A cs.length c) ∧ w'.cell? ⟨gR, 2, none⟩ = some (.int .i64 epn) ∧ w'.cell? ⟨gR, 3, none⟩ = some (.slice An csn.length cn) ∧ w'.cell? ⟨gR, 4, none⟩ = some (.int .i64 last) ∧ w'.cell? ⟨gf, 0, none⟩ = some (.int .i64 a) ∧ w'.cell? ⟨gt, 0, none⟩ = some (.int .i64 b)) #[false, false, false, false, false] Kp0.tab Kp0.bits ⟨zx BKR 0, zx BKR 1, zx BKR 2, zx BKR 3, zx BKR 4, zx BKf 0, zx BKt 0⟩ (fun hHeld HT_ HW_ => ?_)
  generalize W.drew = wd at HW BKR BKf BKt BKx BKc BKo BKw hHeld ⊢
  refine zT 0 (some 9) HT_ HW_ hHeld ?_
  refine zT 2 (some 11) HT_ HW_ hHeld ?_
  refine zT 3 (some 12) HT_ HW_ hHeld ?_
  refine zGo 1 (some 10) HT_ Tryz.func68 #[.agg #[.int .i64 ep, .slice A cs.length c, .int .i64 epn, .slice An csn.length cn, .int .i64 last]] ?_
  with_reducible refine (opens_opd ep A c cs epn An cn csn last W _ HR.out HC.out HRn.out HCn.out HCAL.out HCALn.out HW.out F Fn HFF.out HFFn.out).mono ?_
  rintro e wd_1 ⟨a5, c5, mb, a5n, c5n, mbn, rfl, ho, hon, hb⟩
  replace HW := zW HW hb
  replace BKR := zb BKR hb
  replace BKf := zb BKf hb
  replace BKt := zb BKt hb
  replace BKx := zb BKx hb
  replace BKc := zb BKc hb
  replace BKo := zb BKo hb
  replace BKw := zb BKw hb
  have OP := Aside0.mk ho; have OPn := Aside0.mk hon; clear hon
  clear ho
  clear hb hHeld
  refine zV ⟨zx BKR 0, zx BKR 1, zx BKR 2, zx BKR 3, zx BKR 4, zx BKf 0, zx BKt 0⟩ (fun hHeld => ?_)
  refine zGo 4 (some 13) HT_ Tryz.func74 #[.agg #[.int .i64 ep, .slice A cs.length c, .int .i64 epn, .slice An csn.length cn, .int .i64 last, .int .i64 ep, .slice A cs.length c, .int .i64 0, .int .i64 0, .int .i64 0, .slice (some a5) F.length c5, .map (some mb), .int .i64 epn, .slice An csn.length cn, .int .i64 0, .int .i64 0, .int .i64 0, .slice (some a5n) Fn.length c5n, .map (some mbn)], .int .i64 a, .int .i64 b] ?_
  with_reducible refine (days_l ep A c cs epn An cn csn F Fn a5 c5 mb a5n c5n mbn last a b _).mono ?_
  rintro e wd_2 ⟨gr2, gf2, gt2, rfl, hbk, hgez, hb⟩
  have HZZ := HW
  replace HW := zW HW hb
  replace BKR := zb BKR hb
  replace BKf := zb BKf hb
  replace BKt := zb BKt hb
  replace BKx := zb BKx hb
  replace BKc := zb BKc hb
  replace BKo := zb BKo hb
  replace BKw := zb BKw hb
  replace OP := zo OP hb
  replace OPn := zo OPn hb
  have HBK2 := Aside0.mk hbk; have HGE2 := Aside0.mk (show W.heap.size ≤ gr2 ∧ W.heap.size ≤ gf2 ∧ W.heap.size ≤ gt2 from ⟨Nat.le_trans HZZ.out.size hgez.1, Nat.le_trans HZZ.out.size hgez.2.1, Nat.le_trans HZZ.out.size hgez.2.2⟩); have ho := hgez; clear hgez hbk
  clear ho
  clear hb hHeld
  refine zV ⟨zx BKR 0, zx BKR 1, zx BKR 2, zx BKR 3, zx BKR 4, zx BKf 0, zx BKt 0⟩ (fun hHeld => ?_)
  refine done_ (done_of HT_.out (by kernel_rfl)) ?_
  go_wp2
  clear hHeld HZZ HT_ HW_ HR HRn HC HCn HCAL HCALn HFF HFFn BKR
  generalize Value.agg #[.int .i64 ep, .slice A cs.length c, .int .i64 epn, .slice An csn.length cn, .int .i64 last] = v9
  generalize Value.agg #[.int .i64 ep, .slice A cs.length c, .int .i64 epn, .slice An csn.length cn, .int .i64 last, .int .i64 ep, .slice A cs.length c, .int .i64 0, .int .i64 0, .int .i64 0, .slice (some a5) F.length c5, .map (some mb), .int .i64 epn, .slice An csn.length cn, .int .i64 0, .int .i64 0, .int .i64 0, .slice (some a5n) Fn.length c5n, .map (some mbn)] = v10
  have h0 : KeepI (onOf ep cs epn csn last) a comes D0 gx go gw wd_2 0 wd_2 := ⟨Held.refl (Nat.le_refl _), fun j hj => absurd hj (by omega), BKx.out, ⟨_, BKo.out, Kd.R_nil _ _ _ _ _⟩, BKw.out⟩
  have lx := blk_lt BKx.out
  have lo := blk_lt BKo.out
  have lw := blk_lt BKw.out
  have hq := HW.out.size
  have HL2 := Aside0.mk (show gx < wd_2.heap.size ∧ go < wd_2.heap.size ∧ gw < wd_2.heap.size from ⟨lx, lo, lw⟩)
  have eg : ∀ args w, (callFunc 91 args).run Tryz.prog w = .ok (.enter 91 args) w := fun args w => enters_ Tryz.func91 (by kernel_rfl) rfl args w
  refine (wpIn_wide (n := 3)).1 (range_keep (gf := 91) (lb := #[.pointer (some ⟨gf2, 0, none⟩), .pointer (some ⟨gt2, 0, none⟩), .pointer (some ⟨gr2, 0, none⟩)]) (by rfl) eg
    (KeepI (onOf ep cs epn csn last) a comes D0 gx go gw wd_2)
    (fun k args => ∃ y mo d, a + (k : Int) ≤ b ∧ onOf ep cs epn csn last (a + (k : Int)) = some (y, mo, d) ∧ args = #[.int .i64 (a + (k : Int)), .agg #[.int .i64 y, .int .i64 mo, .int .i64 d]])
    (fun k => a + (k : Int) = b + 1) (fun k => a + (k : Int) ≤ b ∧ onOf ep cs epn csn last (a + (k : Int)) = none)
    (fun k => [{ v := .iface 121 (.agg #[.int .i64 (a + (k : Int))]), recovered := false }])
    (fun k args a1 W1 => ∃ y mo d gd, a + (k : Int) ≤ b ∧ onOf ep cs epn csn last (a + (k : Int)) = some (y, mo, d) ∧ W1.heap[gd]? = some (.cells #[.int .i64 y, .int .i64 mo, .int .i64 d] 38 (0, 0)) ∧ wd_2.heap.size + 2 ≤ gd ∧ a1 = { tmps := #[.pointer (some ⟨gR, 0, none⟩), .pointer (some ⟨gf, 0, none⟩), .pointer (some ⟨gt, 0, none⟩), .pointer (some ⟨gx, 0, none⟩), .pointer (some ⟨gc, 0, none⟩), .pointer (some ⟨go, 0, none⟩), .pointer (some ⟨gw, 0, none⟩), .int .i64 (a + (k : Int)), .pointer (some ⟨gd, 0, none⟩), v9, v10, .int .i64 a, .int .i64 b, .func (.func 91) #[] #[.pointer (some ⟨gf2, 0, none⟩), .pointer (some ⟨gt2, 0, none⟩), .pointer (some ⟨gr2, 0, none⟩)], .int .i64 (a + (k : Int)), .agg #[.int .i64 y, .int .i64 mo, .int .i64 d], undef, undef, undef, undef, undef, undef, undef, undef, undef, undef, undef, undef, undef, undef, undef, undef, undef, undef, undef, undef, undef, undef, undef, undef, undef, undef, undef, undef, undef, undef], defers := [] })
    (fun o => h0.below (below_alloc (below_alloc (Below.refl _ _) _) _)) (fun k A B h hb => h.below hb) (fun k A o h _ => h.put lx lo lw o) ?aput ?ps ?call ?assign ?body ?done ?bad)
  case aput => rintro k args b1 A o ⟨y, mo, d, gd, h0, h1, h2, h3, h4⟩ hlt; exact ⟨y, mo, d, gd, h0, h1, (World.putObj_heap_other (by omega)).trans h2, h3, h4⟩
  case ps => rintro k args ⟨y, mo, d, _, _, rfl⟩; rfl
  case call =>
    intro l J Wj hJb hJI hround hj0
    have q1 := Opd.rebase OP.out HB.out HR0.out
    have q2 := Opd.rebase OPn.out HB.out HRn0.out
    have g1 := HGE2.out
    have g2 := HLT.out
    have g3 := HGE.out
    have g4 := HB.out.size
    refine (iter_b ep A c cs epn An cn csn F Fn a5 c5 mb a5n c5n mbn last a b w0 l (3 - 1) gr2 gf2 gt2 HAB.out.1 HAB.out.2.1 HAB.out.2.2.1 J hJb ?_ ?_ Wj hj0).mono ?_
    · intro k Wk hjk
      have hi := (hJI k Wk hjk).hh
      exact ⟨⟨hi.blk HBK2.out.1 (blk_lt HBK2.out.1) (by rintro (h | h | h) <;> omega), hi.blk HBK2.out.2.1 (blk_lt HBK2.out.2.1) (by rintro (h | h | h) <;> omega), hi.blk HBK2.out.2.2 (blk_lt HBK2.out.2.2) (by rintro (h | h | h) <;> omega)⟩,
        Opd.held q1.1 (Nat.le_refl _) hi (by have := q1.2.1; rintro (h | h | h) <;> omega) (by have := q1.2.2; rintro (h | h | h) <;> omega) (by rintro q (h | h | h) <;> omega),
        Opd.held q2.1 (Nat.le_refl _) hi (by have := q2.2.1; rintro (h | h | h) <;> omega) (by have := q2.2.2; rintro (h | h | h) <;> omega) (by rintro q (h | h | h) <;> omega)⟩
    · intro k y mo d Wk hjk hle hon
      exact hround k _ Wk ⟨y, mo, d, hle, hon, rfl⟩ hjk
    · rintro e W' (⟨h1, k, h2, h3⟩ | ⟨k, h1, h2, h3, h4⟩)
      · exact .inl ⟨h1, k, h2, h3⟩
      · exact .inr ⟨k, ⟨h1, h2⟩, h3, h4⟩
  case done =>
    rintro k Wk hd hi hk
    go_wp2
    have hh : Held W.heap.size (fun q => q = gx ∨ q = go ∨ q = gw) W (Wk.putObj wd_2.heap.size (.deferred none)) := (Held.trans (Held.of_below HW.out) (hi.hh.mono hq)).putObj hq
    obtain ⟨v, hv1, hv2⟩ := hi.o
    refine ⟨by simp, .inl ⟨_, _, rfl, run_takeDeferred hk, ?_⟩⟩
    have g4 := HB.out.size
    exact ⟨_, results_none rfl _ _ _, hh, .inl ⟨rfl, k, hd, hi.sm, ⟨v, (World.putObj_heap_other (by omega)).trans hv1, Kd.R_mono (Kd.R_lower (Kd.R_step hv2 (fun q hq' _ => World.putObj_heap_other (by omega))) (by omega)) (fun q hq' => by omega)⟩, (World.putObj_heap_other (by omega)).trans hi.g⟩⟩
  case bad =>
    rintro k Wk hd hi hk
    go_wp2
    have hh : Held W.heap.size (fun q => q = gx ∨ q = go ∨ q = gw) W (Wk.putObj wd_2.heap.size (.deferred none)) := (Held.trans (Held.of_below HW.out) (hi.hh.mono hq)).putObj hq
    refine ⟨by simp, .inl ⟨_, _, rfl, run_takeDeferred hk, ?_⟩⟩
    exact ⟨hh, .inr ⟨k, hd.1, hd.2, rfl⟩⟩
  case assign =>
    rintro k args Wk K ⟨y, mo, d, hle, hon, rfl⟩ hi hlt hK
    have hu1 := Tryz.underlying38
    have HW := Aside0.mk (Below.refl Wk.heap.size Wk)
    have HKK := Aside0.mk hK
    have HLE := Aside0.mk hle
    have HON := Aside0.mk hon
    have HLT2 := Aside0.mk hlt
    clear hK hle hon hlt hi
    obtain ⟨nn, hnn⟩ : ∃ nn, a + (k : Int) = nn := ⟨_, rfl⟩
    simp only [List.zip_toArray, List.zip_cons_cons, List.zip_nil_right, List.zip_nil_left, List.foldl_toArray', List.foldl_toArray, List.foldl_cons, List.foldl_nil, List.setIfInBounds_toArray, List.set_cons_zero, List.set_cons_succ, List.size_toArray, List.length_cons, List.length_nil]
    rw [hnn]
    have HNN := Aside0.mk hnn
    clear hnn
    gi_wp2
    exact HKK.out _ _ (below_alloc (Below.refl _ _) _) ⟨y, mo, d, Wk.heap.size, HLE.out, HON.out, blk_new Wk _, HLT2.out, by rw [HNN.out]⟩
  case body =>
    rintro k args a1 Wk ⟨y0, mo0, d0, hle0, hon0, rfl⟩ hi hlt ⟨y, mo, d, gd, hle, hon, hgd, hgd2, rfl⟩
    clear hon0 hle0 y0 mo0 d0
    have hbd := keepSt_bd (on := onOf ep cs epn csn last) (fun n y m d h => onOf_bd _ _ _ _ _ _ _ _ _ h) a comes D0 k hi.sm
    have hdt := onOf_bd _ _ _ _ _ _ _ _ _ hon
    have hst : keepSt (onOf ep cs epn csn last) a comes D0 (k + 1) = keepStep a comes (keepSt (onOf ep cs epn csn last) a comes D0 k) (a + (k : Int)) y mo d := by
      show (match onOf ep cs epn csn last (a + (k : Int)) with | some (y, m, d) => keepStep a comes (keepSt (onOf ep cs epn csn last) a comes D0 k) (a + (k : Int)) y m d | none => keepSt (onOf ep cs epn csn last) a comes D0 k) = _
      rw [hon]
    have hsm : ∀ j : Nat, j < k + 1 → (onOf ep cs epn csn last (a + (j : Int))).isSome = true := by
      intro j hj
      rcases Nat.lt_or_ge j k with c | c
      · exact hi.sm j c
      · have : j = k := by omega
        rw [this, hon]; rfl
    obtain ⟨hh, _, hx, ⟨v, hvo, hvR⟩, hg⟩ := hi
    obtain ⟨st, hS⟩ : ∃ st, keepSt (onOf ep cs epn csn last) a comes D0 k = st := ⟨_, rfl⟩
    rw [hS] at hbd hst hx hvR hg
    obtain ⟨D, out, wr⟩ := st
    have hk0 := HAB.out
    have HL2' := HL2.out
    have HLF := Aside0.mk (show gc < wd_2.heap.size ∧ gf < wd_2.heap.size from ⟨blk_lt BKc.out, blk_lt BKf.out⟩)
    have NExo := Aside0.mk (blk_ne BKx.out BKo.out (by decide))
    have NExw := Aside0.mk (blk_ne BKx.out BKw.out (by decide))
    have NEow := Aside0.mk (blk_ne BKo.out BKw.out (by decide))
    have NEcx := Aside0.mk (blk_ne BKc.out BKx.out (by decide))
    have NEco := Aside0.mk (blk_ne BKc.out BKo.out (by decide))
    have NEfx := Aside0.mk (blk_ne BKf.out BKx.out (by decide))
    have NEfo := Aside0.mk (blk_ne BKf.out BKo.out (by decide))
    have NEcw := Aside0.mk HNE.out.2
    have NEfw := Aside0.mk HNE.out.1
    have NEdx := Aside0.mk (show gd ≠ gx by omega)
    have NEdo := Aside0.mk (show gd ≠ go by omega)
    have NEdw := Aside0.mk (show gd ≠ gw by omega)
    have hcl := hh.blk BKc.out (blk_lt BKc.out) (by have h1 := NEcx.out; have h2 := NEco.out; have h3 := NEcw.out; rintro (h | h | h) <;> omega)
    have hfl := hh.blk BKf.out (blk_lt BKf.out) (by have h1 := NEfx.out; have h2 := NEfo.out; have h3 := NEfw.out; rintro (h | h | h) <;> omega)
    clear BKx BKo BKw BKc BKf BKt
    have BKx := Aside0.mk hx
    have BKo := Aside0.mk hvo
    have BKw := Aside0.mk hg
    have BKd := Aside0.mk hgd
    have BKc := Aside0.mk hcl
    have BKf := Aside0.mk hfl
    have HO := Aside0.mk hvR
    have HHH := Aside0.mk hh
    have HSM := Aside0.mk hsm
    have HBD := Aside0.mk hbd
    have HDT := Aside0.mk hdt
    have HH := Aside0.mk (Held.refl (X := fun q => q = gx ∨ q = go ∨ q = gw) (show wd_2.heap.size + 2 ≤ Wk.heap.size by omega))
    have HKK := Aside0.mk (show 0 ≤ a + (k : Int) ∧ a + (k : Int) ≤ 2000000 ∧ (k : Int) ≤ 1500 ∧ (a + (k : Int) ≠ a → 0 < k) from ⟨by omega, by omega, by omega, fun h => by rcases Nat.eq_zero_or_pos k with c | c; (subst c; exact absurd (by simp) h); exact c⟩)
    obtain ⟨nn, hnn⟩ : ∃ nn, a + (k : Int) = nn := ⟨_, rfl⟩
    rw [hnn] at hst HKK
    simp only [hnn]
    have HST := Aside0.mk hst
    clear hx hvo hg hgd hcl hfl hvR hh hsm hbd hdt hk0 hst hS hle hon hnn HL2' hgd2 hlt
    by_cases hA : nn = a
    · have Aa : (nn == a) = true := beq_iff_eq.mpr hA; have Ab : decide (nn = a) = true := decide_eq_true hA
      have HA1 := Aside0.mk hA; clear hA
      have q1_x0 := zC BKx
      have q1_x0f := zF BKx
      have q1_o0 := zC BKo
      have q1_o0f := zF BKo
      have q1_w0 := zC BKw
      have q1_w0f := zF BKw
      have q1_d0 := zC BKd
      have q1_c0 : Wk.cell? ⟨gc, 0, none⟩ = some (.int .i64 comes) := zx BKc 0
      have q1_f0 : Wk.cell? ⟨gf, 0, none⟩ = some (.int .i64 a) := zx BKf 0
      repeat (first | go_step | (apply wpIn_seq_k; intro _ _) | apply wpIn_block | apply wpIn_skip | apply wpIn_exit | (refine wpIn_cond_true rfl ?_) | (refine wpIn_cond_false rfl ?_))
      refine region_in (by rfl) (by rfl) (by rintro ⟨_, _, h⟩; cases h.1) ?_
      go_wp2_with (first
        | fail
        )
      repeat (first | go_step | (apply wpIn_seq_k; intro _ _) | apply wpIn_block | apply wpIn_skip | apply wpIn_exit | (refine wpIn_cond_true rfl ?_) | (refine wpIn_cond_false rfl ?_))
      refine region_in (by rfl) (by rfl) (by rintro ⟨_, _, h⟩; cases h.1) ?_
      go_wp2_with (first
        | ((with_reducible refine zG 21 rfl ?_); refine invoke_event (N := 21) rfl rfl rfl rfl (by simp [Act.eval]) (DialV.set_enters D (.agg #[.int .i64 y, .int .i64 mo, .int .i64 d]) _) ?_; refine (DialV.set_b D y mo d _).mono ?_; rintro e w1 ⟨rfl, hb⟩; refine ⟨_, rfl, ?_⟩; replace HH := Aside0.mk (by first | exact HH.out.below hb | exact HH.out.belowD hb); replace BKx := zb BKx hb; replace BKo := zb BKo hb; replace BKw := zb BKw hb; replace BKd := zb BKd hb; replace BKc := zb BKc hb; replace BKf := zb BKf hb; replace HO := zr HO hb; clear hb; (try clear q1_x0 q1_x0f q1_o0 q1_o0f q1_w0 q1_w0f q1_d0 q1_c0 q1_f0); have q2_x0 := zC BKx; have q2_x0f := zF BKx; have q2_o0 := zC BKo; have q2_o0f := zF BKo; have q2_w0 := zC BKw; have q2_w0f := zF BKw; have q2_d0 := zC BKd; have q2_c0 : w1.cell? ⟨gc, 0, none⟩ = some (.int .i64 comes) := zx BKc 0; have q2_f0 : w1.cell? ⟨gf, 0, none⟩ = some (.int .i64 a) := zx BKf 0)
        | ((with_reducible refine zH 95 3 rfl ?_); refine store_cell_event rfl rfl 95 (.tmp 3) _ rfl (by rfl) (by rfl) (store_dial (D.set y mo d) BKx.out) ?_; intro w2 hw; have n_HH := Aside0.mk (Held.setCell hw (Or.inl rfl) HH.out); have n_BKx := Aside0.mk (blk_setCell hw BKx.out); have n_BKo := Aside0.mk (blk_setFar hw (by first | exact NEox.out | exact NExo.out.symm) BKo.out); have n_BKw := Aside0.mk (blk_setFar hw (by first | exact NEwx.out | exact NExw.out.symm) BKw.out); have n_BKd := Aside0.mk (blk_setFar hw (by first | exact NEdx.out | exact NExd.out.symm) BKd.out); have n_BKc := Aside0.mk (blk_setFar hw (by first | exact NEcx.out | exact NExc.out.symm) BKc.out); have n_BKf := Aside0.mk (blk_setFar hw (by first | exact NEfx.out | exact NExf.out.symm) BKf.out); have n_HO := Aside0.mk (R_setCell_low hw (by have := HL2.out; omega) HO.out); clear hw HH BKx BKo BKw BKd BKc BKf HO; have HH := n_HH; have BKx := n_BKx; have BKo := n_BKo; have BKw := n_BKw; have BKd := n_BKd; have BKc := n_BKc; have BKf := n_BKf; have HO := n_HO; clear n_HH n_BKx n_BKo n_BKw n_BKd n_BKc n_BKf n_HO; (try clear q2_x0 q2_x0f q2_o0 q2_o0f q2_w0 q2_w0f q2_d0 q2_c0 q2_f0); have q3_x0 := zC BKx; have q3_x0f := zF BKx; have q3_o0 := zC BKo; have q3_o0f := zF BKo; have q3_w0 := zC BKw; have q3_w0f := zF BKw; have q3_d0 := zC BKd; have q3_c0 : w2.cell? ⟨gc, 0, none⟩ = some (.int .i64 comes) := zx BKc 0; have q3_f0 : w2.cell? ⟨gf, 0, none⟩ = some (.int .i64 a) := zx BKf 0)
        )
      repeat (first | go_step | (apply wpIn_seq_k; intro _ _) | apply wpIn_block | apply wpIn_skip | apply wpIn_exit | (refine wpIn_cond_true rfl ?_) | (refine wpIn_cond_false rfl ?_))
      try gi_wp2
      first | exact round_end HHH.out HH.out HL2.out (D.set y mo d) (out) (wr) (HST.out.trans (by unfold keepStep; rw [if_pos HA1.out])) HSM.out BKx.out (v) BKo.out HO.out BKw.out | exact ⟨trivial, round_end HHH.out HH.out HL2.out (D.set y mo d) (out) (wr) (HST.out.trans (by unfold keepStep; rw [if_pos HA1.out])) HSM.out BKx.out (v) BKo.out HO.out BKw.out⟩ | exact ⟨rfl, round_end HHH.out HH.out HL2.out (D.set y mo d) (out) (wr) (HST.out.trans (by unfold keepStep; rw [if_pos HA1.out])) HSM.out BKx.out (v) BKo.out HO.out BKw.out⟩
    · have Aa : (nn == a) = false := beq_eq_false_iff_ne.mpr hA; have Ab : decide (nn = a) = false := decide_eq_false hA
      have HA1 := Aside0.mk hA; have HOK := Aside0.mk (HBD.out.2.2.2 (HKK.out.2.2.2 hA)); clear hA
      obtain ⟨D1, hD1⟩ : ∃ D1, D.next = D1 := ⟨_, rfl⟩
      have HD1 := Aside0.mk hD1
      clear hD1
      have q1_x0 := zC BKx
      have q1_x0f := zF BKx
      have q1_o0 := zC BKo
      have q1_o0f := zF BKo
      have q1_w0 := zC BKw
      have q1_w0f := zF BKw
      have q1_d0 := zC BKd
      have q1_c0 : Wk.cell? ⟨gc, 0, none⟩ = some (.int .i64 comes) := zx BKc 0
      have q1_f0 : Wk.cell? ⟨gf, 0, none⟩ = some (.int .i64 a) := zx BKf 0
      repeat (first | go_step | (apply wpIn_seq_k; intro _ _) | apply wpIn_block | apply wpIn_skip | apply wpIn_exit | (refine wpIn_cond_true rfl ?_) | (refine wpIn_cond_false rfl ?_))
      refine region_in (by rfl) (by rfl) (by rintro ⟨_, _, h⟩; cases h.1) ?_
      go_wp2_with (first
        | fail
        )
      repeat (first | go_step | (apply wpIn_seq_k; intro _ _) | apply wpIn_block | apply wpIn_skip | apply wpIn_exit | (refine wpIn_cond_true rfl ?_) | (refine wpIn_cond_false rfl ?_))
      refine region_in (by rfl) (by rfl) (by rintro ⟨_, _, h⟩; cases h.1) ?_
      go_wp2_with (first
        | ((with_reducible refine zG 23 rfl ?_); refine invoke_event (N := 23) rfl rfl rfl rfl (by simp [Act.eval]) (DialV.next_enters D _) ?_; refine (DialV.next_b D (k : Int) (by have := HKK.out; omega) HOK.out _).mono ?_; rintro e w1 ⟨rfl, hb⟩; refine ⟨_, rfl, ?_⟩; rw [HD1.out]; replace HH := Aside0.mk (by first | exact HH.out.below hb | exact HH.out.belowD hb); replace BKx := zb BKx hb; replace BKo := zb BKo hb; replace BKw := zb BKw hb; replace BKd := zb BKd hb; replace BKc := zb BKc hb; replace BKf := zb BKf hb; replace HO := zr HO hb; clear hb; (try clear q1_x0 q1_x0f q1_o0 q1_o0f q1_w0 q1_w0f q1_d0 q1_c0 q1_f0); have q2_x0 := zC BKx; have q2_x0f := zF BKx; have q2_o0 := zC BKo; have q2_o0f := zF BKo; have q2_w0 := zC BKw; have q2_w0f := zF BKw; have q2_d0 := zC BKd; have q2_c0 : w1.cell? ⟨gc, 0, none⟩ = some (.int .i64 comes) := zx BKc 0; have q2_f0 : w1.cell? ⟨gf, 0, none⟩ = some (.int .i64 a) := zx BKf 0)
        | ((with_reducible refine zH 95 3 rfl ?_); refine store_cell_event rfl rfl 95 (.tmp 3) _ rfl (by rfl) (by rfl) (store_dial D1 BKx.out) ?_; intro w2 hw; have n_HH := Aside0.mk (Held.setCell hw (Or.inl rfl) HH.out); have n_BKx := Aside0.mk (blk_setCell hw BKx.out); have n_BKo := Aside0.mk (blk_setFar hw (by first | exact NEox.out | exact NExo.out.symm) BKo.out); have n_BKw := Aside0.mk (blk_setFar hw (by first | exact NEwx.out | exact NExw.out.symm) BKw.out); have n_BKd := Aside0.mk (blk_setFar hw (by first | exact NEdx.out | exact NExd.out.symm) BKd.out); have n_BKc := Aside0.mk (blk_setFar hw (by first | exact NEcx.out | exact NExc.out.symm) BKc.out); have n_BKf := Aside0.mk (blk_setFar hw (by first | exact NEfx.out | exact NExf.out.symm) BKf.out); have n_HO := Aside0.mk (R_setCell_low hw (by have := HL2.out; omega) HO.out); clear hw HH BKx BKo BKw BKd BKc BKf HO; have HH := n_HH; have BKx := n_BKx; have BKo := n_BKo; have BKw := n_BKw; have BKd := n_BKd; have BKc := n_BKc; have BKf := n_BKf; have HO := n_HO; clear n_HH n_BKx n_BKo n_BKw n_BKd n_BKc n_BKf n_HO; (try clear q2_x0 q2_x0f q2_o0 q2_o0f q2_w0 q2_w0f q2_d0 q2_c0 q2_f0); have q3_x0 := zC BKx; have q3_x0f := zF BKx; have q3_o0 := zC BKo; have q3_o0f := zF BKo; have q3_w0 := zC BKw; have q3_w0f := zF BKw; have q3_d0 := zC BKd; have q3_c0 : w2.cell? ⟨gc, 0, none⟩ = some (.int .i64 comes) := zx BKc 0; have q3_f0 : w2.cell? ⟨gf, 0, none⟩ = some (.int .i64 a) := zx BKf 0)
        )
      by_cases hS : D1.shown = d
      · have Sa : (D1.shown == d) = true := beq_iff_eq.mpr hS; have Sb : decide (D1.shown = d) = true := decide_eq_true hS
        have HSH := Aside0.mk (show (D, out, wr).1.next.shown = d by show D.next.shown = d; rw [HD1.out]; exact hS); clear hS
        repeat (first | go_step | (apply wpIn_seq_k; intro _ _) | apply wpIn_block | apply wpIn_skip | apply wpIn_exit | (refine wpIn_cond_true rfl ?_) | (refine wpIn_cond_false rfl ?_))
        replace HH := Aside0.mk (HH.out.belowD (Below.refl _ _))
        replace BKx := zbD BKx
        replace BKo := zbD BKo
        replace BKw := zbD BKw
        replace BKd := zbD BKd
        replace BKc := zbD BKc
        replace BKf := zbD BKf
        replace HO := zrD HO
        refine start_in (m := 5) (S := fun w' => w'.cell? ⟨gx, 0, none⟩ = some (D1.val) ∧ w'.cell? ⟨go, 0, none⟩ = some (v) ∧ w'.cell? ⟨gw, 0, none⟩ = some (.int .i64 wr) ∧ w'.cell? ⟨gd, 0, none⟩ = some (.int .i64 y) ∧ w'.cell? ⟨gd, 1, none⟩ = some (.int .i64 mo) ∧ w'.cell? ⟨gd, 2, none⟩ = some (.int .i64 d) ∧ w'.cell? ⟨gc, 0, none⟩ = some (.int .i64 comes) ∧ w'.cell? ⟨gf, 0, none⟩ = some (.int .i64 a)) (ds := []) (by rfl) #[false, false, false, false, false] (by kernel_rfl) rfl rfl (by rfl) (by rintro ⟨_, _, h⟩; cases h.1) ⟨zx BKx 0, zx BKo 0, zx BKw 0, zx BKd 0, zx BKd 1, zx BKd 2, zx BKc 0, zx BKf 0⟩ (fun hHeld => ?_); refine with_tabW Kp6.tab Kp6.bits (fun HT_ HW_ => ?_)
        generalize w2.drew = wq at HH BKx BKo BKw BKd BKc BKf HO hHeld ⊢
        refine zP 2 (some 26) HT_ ?_
        refine zT 0 (some 24) HT_ HW_ hHeld ?_
        refine zT 3 (some 27) HT_ HW_ hHeld ?_
        refine zGo 1 (some 25) HT_ Tryz.func75 #[D1.val] ?_
        with_reducible refine (DialV.shown_b D1 _).mono ?_
        rintro e wq_1 ⟨rfl, hb⟩
        replace HH := Aside0.mk (HH.out.below hb)
        replace BKx := zb BKx hb
        replace BKo := zb BKo hb
        replace BKw := zb BKw hb
        replace BKd := zb BKd hb
        replace BKc := zb BKc hb
        replace BKf := zb BKf hb
        replace HO := zr HO hb
        clear hb hHeld
        refine zV ⟨zx BKx 0, zx BKo 0, zx BKw 0, zx BKd 0, zx BKd 1, zx BKd 2, zx BKc 0, zx BKf 0⟩ (fun hHeld => ?_)
        refine zP 4 (some 28) HT_ ?_
        refine done_ (done_of HT_.out (by kernel_rfl)) ?_
        (try clear q3_x0 q3_x0f q3_o0 q3_o0f q3_w0 q3_w0f q3_d0 q3_c0 q3_f0)
        have q4_x0 := zC BKx
        have q4_x0f := zF BKx
        have q4_o0 := zC BKo
        have q4_o0f := zF BKo
        have q4_w0 := zC BKw
        have q4_w0f := zF BKw
        have q4_d0 := zC BKd
        have q4_c0 : wq_1.cell? ⟨gc, 0, none⟩ = some (.int .i64 comes) := zx BKc 0
        have q4_f0 : wq_1.cell? ⟨gf, 0, none⟩ = some (.int .i64 a) := zx BKf 0
        try clear hHeld
        repeat (first | go_step | (apply wpIn_seq_k; intro _ _) | apply wpIn_block | apply wpIn_skip | apply wpIn_exit | (refine wpIn_cond_true rfl ?_) | (refine wpIn_cond_false rfl ?_))
        try gi_wp2
        first | exact round_end HHH.out HH.out HL2.out (D1) (out) (wr) (HST.out.trans (by unfold keepStep; rw [if_neg HA1.out, if_pos HSH.out]; show (D.next, out, wr) = _; rw [HD1.out])) HSM.out BKx.out (v) BKo.out HO.out BKw.out | exact ⟨trivial, round_end HHH.out HH.out HL2.out (D1) (out) (wr) (HST.out.trans (by unfold keepStep; rw [if_neg HA1.out, if_pos HSH.out]; show (D.next, out, wr) = _; rw [HD1.out])) HSM.out BKx.out (v) BKo.out HO.out BKw.out⟩ | exact ⟨rfl, round_end HHH.out HH.out HL2.out (D1) (out) (wr) (HST.out.trans (by unfold keepStep; rw [if_neg HA1.out, if_pos HSH.out]; show (D.next, out, wr) = _; rw [HD1.out])) HSM.out BKx.out (v) BKo.out HO.out BKw.out⟩
      · have Sa : (D1.shown == d) = false := beq_eq_false_iff_ne.mpr hS; have Sb : decide (D1.shown = d) = false := decide_eq_false hS
        have HSH := Aside0.mk (show ¬ (D, out, wr).1.next.shown = d by show ¬ D.next.shown = d; rw [HD1.out]; exact hS); clear hS
        repeat (first | go_step | (apply wpIn_seq_k; intro _ _) | apply wpIn_block | apply wpIn_skip | apply wpIn_exit | (refine wpIn_cond_true rfl ?_) | (refine wpIn_cond_false rfl ?_))
        replace HH := Aside0.mk (HH.out.belowD (Below.refl _ _))
        replace BKx := zbD BKx
        replace BKo := zbD BKo
        replace BKw := zbD BKw
        replace BKd := zbD BKd
        replace BKc := zbD BKc
        replace BKf := zbD BKf
        replace HO := zrD HO
        refine start_in (m := 5) (S := fun w' => w'.cell? ⟨gx, 0, none⟩ = some (D1.val) ∧ w'.cell? ⟨go, 0, none⟩ = some (v) ∧ w'.cell? ⟨gw, 0, none⟩ = some (.int .i64 wr) ∧ w'.cell? ⟨gd, 0, none⟩ = some (.int .i64 y) ∧ w'.cell? ⟨gd, 1, none⟩ = some (.int .i64 mo) ∧ w'.cell? ⟨gd, 2, none⟩ = some (.int .i64 d) ∧ w'.cell? ⟨gc, 0, none⟩ = some (.int .i64 comes) ∧ w'.cell? ⟨gf, 0, none⟩ = some (.int .i64 a)) (ds := []) (by rfl) #[false, false, false, false, false] (by kernel_rfl) rfl rfl (by rfl) (by rintro ⟨_, _, h⟩; cases h.1) ⟨zx BKx 0, zx BKo 0, zx BKw 0, zx BKd 0, zx BKd 1, zx BKd 2, zx BKc 0, zx BKf 0⟩ (fun hHeld => ?_); refine with_tabW Kp6.tab Kp6.bits (fun HT_ HW_ => ?_)
        generalize w2.drew = wq at HH BKx BKo BKw BKd BKc BKf HO hHeld ⊢
        refine zP 2 (some 26) HT_ ?_
        refine zT 0 (some 24) HT_ HW_ hHeld ?_
        refine zT 3 (some 27) HT_ HW_ hHeld ?_
        refine zGo 1 (some 25) HT_ Tryz.func75 #[D1.val] ?_
        with_reducible refine (DialV.shown_b D1 _).mono ?_
        rintro e wq_1 ⟨rfl, hb⟩
        replace HH := Aside0.mk (HH.out.below hb)
        replace BKx := zb BKx hb
        replace BKo := zb BKo hb
        replace BKw := zb BKw hb
        replace BKd := zb BKd hb
        replace BKc := zb BKc hb
        replace BKf := zb BKf hb
        replace HO := zr HO hb
        clear hb hHeld
        refine zV ⟨zx BKx 0, zx BKo 0, zx BKw 0, zx BKd 0, zx BKd 1, zx BKd 2, zx BKc 0, zx BKf 0⟩ (fun hHeld => ?_)
        refine zP 4 (some 28) HT_ ?_
        refine done_ (done_of HT_.out (by kernel_rfl)) ?_
        (try clear q3_x0 q3_x0f q3_o0 q3_o0f q3_w0 q3_w0f q3_d0 q3_c0 q3_f0)
        have q4_x0 := zC BKx
        have q4_x0f := zF BKx
        have q4_o0 := zC BKo
        have q4_o0f := zF BKo
        have q4_w0 := zC BKw
        have q4_w0f := zF BKw
        have q4_d0 := zC BKd
        have q4_c0 : wq_1.cell? ⟨gc, 0, none⟩ = some (.int .i64 comes) := zx BKc 0
        have q4_f0 : wq_1.cell? ⟨gf, 0, none⟩ = some (.int .i64 a) := zx BKf 0
        try clear hHeld
        by_cases hC : comes < 0
        · have qC : decide (comes < 0) = true := decide_eq_true hC
          have HCW := Aside0.mk (show comes < 0 ∨ wday nn = comes from Or.inl hC); clear hC
          repeat (first | go_step | (apply wpIn_seq_k; intro _ _) | apply wpIn_block | apply wpIn_skip | apply wpIn_exit | (refine wpIn_cond_true rfl ?_) | (refine wpIn_cond_false rfl ?_))
          replace HH := Aside0.mk (HH.out.belowD (Below.refl _ _))
          replace BKx := zbD BKx
          replace BKo := zbD BKo
          replace BKw := zbD BKw
          replace BKd := zbD BKd
          replace BKc := zbD BKc
          replace BKf := zbD BKf
          replace HO := zrD HO
          refine start_in (m := 8) (S := fun w' => w'.cell? ⟨gx, 0, none⟩ = some (D1.val) ∧ w'.cell? ⟨go, 0, none⟩ = some (v) ∧ w'.cell? ⟨gw, 0, none⟩ = some (.int .i64 wr) ∧ w'.cell? ⟨gd, 0, none⟩ = some (.int .i64 y) ∧ w'.cell? ⟨gd, 1, none⟩ = some (.int .i64 mo) ∧ w'.cell? ⟨gd, 2, none⟩ = some (.int .i64 d) ∧ w'.cell? ⟨gc, 0, none⟩ = some (.int .i64 comes) ∧ w'.cell? ⟨gf, 0, none⟩ = some (.int .i64 a)) (ds := []) (by rfl) #[false, false, false, false, false, false, false, false] (by kernel_rfl) rfl rfl (by rfl) (by rintro ⟨_, _, h⟩; cases h.1) ⟨zx BKx 0, zx BKo 0, zx BKw 0, zx BKd 0, zx BKd 1, zx BKd 2, zx BKc 0, zx BKf 0⟩ (fun hHeld => ?_); refine with_tabW Kp7.tab Kp7.bits (fun HT_ HW_ => ?_)
          generalize wq_1.drew = wv at HH BKx BKo BKw BKd BKc BKf HO hHeld ⊢
          refine zT 0 (some 29) HT_ HW_ hHeld ?_
          refine zP 1 (some 30) HT_ ?_
          refine zP 2 (some 31) HT_ ?_
          refine zO 3 (some 32) HT_ ?_
          refine zO 4 (some 33) HT_ ?_
          refine zO 5 (some 34) HT_ ?_
          refine zO 6 (some 35) HT_ ?_
          refine zP 7 (some 36) HT_ ?_
          refine done_ (done_of HT_.out (by kernel_rfl)) ?_
          (try clear q4_x0 q4_x0f q4_o0 q4_o0f q4_w0 q4_w0f q4_d0 q4_c0 q4_f0)
          have q5_x0 := zC BKx
          have q5_x0f := zF BKx
          have q5_o0 := zC BKo
          have q5_o0f := zF BKo
          have q5_w0 := zC BKw
          have q5_w0f := zF BKw
          have q5_d0 := zC BKd
          have q5_c0 : wv.cell? ⟨gc, 0, none⟩ = some (.int .i64 comes) := zx BKc 0
          have q5_f0 : wv.cell? ⟨gf, 0, none⟩ = some (.int .i64 a) := zx BKf 0
          try clear hHeld
          repeat (first | go_step | (apply wpIn_seq_k; intro _ _) | apply wpIn_block | apply wpIn_skip | apply wpIn_exit | (refine wpIn_cond_true rfl ?_) | (refine wpIn_cond_false rfl ?_))
          refine region_in (by rfl) (by rfl) (by rintro ⟨_, _, h⟩; cases h.1) ?_
          go_wp2_with (first
            | ((with_reducible refine zG 39 rfl ?_); refine invoke_event (N := 39) rfl rfl rfl rfl (by simp [Act.eval]) (DialV.set_enters D1 (.agg #[.int .i64 y, .int .i64 mo, .int .i64 d]) _) ?_; refine (DialV.set_b D1 y mo d _).mono ?_; rintro e w5 ⟨rfl, hb⟩; refine ⟨_, rfl, ?_⟩; replace HH := Aside0.mk (by first | exact HH.out.below hb | exact HH.out.belowD hb); replace BKx := zb BKx hb; replace BKo := zb BKo hb; replace BKw := zb BKw hb; replace BKd := zb BKd hb; replace BKc := zb BKc hb; replace BKf := zb BKf hb; replace HO := zr HO hb; clear hb; (try clear q5_x0 q5_x0f q5_o0 q5_o0f q5_w0 q5_w0f q5_d0 q5_c0 q5_f0); have q6_x0 := zC BKx; have q6_x0f := zF BKx; have q6_o0 := zC BKo; have q6_o0f := zF BKo; have q6_w0 := zC BKw; have q6_w0f := zF BKw; have q6_d0 := zC BKd; have q6_c0 : w5.cell? ⟨gc, 0, none⟩ = some (.int .i64 comes) := zx BKc 0; have q6_f0 : w5.cell? ⟨gf, 0, none⟩ = some (.int .i64 a) := zx BKf 0)
            | ((with_reducible refine zH 95 3 rfl ?_); refine store_cell_event rfl rfl 95 (.tmp 3) _ rfl (by rfl) (by rfl) (store_dial (D1.set y mo d) BKx.out) ?_; intro w6 hw; have n_HH := Aside0.mk (Held.setCell hw (Or.inl rfl) HH.out); have n_BKx := Aside0.mk (blk_setCell hw BKx.out); have n_BKo := Aside0.mk (blk_setFar hw (by first | exact NEox.out | exact NExo.out.symm) BKo.out); have n_BKw := Aside0.mk (blk_setFar hw (by first | exact NEwx.out | exact NExw.out.symm) BKw.out); have n_BKd := Aside0.mk (blk_setFar hw (by first | exact NEdx.out | exact NExd.out.symm) BKd.out); have n_BKc := Aside0.mk (blk_setFar hw (by first | exact NEcx.out | exact NExc.out.symm) BKc.out); have n_BKf := Aside0.mk (blk_setFar hw (by first | exact NEfx.out | exact NExf.out.symm) BKf.out); have n_HO := Aside0.mk (R_setCell_low hw (by have := HL2.out; omega) HO.out); clear hw HH BKx BKo BKw BKd BKc BKf HO; have HH := n_HH; have BKx := n_BKx; have BKo := n_BKo; have BKw := n_BKw; have BKd := n_BKd; have BKc := n_BKc; have BKf := n_BKf; have HO := n_HO; clear n_HH n_BKx n_BKo n_BKw n_BKd n_BKc n_BKf n_HO; (try clear q6_x0 q6_x0f q6_o0 q6_o0f q6_w0 q6_w0f q6_d0 q6_c0 q6_f0); have q7_x0 := zC BKx; have q7_x0f := zF BKx; have q7_o0 := zC BKo; have q7_o0f := zF BKo; have q7_w0 := zC BKw; have q7_w0f := zF BKw; have q7_d0 := zC BKd; have q7_c0 : w6.cell? ⟨gc, 0, none⟩ = some (.int .i64 comes) := zx BKc 0; have q7_f0 : w6.cell? ⟨gf, 0, none⟩ = some (.int .i64 a) := zx BKf 0)
            )
          repeat (first | go_step | (apply wpIn_seq_k; intro _ _) | apply wpIn_block | apply wpIn_skip | apply wpIn_exit | (refine wpIn_cond_true rfl ?_) | (refine wpIn_cond_false rfl ?_))
          refine region_in (by rfl) (by rfl) (by rintro ⟨_, _, h⟩; cases h.1) ?_
          go_wp2_with (first
            | ((with_reducible refine gate_builtin (b := .append) (xs := #[.tmp 40, .tmp 42]) rfl ?_); at_builtin; refine Kd.R_append (Kd.int .i64) (w0 := w6) (wd_2.heap.size + 2) rfl (.tmp 40) (.tmp 42) 22 3 (.int .i64 0) 8 rfl Tryz.underlying22 info3 rfl (by decide) (by omega) v out nn [.int .i64 nn] (fun q => wd_2.heap.size + 2 ≤ q) (fun _ => False) rfl rfl ?aP (fun _ hk => hk.elim) ?aF ?aO ?aB ?aS ?aL ?_; (case aP => exact rfl); (case aF => exact fun q hq => Nat.le_trans HH.out.size hq); (case aO => exact HO.out); (case aB => exact Below.refl _ _); (case aS => exact HH.out.size); (case aL => have := HBD.out.1; have := HKK.out; omega); intro v1 wb ho hb hg _hat; have n_HH := Aside0.mk (Held.grown HH.out hg (fun q e => Or.inl (HO.out.1 q e))); have n_BKx := Aside0.mk (blk_grown_low BKx.out hg HO.out (by have := HL2.out; omega)); have n_BKo := Aside0.mk (blk_grown_low BKo.out hg HO.out (by have := HL2.out; omega)); have n_BKw := Aside0.mk (blk_grown_low BKw.out hg HO.out (by have := HL2.out; omega)); have n_BKc := Aside0.mk (blk_grown_low BKc.out hg HO.out (by have := HLF.out; omega)); have n_BKf := Aside0.mk (blk_grown_low BKf.out hg HO.out (by have := HLF.out; omega)); have n_HO := Aside0.mk (ho); clear ho hb hg _hat BKd HH BKx BKo BKw BKc BKf HO; have HH := n_HH; have BKx := n_BKx; have BKo := n_BKo; have BKw := n_BKw; have BKc := n_BKc; have BKf := n_BKf; have HO := n_HO; clear n_HH n_BKx n_BKo n_BKw n_BKc n_BKf n_HO; (try clear q7_x0 q7_x0f q7_o0 q7_o0f q7_w0 q7_w0f q7_d0 q7_c0 q7_f0); have q8_x0 := zC BKx; have q8_x0f := zF BKx; have q8_o0 := zC BKo; have q8_o0f := zF BKo; have q8_w0 := zC BKw; have q8_w0f := zF BKw; have q8_c0 : wb.cell? ⟨gc, 0, none⟩ = some (.int .i64 comes) := zx BKc 0; have q8_f0 : wb.cell? ⟨gf, 0, none⟩ = some (.int .i64 a) := zx BKf 0)
            | ((with_reducible refine zH 22 5 rfl ?_); refine store_cell_event rfl rfl 22 (.tmp 5) _ rfl (by rfl) (by rfl) (store_slice HO.out BKo.out) ?_; intro w7 hw; have n_HH := Aside0.mk (Held.setCell hw (Or.inr (Or.inl rfl)) HH.out); have n_BKx := Aside0.mk (blk_setFar hw (by first | exact NExo.out | exact NEox.out.symm) BKx.out); have n_BKo := Aside0.mk (blk_setCell hw BKo.out); have n_BKw := Aside0.mk (blk_setFar hw (by first | exact NEwo.out | exact NEow.out.symm) BKw.out); have n_BKc := Aside0.mk (blk_setFar hw (by first | exact NEco.out | exact NEoc.out.symm) BKc.out); have n_BKf := Aside0.mk (blk_setFar hw (by first | exact NEfo.out | exact NEof.out.symm) BKf.out); have n_HO := Aside0.mk (R_setCell_low hw (by have := HL2.out; omega) HO.out); clear hw HH BKx BKo BKw BKc BKf HO; have HH := n_HH; have BKx := n_BKx; have BKo := n_BKo; have BKw := n_BKw; have BKc := n_BKc; have BKf := n_BKf; have HO := n_HO; clear n_HH n_BKx n_BKo n_BKw n_BKc n_BKf n_HO; (try clear q8_x0 q8_x0f q8_o0 q8_o0f q8_w0 q8_w0f q8_c0 q8_f0); have q9_x0 := zC BKx; have q9_x0f := zF BKx; have q9_o0 := zC BKo; have q9_o0f := zF BKo; have q9_w0 := zC BKw; have q9_w0f := zF BKw; have q9_c0 : w7.cell? ⟨gc, 0, none⟩ = some (.int .i64 comes) := zx BKc 0; have q9_f0 : w7.cell? ⟨gf, 0, none⟩ = some (.int .i64 a) := zx BKf 0)
            )
          repeat (first | go_step | (apply wpIn_seq_k; intro _ _) | apply wpIn_block | apply wpIn_skip | apply wpIn_exit | (refine wpIn_cond_true rfl ?_) | (refine wpIn_cond_false rfl ?_))
          try gi_wp2
          first | exact round_end HHH.out HH.out HL2.out (D1.set y mo d) (out ++ [nn]) (wr) (HST.out.trans (by unfold keepStep; rw [if_neg HA1.out, if_neg HSH.out, if_pos HCW.out]; show (D.next.set y mo d, out ++ [nn], wr) = _; rw [HD1.out])) HSM.out BKx.out (v1) BKo.out HO.out BKw.out | exact ⟨trivial, round_end HHH.out HH.out HL2.out (D1.set y mo d) (out ++ [nn]) (wr) (HST.out.trans (by unfold keepStep; rw [if_neg HA1.out, if_neg HSH.out, if_pos HCW.out]; show (D.next.set y mo d, out ++ [nn], wr) = _; rw [HD1.out])) HSM.out BKx.out (v1) BKo.out HO.out BKw.out⟩ | exact ⟨rfl, round_end HHH.out HH.out HL2.out (D1.set y mo d) (out ++ [nn]) (wr) (HST.out.trans (by unfold keepStep; rw [if_neg HA1.out, if_neg HSH.out, if_pos HCW.out]; show (D.next.set y mo d, out ++ [nn], wr) = _; rw [HD1.out])) HSM.out BKx.out (v1) BKo.out HO.out BKw.out⟩
        · have qC : decide (comes < 0) = false := decide_eq_false hC
          have HC1 := Aside0.mk hC; clear hC
          by_cases hW : wday nn = comes
          · have Wa : (wday nn == comes) = true := beq_iff_eq.mpr hW; have Wb : decide (wday nn = comes) = true := decide_eq_true hW
            have HCW := Aside0.mk (show comes < 0 ∨ wday nn = comes from Or.inr hW); clear hW
            repeat (first | go_step | (apply wpIn_seq_k; intro _ _) | apply wpIn_block | apply wpIn_skip | apply wpIn_exit | (refine wpIn_cond_true rfl ?_) | (refine wpIn_cond_false rfl ?_))
            replace HH := Aside0.mk (HH.out.belowD (Below.refl _ _))
            replace BKx := zbD BKx
            replace BKo := zbD BKo
            replace BKw := zbD BKw
            replace BKd := zbD BKd
            replace BKc := zbD BKc
            replace BKf := zbD BKf
            replace HO := zrD HO
            refine start_in (m := 8) (S := fun w' => w'.cell? ⟨gx, 0, none⟩ = some (D1.val) ∧ w'.cell? ⟨go, 0, none⟩ = some (v) ∧ w'.cell? ⟨gw, 0, none⟩ = some (.int .i64 wr) ∧ w'.cell? ⟨gd, 0, none⟩ = some (.int .i64 y) ∧ w'.cell? ⟨gd, 1, none⟩ = some (.int .i64 mo) ∧ w'.cell? ⟨gd, 2, none⟩ = some (.int .i64 d) ∧ w'.cell? ⟨gc, 0, none⟩ = some (.int .i64 comes) ∧ w'.cell? ⟨gf, 0, none⟩ = some (.int .i64 a)) (ds := []) (by rfl) #[false, false, false, false, false, false, false, false] (by kernel_rfl) rfl rfl (by rfl) (by rintro ⟨_, _, h⟩; cases h.1) ⟨zx BKx 0, zx BKo 0, zx BKw 0, zx BKd 0, zx BKd 1, zx BKd 2, zx BKc 0, zx BKf 0⟩ (fun hHeld => ?_); refine with_tabW Kp7.tab Kp7.bits (fun HT_ HW_ => ?_)
            generalize wq_1.drew = wv at HH BKx BKo BKw BKd BKc BKf HO hHeld ⊢
            refine zT 0 (some 29) HT_ HW_ hHeld ?_
            refine zP 1 (some 30) HT_ ?_
            refine zP 2 (some 31) HT_ ?_
            refine zP 3 (some 32) HT_ ?_
            refine zT 5 (some 34) HT_ HW_ hHeld ?_
            refine zGo 4 (some 33) HT_ Tryz.func49 #[.int .i64 nn] ?_
            with_reducible refine (weekday_b nn _ HKK.out.1 (by have := HKK.out; omega)).mono ?_
            rintro e wv_1 ⟨rfl, hb⟩
            replace HH := Aside0.mk (HH.out.below hb)
            replace BKx := zb BKx hb
            replace BKo := zb BKo hb
            replace BKw := zb BKw hb
            replace BKd := zb BKd hb
            replace BKc := zb BKc hb
            replace BKf := zb BKf hb
            replace HO := zr HO hb
            clear hb hHeld
            refine zV ⟨zx BKx 0, zx BKo 0, zx BKw 0, zx BKd 0, zx BKd 1, zx BKd 2, zx BKc 0, zx BKf 0⟩ (fun hHeld => ?_)
            refine zP 6 (some 35) HT_ ?_
            refine zP 7 (some 36) HT_ ?_
            refine done_ (done_of HT_.out (by kernel_rfl)) ?_
            (try clear q4_x0 q4_x0f q4_o0 q4_o0f q4_w0 q4_w0f q4_d0 q4_c0 q4_f0)
            have q5_x0 := zC BKx
            have q5_x0f := zF BKx
            have q5_o0 := zC BKo
            have q5_o0f := zF BKo
            have q5_w0 := zC BKw
            have q5_w0f := zF BKw
            have q5_d0 := zC BKd
            have q5_c0 : wv_1.cell? ⟨gc, 0, none⟩ = some (.int .i64 comes) := zx BKc 0
            have q5_f0 : wv_1.cell? ⟨gf, 0, none⟩ = some (.int .i64 a) := zx BKf 0
            try clear hHeld
            repeat (first | go_step | (apply wpIn_seq_k; intro _ _) | apply wpIn_block | apply wpIn_skip | apply wpIn_exit | (refine wpIn_cond_true rfl ?_) | (refine wpIn_cond_false rfl ?_))
            refine region_in (by rfl) (by rfl) (by rintro ⟨_, _, h⟩; cases h.1) ?_
            go_wp2_with (first
              | ((with_reducible refine zG 39 rfl ?_); refine invoke_event (N := 39) rfl rfl rfl rfl (by simp [Act.eval]) (DialV.set_enters D1 (.agg #[.int .i64 y, .int .i64 mo, .int .i64 d]) _) ?_; refine (DialV.set_b D1 y mo d _).mono ?_; rintro e w5 ⟨rfl, hb⟩; refine ⟨_, rfl, ?_⟩; replace HH := Aside0.mk (by first | exact HH.out.below hb | exact HH.out.belowD hb); replace BKx := zb BKx hb; replace BKo := zb BKo hb; replace BKw := zb BKw hb; replace BKd := zb BKd hb; replace BKc := zb BKc hb; replace BKf := zb BKf hb; replace HO := zr HO hb; clear hb; (try clear q5_x0 q5_x0f q5_o0 q5_o0f q5_w0 q5_w0f q5_d0 q5_c0 q5_f0); have q6_x0 := zC BKx; have q6_x0f := zF BKx; have q6_o0 := zC BKo; have q6_o0f := zF BKo; have q6_w0 := zC BKw; have q6_w0f := zF BKw; have q6_d0 := zC BKd; have q6_c0 : w5.cell? ⟨gc, 0, none⟩ = some (.int .i64 comes) := zx BKc 0; have q6_f0 : w5.cell? ⟨gf, 0, none⟩ = some (.int .i64 a) := zx BKf 0)
              | ((with_reducible refine zH 95 3 rfl ?_); refine store_cell_event rfl rfl 95 (.tmp 3) _ rfl (by rfl) (by rfl) (store_dial (D1.set y mo d) BKx.out) ?_; intro w6 hw; have n_HH := Aside0.mk (Held.setCell hw (Or.inl rfl) HH.out); have n_BKx := Aside0.mk (blk_setCell hw BKx.out); have n_BKo := Aside0.mk (blk_setFar hw (by first | exact NEox.out | exact NExo.out.symm) BKo.out); have n_BKw := Aside0.mk (blk_setFar hw (by first | exact NEwx.out | exact NExw.out.symm) BKw.out); have n_BKd := Aside0.mk (blk_setFar hw (by first | exact NEdx.out | exact NExd.out.symm) BKd.out); have n_BKc := Aside0.mk (blk_setFar hw (by first | exact NEcx.out | exact NExc.out.symm) BKc.out); have n_BKf := Aside0.mk (blk_setFar hw (by first | exact NEfx.out | exact NExf.out.symm) BKf.out); have n_HO := Aside0.mk (R_setCell_low hw (by have := HL2.out; omega) HO.out); clear hw HH BKx BKo BKw BKd BKc BKf HO; have HH := n_HH; have BKx := n_BKx; have BKo := n_BKo; have BKw := n_BKw; have BKd := n_BKd; have BKc := n_BKc; have BKf := n_BKf; have HO := n_HO; clear n_HH n_BKx n_BKo n_BKw n_BKd n_BKc n_BKf n_HO; (try clear q6_x0 q6_x0f q6_o0 q6_o0f q6_w0 q6_w0f q6_d0 q6_c0 q6_f0); have q7_x0 := zC BKx; have q7_x0f := zF BKx; have q7_o0 := zC BKo; have q7_o0f := zF BKo; have q7_w0 := zC BKw; have q7_w0f := zF BKw; have q7_d0 := zC BKd; have q7_c0 : w6.cell? ⟨gc, 0, none⟩ = some (.int .i64 comes) := zx BKc 0; have q7_f0 : w6.cell? ⟨gf, 0, none⟩ = some (.int .i64 a) := zx BKf 0)
              )
            repeat (first | go_step | (apply wpIn_seq_k; intro _ _) | apply wpIn_block | apply wpIn_skip | apply wpIn_exit | (refine wpIn_cond_true rfl ?_) | (refine wpIn_cond_false rfl ?_))
            refine region_in (by rfl) (by rfl) (by rintro ⟨_, _, h⟩; cases h.1) ?_
            go_wp2_with (first
              | ((with_reducible refine gate_builtin (b := .append) (xs := #[.tmp 40, .tmp 42]) rfl ?_); at_builtin; refine Kd.R_append (Kd.int .i64) (w0 := w6) (wd_2.heap.size + 2) rfl (.tmp 40) (.tmp 42) 22 3 (.int .i64 0) 8 rfl Tryz.underlying22 info3 rfl (by decide) (by omega) v out nn [.int .i64 nn] (fun q => wd_2.heap.size + 2 ≤ q) (fun _ => False) rfl rfl ?aP (fun _ hk => hk.elim) ?aF ?aO ?aB ?aS ?aL ?_; (case aP => exact rfl); (case aF => exact fun q hq => Nat.le_trans HH.out.size hq); (case aO => exact HO.out); (case aB => exact Below.refl _ _); (case aS => exact HH.out.size); (case aL => have := HBD.out.1; have := HKK.out; omega); intro v1 wb ho hb hg _hat; have n_HH := Aside0.mk (Held.grown HH.out hg (fun q e => Or.inl (HO.out.1 q e))); have n_BKx := Aside0.mk (blk_grown_low BKx.out hg HO.out (by have := HL2.out; omega)); have n_BKo := Aside0.mk (blk_grown_low BKo.out hg HO.out (by have := HL2.out; omega)); have n_BKw := Aside0.mk (blk_grown_low BKw.out hg HO.out (by have := HL2.out; omega)); have n_BKc := Aside0.mk (blk_grown_low BKc.out hg HO.out (by have := HLF.out; omega)); have n_BKf := Aside0.mk (blk_grown_low BKf.out hg HO.out (by have := HLF.out; omega)); have n_HO := Aside0.mk (ho); clear ho hb hg _hat BKd HH BKx BKo BKw BKc BKf HO; have HH := n_HH; have BKx := n_BKx; have BKo := n_BKo; have BKw := n_BKw; have BKc := n_BKc; have BKf := n_BKf; have HO := n_HO; clear n_HH n_BKx n_BKo n_BKw n_BKc n_BKf n_HO; (try clear q7_x0 q7_x0f q7_o0 q7_o0f q7_w0 q7_w0f q7_d0 q7_c0 q7_f0); have q8_x0 := zC BKx; have q8_x0f := zF BKx; have q8_o0 := zC BKo; have q8_o0f := zF BKo; have q8_w0 := zC BKw; have q8_w0f := zF BKw; have q8_c0 : wb.cell? ⟨gc, 0, none⟩ = some (.int .i64 comes) := zx BKc 0; have q8_f0 : wb.cell? ⟨gf, 0, none⟩ = some (.int .i64 a) := zx BKf 0)
              | ((with_reducible refine zH 22 5 rfl ?_); refine store_cell_event rfl rfl 22 (.tmp 5) _ rfl (by rfl) (by rfl) (store_slice HO.out BKo.out) ?_; intro w7 hw; have n_HH := Aside0.mk (Held.setCell hw (Or.inr (Or.inl rfl)) HH.out); have n_BKx := Aside0.mk (blk_setFar hw (by first | exact NExo.out | exact NEox.out.symm) BKx.out); have n_BKo := Aside0.mk (blk_setCell hw BKo.out); have n_BKw := Aside0.mk (blk_setFar hw (by first | exact NEwo.out | exact NEow.out.symm) BKw.out); have n_BKc := Aside0.mk (blk_setFar hw (by first | exact NEco.out | exact NEoc.out.symm) BKc.out); have n_BKf := Aside0.mk (blk_setFar hw (by first | exact NEfo.out | exact NEof.out.symm) BKf.out); have n_HO := Aside0.mk (R_setCell_low hw (by have := HL2.out; omega) HO.out); clear hw HH BKx BKo BKw BKc BKf HO; have HH := n_HH; have BKx := n_BKx; have BKo := n_BKo; have BKw := n_BKw; have BKc := n_BKc; have BKf := n_BKf; have HO := n_HO; clear n_HH n_BKx n_BKo n_BKw n_BKc n_BKf n_HO; (try clear q8_x0 q8_x0f q8_o0 q8_o0f q8_w0 q8_w0f q8_c0 q8_f0); have q9_x0 := zC BKx; have q9_x0f := zF BKx; have q9_o0 := zC BKo; have q9_o0f := zF BKo; have q9_w0 := zC BKw; have q9_w0f := zF BKw; have q9_c0 : w7.cell? ⟨gc, 0, none⟩ = some (.int .i64 comes) := zx BKc 0; have q9_f0 : w7.cell? ⟨gf, 0, none⟩ = some (.int .i64 a) := zx BKf 0)
              )
            repeat (first | go_step | (apply wpIn_seq_k; intro _ _) | apply wpIn_block | apply wpIn_skip | apply wpIn_exit | (refine wpIn_cond_true rfl ?_) | (refine wpIn_cond_false rfl ?_))
            try gi_wp2
            first | exact round_end HHH.out HH.out HL2.out (D1.set y mo d) (out ++ [nn]) (wr) (HST.out.trans (by unfold keepStep; rw [if_neg HA1.out, if_neg HSH.out, if_pos HCW.out]; show (D.next.set y mo d, out ++ [nn], wr) = _; rw [HD1.out])) HSM.out BKx.out (v1) BKo.out HO.out BKw.out | exact ⟨trivial, round_end HHH.out HH.out HL2.out (D1.set y mo d) (out ++ [nn]) (wr) (HST.out.trans (by unfold keepStep; rw [if_neg HA1.out, if_neg HSH.out, if_pos HCW.out]; show (D.next.set y mo d, out ++ [nn], wr) = _; rw [HD1.out])) HSM.out BKx.out (v1) BKo.out HO.out BKw.out⟩ | exact ⟨rfl, round_end HHH.out HH.out HL2.out (D1.set y mo d) (out ++ [nn]) (wr) (HST.out.trans (by unfold keepStep; rw [if_neg HA1.out, if_neg HSH.out, if_pos HCW.out]; show (D.next.set y mo d, out ++ [nn], wr) = _; rw [HD1.out])) HSM.out BKx.out (v1) BKo.out HO.out BKw.out⟩
          · have Wa : (wday nn == comes) = false := beq_eq_false_iff_ne.mpr hW; have Wb : decide (wday nn = comes) = false := decide_eq_false hW
            have HCW := Aside0.mk (show ¬ (comes < 0 ∨ wday nn = comes) from fun h => h.elim HC1.out hW); clear hW
            repeat (first | go_step | (apply wpIn_seq_k; intro _ _) | apply wpIn_block | apply wpIn_skip | apply wpIn_exit | (refine wpIn_cond_true rfl ?_) | (refine wpIn_cond_false rfl ?_))
            replace HH := Aside0.mk (HH.out.belowD (Below.refl _ _))
            replace BKx := zbD BKx
            replace BKo := zbD BKo
            replace BKw := zbD BKw
            replace BKd := zbD BKd
            replace BKc := zbD BKc
            replace BKf := zbD BKf
            replace HO := zrD HO
            refine start_in (m := 8) (S := fun w' => w'.cell? ⟨gx, 0, none⟩ = some (D1.val) ∧ w'.cell? ⟨go, 0, none⟩ = some (v) ∧ w'.cell? ⟨gw, 0, none⟩ = some (.int .i64 wr) ∧ w'.cell? ⟨gd, 0, none⟩ = some (.int .i64 y) ∧ w'.cell? ⟨gd, 1, none⟩ = some (.int .i64 mo) ∧ w'.cell? ⟨gd, 2, none⟩ = some (.int .i64 d) ∧ w'.cell? ⟨gc, 0, none⟩ = some (.int .i64 comes) ∧ w'.cell? ⟨gf, 0, none⟩ = some (.int .i64 a)) (ds := []) (by rfl) #[false, false, false, false, false, false, false, false] (by kernel_rfl) rfl rfl (by rfl) (by rintro ⟨_, _, h⟩; cases h.1) ⟨zx BKx 0, zx BKo 0, zx BKw 0, zx BKd 0, zx BKd 1, zx BKd 2, zx BKc 0, zx BKf 0⟩ (fun hHeld => ?_); refine with_tabW Kp7.tab Kp7.bits (fun HT_ HW_ => ?_)
            generalize wq_1.drew = wv at HH BKx BKo BKw BKd BKc BKf HO hHeld ⊢
            refine zT 0 (some 29) HT_ HW_ hHeld ?_
            refine zP 1 (some 30) HT_ ?_
            refine zP 2 (some 31) HT_ ?_
            refine zP 3 (some 32) HT_ ?_
            refine zT 5 (some 34) HT_ HW_ hHeld ?_
            refine zGo 4 (some 33) HT_ Tryz.func49 #[.int .i64 nn] ?_
            with_reducible refine (weekday_b nn _ HKK.out.1 (by have := HKK.out; omega)).mono ?_
            rintro e wv_1 ⟨rfl, hb⟩
            replace HH := Aside0.mk (HH.out.below hb)
            replace BKx := zb BKx hb
            replace BKo := zb BKo hb
            replace BKw := zb BKw hb
            replace BKd := zb BKd hb
            replace BKc := zb BKc hb
            replace BKf := zb BKf hb
            replace HO := zr HO hb
            clear hb hHeld
            refine zV ⟨zx BKx 0, zx BKo 0, zx BKw 0, zx BKd 0, zx BKd 1, zx BKd 2, zx BKc 0, zx BKf 0⟩ (fun hHeld => ?_)
            refine zP 6 (some 35) HT_ ?_
            refine zP 7 (some 36) HT_ ?_
            refine done_ (done_of HT_.out (by kernel_rfl)) ?_
            (try clear q4_x0 q4_x0f q4_o0 q4_o0f q4_w0 q4_w0f q4_d0 q4_c0 q4_f0)
            have q5_x0 := zC BKx
            have q5_x0f := zF BKx
            have q5_o0 := zC BKo
            have q5_o0f := zF BKo
            have q5_w0 := zC BKw
            have q5_w0f := zF BKw
            have q5_d0 := zC BKd
            have q5_c0 : wv_1.cell? ⟨gc, 0, none⟩ = some (.int .i64 comes) := zx BKc 0
            have q5_f0 : wv_1.cell? ⟨gf, 0, none⟩ = some (.int .i64 a) := zx BKf 0
            try clear hHeld
            have w1_ : IntKind.i64.wrap (wr + 1) = wr + 1 := (i64_w _).trans (wrap_of _ (by have := HBD.out; have := HKK.out; omega) (by have := HBD.out; have := HKK.out; omega))
            have w2_ : wrap64 (wr + 1) = wr + 1 := wrap_of _ (by have := HBD.out; have := HKK.out; omega) (by have := HBD.out; have := HKK.out; omega)
            repeat (first | go_step | (apply wpIn_seq_k; intro _ _) | apply wpIn_block | apply wpIn_skip | apply wpIn_exit | (refine wpIn_cond_true rfl ?_) | (refine wpIn_cond_false rfl ?_))
            refine region_in (by rfl) (by rfl) (by rintro ⟨_, _, h⟩; cases h.1) ?_
            go_wp2_with (first
              | ((with_reducible refine zH 3 6 rfl ?_); refine store_event (t := 3) (p := 6) (v := ?vo) (w1 := wv_1.setCell ⟨gw, 0, none⟩ (.int .i64 (wr + 1))) ?hg ?ho ?hn ?hr ?_; (case ho => rfl); (case hg => rfl); (case hn => rfl); (case hr => first | (go_simp; done) | (go_simp; rfl)); intro w7 hw; have n_HH := Aside0.mk (Held.setCell hw (Or.inr (Or.inr rfl)) HH.out); have n_BKx := Aside0.mk (blk_setFar hw (by first | exact NExw.out | exact NEwx.out.symm) BKx.out); have n_BKo := Aside0.mk (blk_setFar hw (by first | exact NEow.out | exact NEwo.out.symm) BKo.out); have n_BKw := Aside0.mk (blk_setCell hw BKw.out); have n_BKd := Aside0.mk (blk_setFar hw (by first | exact NEdw.out | exact NEwd.out.symm) BKd.out); have n_BKc := Aside0.mk (blk_setFar hw (by first | exact NEcw.out | exact NEwc.out.symm) BKc.out); have n_BKf := Aside0.mk (blk_setFar hw (by first | exact NEfw.out | exact NEwf.out.symm) BKf.out); have n_HO := Aside0.mk (R_setCell_low hw (by have := HL2.out; omega) HO.out); clear hw HH BKx BKo BKw BKd BKc BKf HO; have HH := n_HH; have BKx := n_BKx; have BKo := n_BKo; have BKw := n_BKw; have BKd := n_BKd; have BKc := n_BKc; have BKf := n_BKf; have HO := n_HO; clear n_HH n_BKx n_BKo n_BKw n_BKd n_BKc n_BKf n_HO; (try clear q5_x0 q5_x0f q5_o0 q5_o0f q5_w0 q5_w0f q5_d0 q5_c0 q5_f0); have q6_x0 := zC BKx; have q6_x0f := zF BKx; have q6_o0 := zC BKo; have q6_o0f := zF BKo; have q6_w0 := zC BKw; have q6_w0f := zF BKw; have q6_d0 := zC BKd; have q6_c0 : w7.cell? ⟨gc, 0, none⟩ = some (.int .i64 comes) := zx BKc 0; have q6_f0 : w7.cell? ⟨gf, 0, none⟩ = some (.int .i64 a) := zx BKf 0)
              )
            repeat (first | go_step | (apply wpIn_seq_k; intro _ _) | apply wpIn_block | apply wpIn_skip | apply wpIn_exit | (refine wpIn_cond_true rfl ?_) | (refine wpIn_cond_false rfl ?_))
            try gi_wp2
            first | exact round_end HHH.out HH.out HL2.out (D1) (out) (wr + 1) (HST.out.trans (by unfold keepStep; rw [if_neg HA1.out, if_neg HSH.out, if_neg HCW.out]; show (D.next, out, wr + 1) = _; rw [HD1.out])) HSM.out BKx.out (v) BKo.out HO.out BKw.out | exact ⟨trivial, round_end HHH.out HH.out HL2.out (D1) (out) (wr + 1) (HST.out.trans (by unfold keepStep; rw [if_neg HA1.out, if_neg HSH.out, if_neg HCW.out]; show (D.next, out, wr + 1) = _; rw [HD1.out])) HSM.out BKx.out (v) BKo.out HO.out BKw.out⟩ | exact ⟨rfl, round_end HHH.out HH.out HL2.out (D1) (out) (wr + 1) (HST.out.trans (by unfold keepStep; rw [if_neg HA1.out, if_neg HSH.out, if_neg HCW.out]; show (D.next, out, wr + 1) = _; rw [HD1.out])) HSM.out BKx.out (v) BKo.out HO.out BKw.out⟩
end Go.Proofs.YtnllidgonghckaaGreatDoor.X
namespace Go.Proofs.YtnllidgonghckaaGreatDoor.X
open Go.RowKit Go.Proofs.YtnllidgonghckaaGreatDoorW.PrintWords Go.Proofs.YtnllidgonghckaaGreatDoorW.PrintLast Go.Proofs.YtnllidgonghckaaGreatDoorW.PrintMore Go.Proofs.YtnllidgonghckaaGreatDoor.Dm
set_option linter.unusedVariables false
set_option linter.unusedSimpArgs false
attribute [local go_sem] max2_int min2_int max_two min_two max_three min_three max_four min_four
def Kp9x.T : Bool × List (List Nat × List Nat) := (true, [([], []), ([], []), ([0, 0], [0]), ([1, 2, 0, 1, 2], [1]), ([3, 0, 1, 2, 3], [])])
def Kp9x.B : List Nat := [0, 0, 1, 7, 15]
theorem Kp9x.tab : rtab .any (opsOf Tryz.f40 9) = Kp9x.T := by kernel_rfl
theorem Kp9x.bits : waitsOk Kp9x.T.2 Kp9x.B = true := by kernel_rfl
def kdB (kind : Int) : Bool := decide (1 ≤ kind) && decide (kind ≤ 3)
def dvOf (kind : Int) : DialV := if kind = 1 then .plain 0 else if kind = 2 then .annual 0 0 else .leaps 0 0 0
theorem dialOf_yes (kind : Int) (h : kdB kind = true) (W : World) : Calls Tryz.prog 72 #[.int .i64 kind] W fun e w' => e = .returned (.tuple #[(dvOf kind).val, .bool true]) ∧ Below W.heap.size W w' := by
  simp only [kdB, Bool.and_eq_true, decide_eq_true_eq] at h
  have : kind = 1 ∨ kind = 2 ∨ kind = 3 := by omega
  rcases this with rfl | rfl | rfl
  · exact (dialOf_plain W).mono fun e w h => ⟨h.1, by rw [h.2]; exact Below.refl _ _⟩
  · exact (dialOf_annual W).mono fun e w h => ⟨h.1, by rw [h.2]; exact Below.refl _ _⟩
  · exact (dialOf_leaps W).mono fun e w h => ⟨h.1, by rw [h.2]; exact Below.refl _ _⟩
def keepN (a b : Int) : Nat := (b - a + 1).toNat
set_option maxHeartbeats 8000000 in
set_option maxRecDepth 100000 in
theorem keep_try (ep : Int) (A : Option Addr) (c : Nat) (cs : List Int) (epn : Int) (An : Option Addr) (cn : Nat) (csn : List Int) (last : Int) (a b comes : Int) (D0 : DialV) (gR gf gt gx gc go gw : Nat) (w W : World) (hB : Below w.heap.size w W) (hr : Kd.C (Kd.int .i64) w A cs.length cs) (hc : cs.length ≤ c) (hrn : Kd.C (Kd.int .i64) w An csn.length csn) (hcn : csn.length ≤ cn) (hcal : calB ep cs = true) (hcaln : calB epn csn = true)
    (bR : W.heap[gR]? = some (.cells #[.int .i64 ep, .slice A cs.length c, .int .i64 epn, .slice An csn.length cn, .int .i64 last] 63 (0, 0))) (bf : W.heap[gf]? = some (.cells #[.int .i64 a] 3 (0, 0))) (bt : W.heap[gt]? = some (.cells #[.int .i64 b] 3 (0, 0))) (bx : W.heap[gx]? = some (.cells #[D0.val] 95 (0, 0))) (bc : W.heap[gc]? = some (.cells #[.int .i64 comes] 3 (0, 0))) (bo : W.heap[go]? = some (.cells #[.slice none 0 0] 22 (0, 0))) (bw : W.heap[gw]? = some (.cells #[.int .i64 0] 3 (0, 0)))
    (hge : w.heap.size ≤ gx ∧ w.heap.size ≤ go ∧ w.heap.size ≤ gw) (hne : gf ≠ gw ∧ gc ≠ gw) (hab : 0 ≤ a ∧ b ≤ 2000000 ∧ a ≤ b ∧ b ≤ a + 1500) (hcm : comes ≤ 6) :
    Calls Tryz.prog 62 #[.func (.func 73) #[] #[.pointer (some ⟨gR, 0, none⟩), .pointer (some ⟨gf, 0, none⟩), .pointer (some ⟨gt, 0, none⟩), .pointer (some ⟨gx, 0, none⟩), .pointer (some ⟨gc, 0, none⟩), .pointer (some ⟨go, 0, none⟩), .pointer (some ⟨gw, 0, none⟩)]] W fun e w' => Below w.heap.size w w' ∧ ((e = .returned (.int .i64 0) ∧ ∃ k : Nat, a + (k : Int) = b + 1 ∧ (∀ j : Nat, j < k → (onOf ep cs epn csn last (a + (j : Int))).isSome = true) ∧ (∃ v, w'.heap[go]? = some (.cells #[v] 22 (0, 0)) ∧ Kd.R (Kd.int .i64) 3 w' w.heap.size (fun _ => True) v (keepSt (onOf ep cs epn csn last) a comes D0 k).2.1) ∧ w'.heap[gw]? = some (.cells #[.int .i64 (keepSt (onOf ep cs epn csn last) a comes D0 k).2.2] 3 (0, 0))) ∨ (e = .returned (.int .i64 5) ∧ ∃ k : Nat, a + (k : Int) ≤ b ∧ onOf ep cs epn csn last (a + (k : Int)) = none)) := by
  have lx := blk_lt bx
  have lo := blk_lt bo
  have lw := blk_lt bw
  refine (try_calls 73 _ Tryz.func73 (by kernel_rfl) rfl _ W (fun r w2 => Held W.heap.size (fun q => q = gx ∨ q = go ∨ q = gw) W w2 ∧ ((r = 0 ∧ ∃ k : Nat, a + (k : Int) = b + 1 ∧ (∀ j : Nat, j < k → (onOf ep cs epn csn last (a + (j : Int))).isSome = true) ∧ (∃ v, w2.heap[go]? = some (.cells #[v] 22 (0, 0)) ∧ Kd.R (Kd.int .i64) 3 w2 w.heap.size (fun q => W.heap.size < q) v (keepSt (onOf ep cs epn csn last) a comes D0 k).2.1) ∧ w2.heap[gw]? = some (.cells #[.int .i64 (keepSt (onOf ep cs epn csn last) a comes D0 k).2.2] 3 (0, 0))) ∨ (r = 5 ∧ ∃ k : Nat, a + (k : Int) ≤ b ∧ onOf ep cs epn csn last (a + (k : Int)) = none))) ?_ ?_).mono ?_
  · rintro r w2 w3 ⟨hh, hq⟩ hs hk hsz ho ht hou
    refine ⟨⟨ho.trans hh.os, ht.trans hh.tape, hou.trans hh.output, Nat.le_trans hh.size hsz, fun q hq' hx => (hk q (by omega) (by omega)).trans (hh.block q hq' hx)⟩, ?_⟩
    rcases hq with ⟨e1, k, h1, h2, ⟨v, h3, h4⟩, h5⟩ | hq
    · exact .inl ⟨e1, k, h1, h2, ⟨v, (hk go (by omega) (by omega)).trans h3, Kd.R_step h4 (fun q hq' hlt => hk q hlt (by omega))⟩, (hk gw (by omega) (by omega)).trans h5⟩
    · exact .inr hq
  · intro w1 hw1 hb
    have l1 := blk_lt hw1
    refine (keep1_b ep A c cs epn An cn csn last a b comes D0 gR gf gt gx gc go gw w w1 (below_thenN hB hb) hr hc hrn hcn hcal hcaln (blk_below bR hb) (blk_below bf hb) (blk_below bt hb) (blk_below bx hb) (blk_below bc hb) (blk_below bo hb) (blk_below bw hb) hge hne hab hcm).mono ?_
    rintro e w2 ⟨hh, hq⟩
    have hh2 : Held W.heap.size (fun q => q = gx ∨ q = go ∨ q = gw) W w2 := (Held.of_below hb hb.size).trans (hh.mono hb.size)
    refine ⟨(hh.block W.heap.size l1 (by rintro (h | h | h) <;> omega)).trans hw1, ?_⟩
    rcases hq with ⟨rfl, k, h1, h2, ⟨v, h3, h4⟩, h5⟩ | ⟨k, h1, h2, rfl⟩
    · exact .inl ⟨rfl, hh2, .inl ⟨rfl, k, h1, h2, ⟨v, h3, Kd.R_mono h4 (fun q hq' => by omega)⟩, h5⟩⟩
    · exact .inr ⟨a + (k : Int), rfl, hh2, .inr ⟨rfl, k, h1, h2⟩⟩
  · rintro e w' ⟨r, rfl, hh, hq⟩
    refine ⟨below_held hB hh hB.size (by rintro q (h | h | h) <;> omega), ?_⟩
    rcases hq with ⟨rfl, k, h1, h2, ⟨v, h3, h4⟩, h5⟩ | ⟨rfl, hq⟩
    · exact .inl ⟨rfl, k, h1, h2, ⟨v, h3, Kd.R_mono h4 (fun _ _ => trivial)⟩, h5⟩
    · exact .inr ⟨rfl, hq⟩
set_option maxHeartbeats 8000000 in
set_option maxRecDepth 100000 in
theorem Keep_ok (ep : Int) (A : Option Addr) (c : Nat) (cs : List Int) (epn : Int) (An : Option Addr) (cn : Nat) (csn : List Int) (last : Int) (kind comes a b : Int) (w : World) (hr : Kd.C (Kd.int .i64) w A cs.length cs) (hc : cs.length ≤ c) (hrn : Kd.C (Kd.int .i64) w An csn.length csn) (hcn : csn.length ≤ cn) (hrl : realmB ep cs epn csn last = true) (hkd : kdB kind = true) (hcm : inB comes (-1) 6 = true) (hda : dayB a = true) (hdb : dayB b = true) (hsp : inB (b - a) 0 1500 = true) (hall : ∀ j : Nat, j < keepN a b → (onOf ep cs epn csn last (a + (j : Int))).isSome = true) :
    Calls Tryz.prog 40 #[.agg #[.int .i64 ep, .slice A cs.length c, .int .i64 epn, .slice An csn.length cn, .int .i64 last], .int .i64 kind, .int .i64 comes, .int .i64 a, .int .i64 b] w fun e w' => ∃ v0_ : Value, e = .returned (.tuple #[v0_, .int .i64 (keepSt (onOf ep cs epn csn last) a comes (dvOf kind) (keepN a b)).2.2, .int .i64 0]) ∧ Kd.R (Kd.int .i64) 3 w' w.heap.size (fun _ => True) v0_ (keepSt (onOf ep cs epn csn last) a comes (dvOf kind) (keepN a b)).2.1 ∧ Below w.heap.size w w' := by
  have hu63 := Tryz.underlying63
  have hu95 := Tryz.underlying95
  have hu22 := Tryz.underlying22
  have hmf : ∀ (fn : Go.Fn) (first cap : Array Value) (w : World), (Instr.makeFunc fn first cap).run Tryz.prog w = .ok (.func fn first cap) w := fun _ _ _ _ => rfl
  have HB := Aside0.mk (Below.refl w.heap.size w)
  have HR := Aside0.mk hr
  have HC := Aside0.mk hc
  have HRn := Aside0.mk hrn
  have HCn := Aside0.mk hcn
  clear hr hc hrn hcn
  have HCAL := Aside0.mk (show calB ep cs = true ∧ calB epn csn = true by have h := hrl; simp only [realmB, Bool.and_eq_true] at h; exact ⟨h.1.1, h.1.2⟩)
  have HAB := Aside0.mk (show 0 ≤ a ∧ b ≤ 2000000 ∧ a ≤ b ∧ b ≤ a + 1500 by have h1 := hda; have h2 := hdb; have h3 := hsp; simp only [dayB, inB, Bool.and_eq_true, decide_eq_true_eq] at h1 h2 h3; omega)
  have HCC := Aside0.mk (show comes ≤ 6 by have h1 := hcm; simp only [inB, Bool.and_eq_true, decide_eq_true_eq] at h1; omega)
  have w1_ : IntKind.i64.wrap (b - a) = b - a := (i64_w _).trans (wrap_of _ (by have := HAB.out; omega) (by have := HAB.out; omega))
  have w2_ : wrap64 (b - a) = b - a := (i64_w _).symm.trans w1_
  have HALL := Aside0.mk hall
  clear hall
  have HRL := Aside0.mk hrl
  clear hrl
  have HKD := Aside0.mk hkd
  clear hkd
  have HCM := Aside0.mk hcm
  clear hcm
  have HDA := Aside0.mk hda
  clear hda
  have HDB := Aside0.mk hdb
  clear hdb
  have HSP := Aside0.mk hsp
  clear hsp
  go_enter Tryz.func40, Tryz.ntmps40
  go_upto_region 9 with (first
    | ((with_reducible refine zG 5 rfl ?_); refine zBox 5 #[.int .i64 ep, .slice A cs.length c, .int .i64 epn, .slice An csn.length cn, .int .i64 last] 63 ?_; intro gR hg w1 hbox hb; have GEgR := zge hg HB; replace HB := zW HB hb; have BKgR := Aside0.mk hbox; clear hb hbox hg; have z1_gR0 := zC BKgR)
    | ((with_reducible refine zG 7 rfl ?_); refine zBox 7 #[.int .i64 comes] 3 ?_; intro gc hg w2 hbox hb; have GEgc := zge hg HB; have NEgR_gc := zne hg BKgR; replace HB := zW HB hb; replace BKgR := zb BKgR hb; have BKgc := Aside0.mk hbox; clear hb hbox hg; (try clear z1_gR0); have z2_gR0 := zC BKgR; have z2_gc0 : w2.cell? ⟨gc, 0, none⟩ = some (.int .i64 comes) := zx BKgc 0)
    | ((with_reducible refine zG 8 rfl ?_); refine zBox 8 #[.int .i64 a] 3 ?_; intro gf hg w3 hbox hb; have GEgf := zge hg HB; have NEgR_gf := zne hg BKgR; have NEgc_gf := zne hg BKgc; replace HB := zW HB hb; replace BKgR := zb BKgR hb; replace BKgc := zb BKgc hb; have BKgf := Aside0.mk hbox; clear hb hbox hg; (try clear z2_gR0 z2_gc0); have z3_gR0 := zC BKgR; have z3_gc0 : w3.cell? ⟨gc, 0, none⟩ = some (.int .i64 comes) := zx BKgc 0; have z3_gf0 : w3.cell? ⟨gf, 0, none⟩ = some (.int .i64 a) := zx BKgf 0)
    | ((with_reducible refine zG 9 rfl ?_); refine zBox 9 #[.int .i64 b] 3 ?_; intro gt hg w4 hbox hb; have GEgt := zge hg HB; have NEgR_gt := zne hg BKgR; have NEgc_gt := zne hg BKgc; have NEgf_gt := zne hg BKgf; replace HB := zW HB hb; replace BKgR := zb BKgR hb; replace BKgc := zb BKgc hb; replace BKgf := zb BKgf hb; have BKgt := Aside0.mk hbox; clear hb hbox hg; (try clear z3_gR0 z3_gc0 z3_gf0); have z4_gR0 := zC BKgR; have z4_gc0 : w4.cell? ⟨gc, 0, none⟩ = some (.int .i64 comes) := zx BKgc 0; have z4_gf0 : w4.cell? ⟨gf, 0, none⟩ = some (.int .i64 a) := zx BKgf 0; have z4_gt0 : w4.cell? ⟨gt, 0, none⟩ = some (.int .i64 b) := zx BKgt 0)
    | (go_at_call 72; (with_reducible refine (dialOf_yes kind HKD.out _).mono ?_); rintro e w5 ⟨rfl, hb⟩; replace HB := zW HB hb; replace BKgR := zb BKgR hb; replace BKgc := zb BKgc hb; replace BKgf := zb BKgf hb; replace BKgt := zb BKgt hb; clear hb; (try clear z4_gR0 z4_gc0 z4_gf0 z4_gt0); have z5_gR0 := zC BKgR; have z5_gc0 : w5.cell? ⟨gc, 0, none⟩ = some (.int .i64 comes) := zx BKgc 0; have z5_gf0 : w5.cell? ⟨gf, 0, none⟩ = some (.int .i64 a) := zx BKgf 0; have z5_gt0 : w5.cell? ⟨gt, 0, none⟩ = some (.int .i64 b) := zx BKgt 0)
    | ((with_reducible refine zG 13 rfl ?_); refine zBox 13 #[.nilIface] 95 ?_; intro gx hg w6 hbox hb; have GEgx := zge hg HB; have NEgR_gx := zne hg BKgR; have NEgc_gx := zne hg BKgc; have NEgf_gx := zne hg BKgf; have NEgt_gx := zne hg BKgt; replace HB := zW HB hb; replace BKgR := zb BKgR hb; replace BKgc := zb BKgc hb; replace BKgf := zb BKgf hb; replace BKgt := zb BKgt hb; have BKgx := Aside0.mk hbox; clear hb hbox hg; (try clear z5_gR0 z5_gc0 z5_gf0 z5_gt0); have z6_gR0 := zC BKgR; have z6_gc0 : w6.cell? ⟨gc, 0, none⟩ = some (.int .i64 comes) := zx BKgc 0; have z6_gf0 : w6.cell? ⟨gf, 0, none⟩ = some (.int .i64 a) := zx BKgf 0; have z6_gt0 : w6.cell? ⟨gt, 0, none⟩ = some (.int .i64 b) := zx BKgt 0; have z6_gx0 := zC BKgx; have z6_gx0f := zF BKgx)
    | ((with_reducible refine zH 95 13 rfl ?_); refine store_cell_event rfl rfl 95 (.tmp 13) _ rfl (by rfl) (by rfl) (store_dial (dvOf kind) BKgx.out) ?_; intro w6s hw; have n_HB := Aside0.mk (show Below w.heap.size w w6s by rw [hw]; exact below_set HB.out GEgx.out); have n_BKgR := Aside0.mk (blk_setFar hw (by first | exact NEgR_gx.out | exact NEgx_gR.out.symm) BKgR.out); have n_BKgc := Aside0.mk (blk_setFar hw (by first | exact NEgc_gx.out | exact NEgx_gc.out.symm) BKgc.out); have n_BKgf := Aside0.mk (blk_setFar hw (by first | exact NEgf_gx.out | exact NEgx_gf.out.symm) BKgf.out); have n_BKgt := Aside0.mk (blk_setFar hw (by first | exact NEgt_gx.out | exact NEgx_gt.out.symm) BKgt.out); have n_BKgx := Aside0.mk (blk_setCell hw BKgx.out); clear hw HB BKgR BKgc BKgf BKgt BKgx; have HB := n_HB; have BKgR := n_BKgR; have BKgc := n_BKgc; have BKgf := n_BKgf; have BKgt := n_BKgt; have BKgx := n_BKgx; clear n_HB n_BKgR n_BKgc n_BKgf n_BKgt n_BKgx; (try clear z6_gR0 z6_gc0 z6_gf0 z6_gt0 z6_gx0 z6_gx0f); have z7_gR0 := zC BKgR; have z7_gc0 : w6s.cell? ⟨gc, 0, none⟩ = some (.int .i64 comes) := zx BKgc 0; have z7_gf0 : w6s.cell? ⟨gf, 0, none⟩ = some (.int .i64 a) := zx BKgf 0; have z7_gt0 : w6s.cell? ⟨gt, 0, none⟩ = some (.int .i64 b) := zx BKgt 0; have z7_gx0 := zC BKgx; have z7_gx0f := zF BKgx)
    | (go_at_call 66; (with_reducible refine (isRealm_l ep A c cs epn An cn csn last true HRL.out w _ HR.out HC.out HRn.out HCn.out HB.out).mono ?_); rintro e w7 ⟨rfl, hb⟩; replace HB := zW HB hb; replace BKgR := zb BKgR hb; replace BKgc := zb BKgc hb; replace BKgf := zb BKgf hb; replace BKgt := zb BKgt hb; replace BKgx := zb BKgx hb; clear hb; (try clear z7_gR0 z7_gc0 z7_gf0 z7_gt0 z7_gx0 z7_gx0f); have z8_gR0 := zC BKgR; have z8_gc0 : w7.cell? ⟨gc, 0, none⟩ = some (.int .i64 comes) := zx BKgc 0; have z8_gf0 : w7.cell? ⟨gf, 0, none⟩ = some (.int .i64 a) := zx BKgf 0; have z8_gt0 : w7.cell? ⟨gt, 0, none⟩ = some (.int .i64 b) := zx BKgt 0; have z8_gx0 : w7.cell? ⟨gx, 0, none⟩ = some ((dvOf kind).val) := zx BKgx 0)
    | (go_at_call 70; (with_reducible refine (in_l comes (-1) 6 true HCM.out _).mono ?_); rintro e w8 ⟨rfl, hb⟩; replace HB := zW HB hb; replace BKgR := zb BKgR hb; replace BKgc := zb BKgc hb; replace BKgf := zb BKgf hb; replace BKgt := zb BKgt hb; replace BKgx := zb BKgx hb; clear hb; (try clear z8_gR0 z8_gc0 z8_gf0 z8_gt0 z8_gx0); have z9_gR0 := zC BKgR; have z9_gc0 : w8.cell? ⟨gc, 0, none⟩ = some (.int .i64 comes) := zx BKgc 0; have z9_gf0 : w8.cell? ⟨gf, 0, none⟩ = some (.int .i64 a) := zx BKgf 0; have z9_gt0 : w8.cell? ⟨gt, 0, none⟩ = some (.int .i64 b) := zx BKgt 0; have z9_gx0 : w8.cell? ⟨gx, 0, none⟩ = some ((dvOf kind).val) := zx BKgx 0)
    | ((go_at_call 59; (with_reducible refine (isDay_l a true HDA.out _).mono ?_); rintro e w9 ⟨rfl, hb⟩; replace HB := zW HB hb; replace BKgR := zb BKgR hb; replace BKgc := zb BKgc hb; replace BKgf := zb BKgf hb; replace BKgt := zb BKgt hb; replace BKgx := zb BKgx hb; clear hb; (try clear z9_gR0 z9_gc0 z9_gf0 z9_gt0 z9_gx0); have z10_gR0 := zC BKgR; have z10_gc0 : w9.cell? ⟨gc, 0, none⟩ = some (.int .i64 comes) := zx BKgc 0; have z10_gf0 : w9.cell? ⟨gf, 0, none⟩ = some (.int .i64 a) := zx BKgf 0; have z10_gt0 : w9.cell? ⟨gt, 0, none⟩ = some (.int .i64 b) := zx BKgt 0; have z10_gx0 : w9.cell? ⟨gx, 0, none⟩ = some ((dvOf kind).val) := zx BKgx 0))
    | ((go_at_call 59; (with_reducible refine (isDay_l b true HDB.out _).mono ?_); rintro e wa ⟨rfl, hb⟩; replace HB := zW HB hb; replace BKgR := zb BKgR hb; replace BKgc := zb BKgc hb; replace BKgf := zb BKgf hb; replace BKgt := zb BKgt hb; replace BKgx := zb BKgx hb; clear hb; (try clear z10_gR0 z10_gc0 z10_gf0 z10_gt0 z10_gx0); have z11_gR0 := zC BKgR; have z11_gc0 : wa.cell? ⟨gc, 0, none⟩ = some (.int .i64 comes) := zx BKgc 0; have z11_gf0 : wa.cell? ⟨gf, 0, none⟩ = some (.int .i64 a) := zx BKgf 0; have z11_gt0 : wa.cell? ⟨gt, 0, none⟩ = some (.int .i64 b) := zx BKgt 0; have z11_gx0 : wa.cell? ⟨gx, 0, none⟩ = some ((dvOf kind).val) := zx BKgx 0))
    | (go_at_call 70; (with_reducible refine (in_l (b - a) 0 1500 true HSP.out _).mono ?_); rintro e wb ⟨rfl, hb⟩; replace HB := zW HB hb; replace BKgR := zb BKgR hb; replace BKgc := zb BKgc hb; replace BKgf := zb BKgf hb; replace BKgt := zb BKgt hb; replace BKgx := zb BKgx hb; clear hb; (try clear z11_gR0 z11_gc0 z11_gf0 z11_gt0 z11_gx0); have z12_gR0 := zC BKgR; have z12_gc0 : wb.cell? ⟨gc, 0, none⟩ = some (.int .i64 comes) := zx BKgc 0; have z12_gf0 : wb.cell? ⟨gf, 0, none⟩ = some (.int .i64 a) := zx BKgf 0; have z12_gt0 : wb.cell? ⟨gt, 0, none⟩ = some (.int .i64 b) := zx BKgt 0; have z12_gx0 : wb.cell? ⟨gx, 0, none⟩ = some ((dvOf kind).val) := zx BKgx 0)
    | ((with_reducible refine zG 15 rfl ?_); refine zBox 15 #[.slice none 0 0] 22 ?_; intro go hg wc hbox hb; have GEgo := zge hg HB; have NEgR_go := zne hg BKgR; have NEgc_go := zne hg BKgc; have NEgf_go := zne hg BKgf; have NEgt_go := zne hg BKgt; have NEgx_go := zne hg BKgx; replace HB := zW HB hb; replace BKgR := zb BKgR hb; replace BKgc := zb BKgc hb; replace BKgf := zb BKgf hb; replace BKgt := zb BKgt hb; replace BKgx := zb BKgx hb; have BKgo := Aside0.mk hbox; clear hb hbox hg; (try clear z12_gR0 z12_gc0 z12_gf0 z12_gt0 z12_gx0); have z13_gR0 := zC BKgR; have z13_gc0 : wc.cell? ⟨gc, 0, none⟩ = some (.int .i64 comes) := zx BKgc 0; have z13_gf0 : wc.cell? ⟨gf, 0, none⟩ = some (.int .i64 a) := zx BKgf 0; have z13_gt0 : wc.cell? ⟨gt, 0, none⟩ = some (.int .i64 b) := zx BKgt 0; have z13_gx0 : wc.cell? ⟨gx, 0, none⟩ = some ((dvOf kind).val) := zx BKgx 0; have z13_go0 : wc.cell? ⟨go, 0, none⟩ = some (.slice none 0 0) := zx BKgo 0)
    | ((with_reducible refine zG 16 rfl ?_); refine zBox 16 #[.int .i64 0] 3 ?_; intro gw hg wd hbox hb; have GEgw := zge hg HB; have NEgR_gw := zne hg BKgR; have NEgc_gw := zne hg BKgc; have NEgf_gw := zne hg BKgf; have NEgt_gw := zne hg BKgt; have NEgx_gw := zne hg BKgx; have NEgo_gw := zne hg BKgo; replace HB := zW HB hb; replace BKgR := zb BKgR hb; replace BKgc := zb BKgc hb; replace BKgf := zb BKgf hb; replace BKgt := zb BKgt hb; replace BKgx := zb BKgx hb; replace BKgo := zb BKgo hb; have BKgw := Aside0.mk hbox; clear hb hbox hg; (try clear z13_gR0 z13_gc0 z13_gf0 z13_gt0 z13_gx0 z13_go0); have z14_gR0 := zC BKgR; have z14_gc0 : wd.cell? ⟨gc, 0, none⟩ = some (.int .i64 comes) := zx BKgc 0; have z14_gf0 : wd.cell? ⟨gf, 0, none⟩ = some (.int .i64 a) := zx BKgf 0; have z14_gt0 : wd.cell? ⟨gt, 0, none⟩ = some (.int .i64 b) := zx BKgt 0; have z14_gx0 : wd.cell? ⟨gx, 0, none⟩ = some ((dvOf kind).val) := zx BKgx 0; have z14_go0 : wd.cell? ⟨go, 0, none⟩ = some (.slice none 0 0) := zx BKgo 0; have z14_gw0 := zC BKgw; have z14_gw0f := zF BKgw)
    | ((with_reducible refine zH 3 16 rfl ?_); refine store_event (t := 3) (p := 16) (v := ?vo) (w1 := wd.setCell ⟨gw, 0, none⟩ (.int .i64 0)) ?hg ?ho ?hn ?hr ?_; (case ho => rfl); (case hg => rfl); (case hn => rfl); (case hr => first | (go_simp; done) | (go_simp; rfl)); intro we hw; have n_HB := Aside0.mk (show Below w.heap.size w we by rw [hw]; exact below_set HB.out GEgw.out); have n_BKgR := Aside0.mk (blk_setFar hw (by first | exact NEgR_gw.out | exact NEgw_gR.out.symm) BKgR.out); have n_BKgc := Aside0.mk (blk_setFar hw (by first | exact NEgc_gw.out | exact NEgw_gc.out.symm) BKgc.out); have n_BKgf := Aside0.mk (blk_setFar hw (by first | exact NEgf_gw.out | exact NEgw_gf.out.symm) BKgf.out); have n_BKgt := Aside0.mk (blk_setFar hw (by first | exact NEgt_gw.out | exact NEgw_gt.out.symm) BKgt.out); have n_BKgx := Aside0.mk (blk_setFar hw (by first | exact NEgx_gw.out | exact NEgw_gx.out.symm) BKgx.out); have n_BKgo := Aside0.mk (blk_setFar hw (by first | exact NEgo_gw.out | exact NEgw_go.out.symm) BKgo.out); have n_BKgw := Aside0.mk (blk_setCell hw BKgw.out); clear hw HB BKgR BKgc BKgf BKgt BKgx BKgo BKgw; have HB := n_HB; have BKgR := n_BKgR; have BKgc := n_BKgc; have BKgf := n_BKgf; have BKgt := n_BKgt; have BKgx := n_BKgx; have BKgo := n_BKgo; have BKgw := n_BKgw; clear n_HB n_BKgR n_BKgc n_BKgf n_BKgt n_BKgx n_BKgo n_BKgw; (try clear z14_gR0 z14_gc0 z14_gf0 z14_gt0 z14_gx0 z14_go0 z14_gw0 z14_gw0f); have z15_gR0 := zC BKgR; have z15_gc0 : we.cell? ⟨gc, 0, none⟩ = some (.int .i64 comes) := zx BKgc 0; have z15_gf0 : we.cell? ⟨gf, 0, none⟩ = some (.int .i64 a) := zx BKgf 0; have z15_gt0 : we.cell? ⟨gt, 0, none⟩ = some (.int .i64 b) := zx BKgt 0; have z15_gx0 := zC BKgx; have z15_gx0f := zF BKgx; have z15_go0 := zC BKgo; have z15_go0f := zF BKgo; have z15_gw0 := zC BKgw; have z15_gw0f := zF BKgw)
    | (go_at_call 62; (with_reducible refine (keep_try ep A c cs epn An cn csn last a b comes (dvOf kind) gR gf gt gx gc go gw w _ HB.out HR.out HC.out HRn.out HCn.out HCAL.out.1 HCAL.out.2 BKgR.out BKgf.out BKgt.out BKgx.out BKgc.out BKgo.out BKgw.out ⟨GEgx.out, GEgo.out, GEgw.out⟩ ⟨NEgf_gw.out, NEgc_gw.out⟩ HAB.out HCC.out).mono ?_); rintro e wf ⟨hb, (⟨rfl, k, h1, h2, ⟨v, h3, h4⟩, h5⟩ | ⟨rfl, k, h1, h2⟩)⟩; rotate_left; (exfalso; have hz := HALL.out k (by have := HAB.out; unfold keepN; omega); rw [h2] at hz; cases hz); clear HB BKgR BKgc BKgf BKgt BKgx BKgo BKgw; have HB := Aside0.mk hb; have BKgo := Aside0.mk h3; have BKgw := Aside0.mk h5; have HOv := Aside0.mk h4; have HKN := Aside0.mk (show k = keepN a b by unfold keepN; omega); (try clear z15_gR0 z15_gc0 z15_gf0 z15_gt0 z15_gx0 z15_gx0f z15_go0 z15_go0f z15_gw0 z15_gw0f); clear hb h1 h2 h3 h4 h5; have zo := (blk_cell BKgo.out 0).trans (show _ = some v from rfl)))
  replace HB := zWD HB
  replace BKgo := zbD BKgo
  replace BKgw := zbD BKgw
  replace HOv := zrD HOv
  refine zStart 5 (fun w' => w'.cell? ⟨go, 0, none⟩ = some v ∧ w'.cell? ⟨gw, 0, none⟩ = some (.int .i64 (keepSt (onOf ep cs epn csn last) a comes (dvOf kind) k).2.2)) #[false, false, false, false, false] Kp9x.tab Kp9x.bits ⟨zx BKgo 0, zx BKgw 0⟩ (fun hHeld HT_ HW_ => ?_)
  generalize wf.drew = wg at HB BKgo BKgw HOv hHeld ⊢
  refine zT 0 (some 57) HT_ HW_ hHeld ?_
  refine zP 2 (some 10) HT_ ?_
  refine zT 1 (some 58) HT_ HW_ hHeld ?_
  refine zP 3 (some 11) HT_ ?_
  refine zP 4 (some 12) HT_ ?_
  refine done_ (done_of HT_.out (by kernel_rfl)) ?_
  try go_wp2
  go_ret3
  rw [← HKN.out]
  exact ⟨v, rfl, HOv.out, HB.out⟩
end Go.Proofs.YtnllidgonghckaaGreatDoor.X
namespace Go.Proofs.YtnllidgonghckaaGreatDoor.X
open Go.RowKit Go.Proofs.YtnllidgonghckaaGreatDoor.Dm
set_option linter.unusedVariables false
set_option maxRecDepth 100000
theorem yearOf_eq (ep : Int) (cs : List Int) (day : Int) (y : Nat) (hy : y < 4002) (h1 : fday ep cs y ≤ day) (h2 : day < fday ep cs (y + 1)) : yearOf ep cs day = y := by
  obtain ⟨a, b, c, d⟩ := yearTo_spec ep cs day 4002
  unfold yearOf
  rcases Int.lt_trichotomy (yearTo ep cs day 4002) (y : Int) with h | h | h
  · have := d y (by omega) (by omega)
    omega
  · exact h
  · have h3 := c (by omega)
    have h4 := fday_mono ep cs (y + 1) (yearTo ep cs day 4002).toNat (by omega)
    omega
theorem dateOf_at (ep : Int) (cs : List Int) (day : Int) (y : Nat) (hy : y ≤ 4000) (h1 : fday ep cs y ≤ day) (h2 : day < fday ep cs (y + 1)) :
    dateOf ep cs day = (mloop (mlist (leapB cs (y : Int))) (day - fday ep cs y) 0).map (fun p => ((y : Int), p.1, p.2)) := by
  unfold dateOf
  rw [yearOf_eq ep cs day y (by omega) h1 h2, if_pos (by simp only [yearB, Bool.and_eq_true, decide_eq_true_eq]; omega)]
  rfl
theorem keepSt_congr {on on' : Int → Option (Int × Int × Int)} (a comes : Int) (D0 : DialV) : ∀ k : Nat, (∀ j : Nat, j < k → on (a + (j : Int)) = on' (a + (j : Int))) → keepSt on a comes D0 k = keepSt on' a comes D0 k
  | 0, _ => rfl
  | k + 1, h => by
    unfold keepSt
    rw [h k (by omega), keepSt_congr a comes D0 k (fun j hj => h j (by omega))]
theorem f1582 : fday 2 [4, 100, 400] 1582 = 577816 := by kernel_rfl
theorem f1583 : fday 2 [4, 100, 400] 1583 = 578181 := by kernel_rfl
theorem f0 : fday 0 [4] 0 = 0 := rfl
theorem f1 : fday 0 [4] 1 = 366 := by kernel_rfl
theorem f2 : fday 0 [4] 2 = 731 := by kernel_rfl
def on1 (n : Int) : Option (Int × Int × Int) := (mloop (mlist false) (n - 366) 0).map (fun p => (1, p.1, p.2))
def tellurionlaw06_known.f : Option Bool := some true
end Go.Proofs.YtnllidgonghckaaGreatDoor.X
namespace Go.Proofs.YtnllidgonghckaaGreatDoor.X
open Go.RowKit Go.Proofs.YtnllidgonghckaaGreatDoorW.PrintWords Go.Proofs.YtnllidgonghckaaGreatDoorW.PrintLast Go.Proofs.YtnllidgonghckaaGreatDoorW.PrintMore Go.Proofs.YtnllidgonghckaaGreatDoor.Dm
set_option linter.unusedVariables false
set_option maxRecDepth 100000
theorem kn_Day (A : Option Addr) (c : Nat) (w : World) (hr : Kd.C (Kd.int .i64) w A 3 [4, 100, 400]) (hc : 3 ≤ c) :
    Calls Tryz.prog 19 #[.agg #[.int .i64 2, .slice A 3 c], .agg #[.int .i64 2000, .int .i64 1, .int .i64 1]] w fun e w' => e = .returned (.tuple #[.int .i64 730487, .int .i64 0]) ∧ Below w.heap.size w w' := by
  have h := Day_2 2 A c [4, 100, 400] 2000 1 1 w hr hc (by kernel_rfl) (by kernel_rfl)
  rw [show dayOf 2 [4, 100, 400] 2000 1 1 = 730487 by kernel_rfl] at h
  exact h
theorem kn_On (A : Option Addr) (c : Nat) (B : Option Addr) (d : Nat) (w : World) (hr : Kd.C (Kd.int .i64) w A 1 [4]) (hc : 1 ≤ c) (hs : Kd.C (Kd.int .i64) w B 3 [4, 100, 400]) (hd : 3 ≤ d) :
    Calls Tryz.prog 33 #[.agg #[.int .i64 0, .slice A 1 c, .int .i64 2, .slice B 3 d, .int .i64 578102], .int .i64 578103] w fun e w' => e = .returned (.tuple #[.agg #[.int .i64 1582, .int .i64 10, .int .i64 15], .int .i64 0]) ∧ Below w.heap.size w w' :=
  On_ok 0 A c [4] 2 B d [4, 100, 400] 578102 578103 w hr hc hs hd (by kernel_rfl) (by kernel_rfl) 1582 10 15 (by
    unfold onOf
    rw [if_neg (by decide), dateOf_at 2 [4, 100, 400] 578103 1582 (by decide) (by rw [f1582]; decide) (by rw [f1583]; decide), f1582]
    kernel_rfl)
theorem kn_Letters (A : Option Addr) (c : Nat) (w : World) (hr : Kd.C (Kd.int .i64) w A 3 [4, 100, 400]) (hc : 3 ≤ c) :
    Calls Tryz.prog 12 #[.agg #[.int .i64 2, .slice A 3 c], .int .i64 2000] w fun e w' => e = .returned (.tuple #[.int .i64 2, .int .i64 1, .int .i64 0]) ∧ Below w.heap.size w w' := by
  have h := Letters_good 2 A c [4, 100, 400] 2000 w hr hc (by kernel_rfl) (by kernel_rfl)
  rw [show letterA 2 [4, 100, 400] 2000 = 2 by kernel_rfl, show letterB 2 [4, 100, 400] 2000 = 1 by kernel_rfl] at h
  exact h
theorem kn_Like (A : Option Addr) (c : Nat) (w : World) (hr : Kd.C (Kd.int .i64) w A 3 [4, 100, 400]) (hc : 3 ≤ c) :
    Calls Tryz.prog 13 #[.agg #[.int .i64 2, .slice A 3 c], .int .i64 1999] w fun e w' => e = .returned (.tuple #[.int .i64 2010, .int .i64 0]) ∧ Below w.heap.size w w' :=
  Like_good 2 A c [4, 100, 400] 1999 w hr hc (by kernel_rfl) (by kernel_rfl) 2010 0 (by kernel_rfl)
theorem kn_Days (A : Option Addr) (c : Nat) (B : Option Addr) (d : Nat) (w : World) (hr : Kd.C (Kd.int .i64) w A 3 [4, 100, 400]) (hc : 3 ≤ c) (hs : Kd.C (Kd.int .i64) w B 1 [4]) (hd : 1 ≤ d) :
    Calls Tryz.prog 35 #[.agg #[.int .i64 2, .slice A 3 c, .int .i64 0, .slice B 1 d, .int .i64 578103], .agg #[.int .i64 1582, .int .i64 10, .int .i64 10]] w fun e w' => ∃ v0_ : Value, e = .returned (.tuple #[v0_, .int .i64 0]) ∧ Kd.R (Kd.int .i64) 3 w' w.heap.size (fun _ => True) v0_ [578098, 578108] ∧ Below w.heap.size w w' := by
  have h := Days_good 2 A c [4, 100, 400] 0 B d [4] 578103 1582 10 10 w hr hc hs hd (by kernel_rfl) (by kernel_rfl) (by kernel_rfl) (by kernel_rfl)
  rw [show dayOld 2 [4, 100, 400] 578103 1582 10 10 ++ dayNew 0 [4] 578103 1582 10 10 = [578098, 578108] by kernel_rfl] at h
  exact h
theorem kn_Easter (A : Option Addr) (c : Nat) (w : World) (hr : Kd.C (Kd.int .i64) w A 1 [4]) (hc : 1 ≤ c) :
    Calls Tryz.prog 37 #[.agg #[.int .i64 0, .slice A 1 c], .agg #[.int .i64 59, .int .i64 2, .int .i64 0], .int .i64 0] w fun e w' => e = .returned (.tuple #[.agg #[.int .i64 0, .int .i64 4, .int .i64 18], .int .i64 0]) ∧ Below w.heap.size w w' :=
  Easter_good 0 A c [4] 59 2 0 0 w hr hc (by kernel_rfl) (by kernel_rfl) (by kernel_rfl) 0 4 18 (by
    rw [show sundayOf 0 [4] 59 2 0 0 = 108 by kernel_rfl, dateOf_at 0 [4] 108 0 (by decide) (by rw [f0]; decide) (by rw [f1]; decide), f0]
    kernel_rfl)
theorem kn_Keep (A : Option Addr) (c : Nat) (B : Option Addr) (d : Nat) (w : World) (hr : Kd.C (Kd.int .i64) w A 1 [4]) (hc : 1 ≤ c) (hs : Kd.C (Kd.int .i64) w B 1 [4]) (hd : 1 ≤ d) :
    Calls Tryz.prog 40 #[.agg #[.int .i64 0, .slice A 1 c, .int .i64 0, .slice B 1 d, .int .i64 0], .int .i64 1, .int .i64 0, .int .i64 366, .int .i64 455] w fun e w' => ∃ v0_ : Value, e = .returned (.tuple #[v0_, .int .i64 5, .int .i64 0]) ∧ Kd.R (Kd.int .i64) 3 w' w.heap.size (fun _ => True) v0_ [430] ∧ Below w.heap.size w w' := by
  have e : ∀ j : Nat, j < 90 → onOf 0 [4] 0 [4] 0 (366 + (j : Int)) = on1 (366 + (j : Int)) := fun j hj => by
    unfold onOf
    rw [if_neg (by omega), dateOf_at 0 [4] (366 + (j : Int)) 1 (by decide) (by rw [f1]; omega) (by rw [f2]; omega), f1]
    rfl
  have hs' : (List.range 90).all (fun j => (on1 (366 + (j : Int))).isSome) = true := by kernel_rfl
  have h := Keep_ok 0 A c [4] 0 B d [4] 0 1 0 366 455 w hr hc hs hd (by kernel_rfl) (by kernel_rfl) (by kernel_rfl) (by kernel_rfl) (by kernel_rfl) (by kernel_rfl) (fun j hj => by
    have hj' : j < 90 := hj
    rw [e j hj']
    exact List.all_eq_true.1 hs' j (List.mem_range.2 hj'))
  rw [show keepN 366 455 = 90 from rfl, keepSt_congr 366 0 (dvOf 1) 90 e, show (keepSt on1 366 0 (dvOf 1) 90).2.1 = [430] by kernel_rfl, show (keepSt on1 366 0 (dvOf 1) 90).2.2 = 5 by kernel_rfl] at h
  exact h
theorem kn_Years (A : Option Addr) (c : Nat) (B : Option Addr) (w : World) (hr : Kd.C (Kd.int .i64) w A 1 [4]) (hc : 1 ≤ c) (hf : Kd.C k74 w B 2 [⟨5, 0, 0, 366⟩, ⟨1, 1, 1, 4⟩]) :
    Calls Tryz.prog 42 #[.agg #[.int .i64 0, .slice A 1 c], .agg #[.int .i64 59, .int .i64 2, .int .i64 0], .slice B 2 2, .int .i64 0, .int .i64 60] w fun e w' => ∃ v0_ : Value, e = .returned (.tuple #[v0_, .int .i64 0]) ∧ Kd.R (Kd.int .i64) 3 w' w.heap.size (fun _ => True) v0_ [0, 28, 56] ∧ Below w.heap.size w w' := by
  have h := Years_good 0 A c [4] 59 2 0 B 2 [⟨5, 0, 0, 366⟩, ⟨1, 1, 1, 4⟩] 0 60 w hr hc hf (by decide) (by kernel_rfl) (by kernel_rfl) (by kernel_rfl) (by kernel_rfl)
  rw [show yearsFrom 0 [4] 59 2 0 [⟨5, 0, 0, 366⟩, ⟨1, 1, 1, 4⟩] 0 (60 - 0 + 1 : Int).toNat = [0, 28, 56] by kernel_rfl] at h
  exact h
theorem kn_Ask (A : Option Addr) (c : Nat) (B C : Option Addr) (w : World) (hr : Kd.C (Kd.int .i64) w A 1 [4]) (hc : 1 ≤ c) (hf : Kd.C k74 w B 1 [⟨5, 0, 0, 366⟩]) (hq : Kd.C k74 w C 2 [⟨5, 0, 0, 0⟩, ⟨1, 1, 1, 0⟩]) :
    Calls Tryz.prog 43 #[.agg #[.int .i64 0, .slice A 1 c], .agg #[.int .i64 59, .int .i64 2, .int .i64 0], .slice B 1 1, .slice C 2 2, .int .i64 0, .int .i64 20] w fun e w' => e = .returned (.tuple #[.int .i64 1, .int .i64 1, .int .i64 0]) ∧ Below w.heap.size w w' := by
  have h := Ask_good 0 A c [4] 59 2 0 B 1 [⟨5, 0, 0, 366⟩] C 2 [⟨5, 0, 0, 0⟩, ⟨1, 1, 1, 0⟩] 0 20 w hr hc hf (by decide) hq (by decide) (by kernel_rfl) (by kernel_rfl) (by kernel_rfl) (by kernel_rfl) (by kernel_rfl) [0, 4, 8, 12, 16, 20] (by kernel_rfl) (by decide)
  rw [show askR 0 [4] 59 2 0 [0, 4, 8, 12, 16, 20] [⟨5, 0, 0, 0⟩, ⟨1, 1, 1, 0⟩] = (1, 1) by kernel_rfl] at h
  exact h
theorem kn_Print (A : Option Addr) (c : Nat) (B : Option Addr) (w : World) (hT : Tab w) (hr : Kd.C (Kd.int .i64) w A 1 [4]) (hc : 1 ≤ c) (hf : Kd.C k74 w B 1 [⟨5, 0, 0, 366⟩]) :
    Calls Tryz.prog 44 #[.agg #[.int .i64 0, .slice A 1 c], .agg #[.int .i64 59, .int .i64 2, .int .i64 0], .slice B 1 1] w fun e w' => e = .returned (.tuple #[.string ⟨#[99, 97, 108, 101, 110, 100, 97, 114, 32, 48, 32, 52, 10, 109, 111, 111, 110, 32, 53, 57, 32, 50, 32, 48, 10, 100, 97, 121, 115, 32, 51, 54, 54, 10, 101, 110, 100, 32, 48, 56, 50, 10]⟩, .int .i64 0]) ∧ Below w.heap.size w w' := by
  have h := Print_good 0 A c [4] 59 2 0 B 1 [⟨5, 0, 0, 366⟩] w hT hr hc hf (by decide) (by kernel_rfl) (by kernel_rfl) (by kernel_rfl)
  rw [show textB 0 [4] 59 2 0 [⟨5, 0, 0, 366⟩] = ⟨#[99, 97, 108, 101, 110, 100, 97, 114, 32, 48, 32, 52, 10, 109, 111, 111, 110, 32, 53, 57, 32, 50, 32, 48, 10, 100, 97, 121, 115, 32, 51, 54, 54, 10, 101, 110, 100, 32, 48, 56, 50, 10]⟩ by kernel_rfl] at h
  exact h
end Go.Proofs.YtnllidgonghckaaGreatDoor.X
