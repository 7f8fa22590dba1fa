/- The law DialMonths returns true for every input (part 4 of 13 of its proof; the last part shows its tied card). Conditions: the library's tables that the row lists read as their source says. -/
import Derived.ArgAppend
import Derived.Below
import Derived.BigQuiet
import Derived.Deep.AppendLies
import Derived.Deep.CutBlock
import Derived.Deep.DeepCutAuto
import Derived.Deep.Draws
import Derived.Deep.LoopGhost
import Derived.Deep.OwnRows
import Derived.Deep.QuietTactic
import Derived.Deep.RegionHeld3
import Derived.KernelRfl
import Derived.Laws.BitsLemmas
import Derived.Laws.BytesArg
import Derived.Laws.IdiomCopy
import Derived.Laws.MakeOwn
import Derived.Laws.OwnMore
import Derived.Laws.Rows
import Derived.Laws.Slices
import Derived.Laws.StructEq
import Derived.Lib.AppendStr
import Derived.Lib.ConvBytes
import Derived.Maps.AppendAt
import Derived.OrdersHeld
import Derived.OwnWalk
import Derived.RowKit
import Derived.RowKit3
import Derived.Tactics
import Derived.Test.YtnllidgonghckaaGreatDoorProg
import Derived.WalkKit
import Derived.WideLaws
import Derived.Test.YtnllidgonghckaaGreatDoorCm2
namespace Go.Proofs.YtnllidgonghckaaGreatDoor.X
open Go.RowKit Go.Proofs.YtnllidgonghckaaGreatDoorW.PrintWords Go.Proofs.YtnllidgonghckaaGreatDoorW.PrintLast Go.Proofs.YtnllidgonghckaaGreatDoorW.PrintMore Go.Proofs.YtnllidgonghckaaGreatDoor.Dm
set_option linter.unusedVariables false
set_option linter.unusedSimpArgs false
attribute [local go_sem] max2_int min2_int max_two min_two max_three min_three max_four min_four
theorem firsts_take_succ (ep : Int) (cs : List Int) (y : Nat) (h : y < 4002) : (firsts ep cs).take (y + 1) = (firsts ep cs).take y ++ [fday ep cs y] := by
  rw [List.take_succ_eq_append_getElem (by rw [firsts_length]; exact h), firsts_getElem]
section
variable {P : Program} {ops : Array Oper} {rest : List Oper} {o : Oper} {a : Act} {Q : Exit → Act → World → Prop}
theorem map_event {W : World} (hgd : o.guard = none) {N : Tmp} (_hd : o.dst = some N)
    (hrun : (execOp a.eval o).run P W = .ok (.value (.map (some W.heap.size))) (W.alloc (.map #[] 0)))
    (h : ∀ g, g = W.heap.size → ∀ w1, w1.heap[g]? = some (.map #[] 0) → Below W.heap.size W w1 → wpList P ops Q rest (a.put o.dst (.map (some g))) w1) : wpList P ops Q (o :: rest) a W :=
  Kd.event_run hgd hrun (h _ rfl _ (blk_new W _) (below_alloc (Below.refl _ _) _))
end
theorem obj_far {w : World} {g : Nat} {o : Obj} (h : w.heap[g]? = some o) {p : Addr} (hp : g ≠ p.block) (u : Value) : (w.setCell p u).heap[g]? = some o := (Below.heap_setCell w p u g hp).trans h
structure OpenInv (ep : Int) (A : Option Addr) (c : Nat) (cs : List Int) (m0 m1 m2 : Int) (gr go mb : Nat) (w : World) (y : Nat) (v5 : Value) (W : World) : Prop where
  o : W.heap[go]? = some (.cells #[.int .i64 ep, .slice A cs.length c, .int .i64 m0, .int .i64 m1, .int .i64 m2, v5, .map (some mb)] 83 (0, 0))
  r : W.heap[gr]? = some (.cells #[.int .i64 0, .slice none 0 0, .int .i64 0, .int .i64 0, .int .i64 0, .slice none 0 0, .map none] 83 (0, 0))
  m : W.heap[mb]? = some (.map #[] 0)
  f : Kd.R (Kd.int .i64) 3 W w.heap.size (fun _ => True) v5 ((firsts ep cs).take y)
  b : Below w.heap.size w W
  zgo : w.heap.size ≤ go
  zgr : w.heap.size ≤ gr
  zmb : w.heap.size ≤ mb
  ne : gr ≠ go
theorem OpenInv.below {ep A c cs m0 m1 m2 gr go mb w y v5 W W1} (h : OpenInv ep A c cs m0 m1 m2 gr go mb w y v5 W) (hb : Below W.heap.size W W1) : OpenInv ep A c cs m0 m1 m2 gr go mb w y v5 W1 :=
  ⟨blk_below h.o hb, blk_below h.r hb, blk_below h.m hb, Kd.R_below h.f hb, below_step h.b hb, h.zgo, h.zgr, h.zmb, h.ne⟩
theorem OpenInv.reads {ep A c cs m0 m1 m2 gr go mb w y v5 W} (h : OpenInv ep A c cs m0 m1 m2 gr go mb w y v5 W) (hr : Kd.C (Kd.int .i64) w A cs.length cs) : Kd.C (Kd.int .i64) W A cs.length cs := Kd.C_below hr h.b
theorem OpenInv.start {ep A c cs m0 m1 m2 gr go mb w W} (o : W.heap[go]? = some (.cells #[.int .i64 0, .slice none 0 0, .int .i64 0, .int .i64 0, .int .i64 0, .slice none 0 0, .map none] 83 (0, 0)))
    (r : W.heap[gr]? = some (.cells #[.int .i64 0, .slice none 0 0, .int .i64 0, .int .i64 0, .int .i64 0, .slice none 0 0, .map none] 83 (0, 0))) (m : W.heap[mb]? = some (.map #[] 0))
    (b : Below w.heap.size w W) (zgo : w.heap.size ≤ go) (zgr : w.heap.size ≤ gr) (zmb : w.heap.size ≤ mb) (ne : gr ≠ go) (nm : mb ≠ go) :
    OpenInv ep A c cs m0 m1 m2 gr go mb w 0 (.slice none 0 0) (((((((W.setCell ⟨go, 0, none⟩ (.int .i64 ep)).setCell ⟨go, 1, none⟩ (.slice A cs.length c)).setCell ⟨go, 2, none⟩ (.int .i64 m0)).setCell ⟨go, 3, none⟩ (.int .i64 m1)).setCell ⟨go, 4, none⟩ (.int .i64 m2)).setCell ⟨go, 5, none⟩ (.slice none 0 0)).setCell ⟨go, 6, none⟩ (.map (some mb))) where
  o := blk_set (blk_set (blk_set (blk_set (blk_set (blk_set (blk_set o 0 _) 1 _) 2 _) 3 _) 4 _) 5 _) 6 _
  r := blk_far (blk_far (blk_far (blk_far (blk_far (blk_far (blk_far r ne _) ne _) ne _) ne _) ne _) ne _) ne _
  m := obj_far (obj_far (obj_far (obj_far (obj_far (obj_far (obj_far m nm _) nm _) nm _) nm _) nm _) nm _) nm _
  f := Kd.R_nil _ _ _ _ _
  b := below_set (below_set (below_set (below_set (below_set (below_set (below_set b zgo) zgo) zgo) zgo) zgo) zgo) zgo
  zgo := zgo
  zgr := zgr
  zmb := zmb
  ne := ne
theorem OpenInv.grown {ep A c cs m0 m1 m2 gr go mb w y v5 W W1 v1} (h : OpenInv ep A c cs m0 m1 m2 gr go mb w y v5 W) (hg : W.grownBy W1 v5.ownBlock) (hb : Below w.heap.size w W1)
    (ho : Kd.R (Kd.int .i64) 3 W1 w.heap.size (fun _ => True) v1 ((firsts ep cs).take y ++ [fday ep cs y])) (hy : y < 4002) :
    W1.heap[go]? = some (.cells #[.int .i64 ep, .slice A cs.length c, .int .i64 m0, .int .i64 m1, .int .i64 m2, v5, .map (some mb)] 83 (0, 0)) ∧ OpenInv ep A c cs m0 m1 m2 gr go mb w (y + 1) v1 (W1.setCell ⟨go, 5, none⟩ v1) := by
  have o1 := blk_grown h.o hg (Kd.R_ne h.f h.o (by decide))
  have r1 := blk_grown h.r hg (Kd.R_ne h.f h.r (by decide))
  have m1' : W1.heap[mb]? = some (.map #[] 0) := by
    refine (hg.block mb (blk_lt h.m) (fun e => ?_)).trans h.m
    obtain ⟨_, inner, own, _⟩ := h.f
    obtain ⟨cells, hc⟩ := own_typed own mb e.symm
    rw [h.m] at hc
    cases hc
  refine ⟨o1, blk_set o1 5 _, blk_far r1 h.ne _, obj_far m1' (fun e => ?_) _, ?_, below_set hb h.zgo, h.zgo, h.zgr, h.zmb, h.ne⟩
  · have e' : mb = go := e
    rw [e'] at m1'
    rw [o1] at m1'
    cases m1'
  · rw [firsts_take_succ ep cs y hy]
    exact Kd.R_set ho o1 (by decide) 5 v1
set_option maxHeartbeats 8000000 in
set_option maxRecDepth 100000 in
theorem open_calls (ep : Int) (A : Option Addr) (c : Nat) (cs : List Int) (m0 m1 m2 : Int) (w : World) (hr : Kd.C (Kd.int .i64) w A cs.length cs) (hc : cs.length ≤ c) (hcal : calB ep cs = true) :
    Calls Tryz.prog 48 #[.agg #[.int .i64 ep, .slice A cs.length c], .agg #[.int .i64 m0, .int .i64 m1, .int .i64 m2]] w fun e w' => ∃ (v5 : Value) (mb : Nat), e = .returned (.agg #[.int .i64 ep, .slice A cs.length c, .int .i64 m0, .int .i64 m1, .int .i64 m2, v5, .map (some mb)]) ∧
      Kd.R (Kd.int .i64) 3 w' w.heap.size (fun _ => True) v5 (firsts ep cs) ∧ w'.heap[mb]? = some (.map #[] 0) ∧ w.heap.size ≤ mb ∧ Below w.heap.size w w' := by
  obtain ⟨he0, he1, hl1, hl3, hmem⟩ := calB_iff hcal
  have hu24 := Tryz.underlying24
  have hu45 := Tryz.underlying45
  have hu83 := Tryz.underlying83
  have hmm := @run_makeMap Tryz.prog
  have HB := Aside0.mk (Below.refl w.heap.size w)
  have HR := Aside0.mk hr
  have HC := Aside0.mk hc
  have HM := Aside0.mk hmem
  clear hr hc hmem hcal
  go_enter Tryz.func48, Tryz.ntmps48
  go_wp2_with (first
    | ((with_reducible refine zG 2 rfl ?_); refine zBox 2 #[.int .i64 ep, .slice A cs.length c] 24 ?_; intro g1 hg w1 hbox hb; have GEg1 := Aside0.mk (show w.heap.size ≤ g1 by rw [hg]; exact below_size HB.out); replace HB := Aside0.mk (below_step HB.out hb); have BKg1 := Aside0.mk hbox; clear hb hbox hg)
    | ((with_reducible refine zG 3 rfl ?_); refine zBox 3 #[.int .i64 m0, .int .i64 m1, .int .i64 m2] 45 ?_; intro g2 hg w2 hbox hb; have GEg2 := Aside0.mk (show w.heap.size ≤ g2 by rw [hg]; exact below_size HB.out); replace HB := Aside0.mk (below_step HB.out hb); replace BKg1 := zb BKg1 hb; have BKg2 := Aside0.mk hbox; clear hb hbox hg)
    | ((with_reducible refine zG 4 rfl ?_); refine zBox 4 #[.int .i64 0, .slice none 0 0, .int .i64 0, .int .i64 0, .int .i64 0, .slice none 0 0, .map none] 83 ?_; intro gr hg w3 hbox hb; have GEgr := Aside0.mk (show w.heap.size ≤ gr by rw [hg]; exact below_size HB.out); replace HB := Aside0.mk (below_step HB.out hb); replace BKg1 := zb BKg1 hb; replace BKg2 := zb BKg2 hb; have BKgr := Aside0.mk hbox; clear hb hbox hg; have cg10 := zC BKg1; have cg20 := zC BKg2)
    | ((with_reducible refine zG 10 rfl ?_); refine map_event ?hg (N := 10) ?hd ?hr ?_; (case hd => rfl); (case hg => rfl); (case hr => first | (go_simp; done) | (go_simp; rfl)); intro mb hg w4 hbox hb; have GEmb := Aside0.mk (show w.heap.size ≤ mb by rw [hg]; exact below_size HB.out); replace HB := Aside0.mk (below_step HB.out hb); replace BKg1 := zb BKg1 hb; replace BKg2 := zb BKg2 hb; replace BKgr := zb BKgr hb; have BKmb := Aside0.mk hbox; clear hb hbox hg)
    | ((with_reducible refine zG 5 rfl ?_); refine zBox 5 #[.int .i64 0, .slice none 0 0, .int .i64 0, .int .i64 0, .int .i64 0, .slice none 0 0, .map none] 83 ?_; intro go hg w5 hbox hb; have NE := zne hg BKgr; have NEm := zne hg BKmb; have NE1 := zne hg BKg1; have GEgo := Aside0.mk (show w.heap.size ≤ go by rw [hg]; exact below_size HB.out); replace HB := Aside0.mk (below_step HB.out hb); replace BKg1 := zb BKg1 hb; replace BKgr := zb BKgr hb; replace BKmb := zb BKmb hb; have BKgo := Aside0.mk hbox; clear hb hbox hg; have hne := NE1.out; have hne' := NE1.out.symm; have dg10 := zC BKg1; have cgo0 := zC BKgo; have f0 := zF BKgo))
  have HI := Aside0.mk (OpenInv.start (ep := ep) (A := A) (c := c) (cs := cs) (m0 := m0) (m1 := m1) (m2 := m2) BKgo.out BKgr.out BKmb.out HB.out GEgo.out GEgr.out GEmb.out NE.out NEm.out)
  clear cg10 cg20 dg10 cgo0 f0 hne hne' BKg1 BKgo BKgr BKmb HB; (try clear f1); (try clear f2); (try clear f3); (try clear f4); (try clear f5); (try clear f6)
  go_loopw [6, 14] (fun v6 v14 W => ∃ (y : Nat) (v5 : Value), y ≤ 4002 ∧ v6 = .int .i64 (fday ep cs y) ∧ v14 = .int .i64 y ∧ Aside0 (OpenInv ep A c cs m0 m1 m2 gr go mb w y v5 W)) (fun _ i _ => 4002 - (intOf i).toNat)
  case atStart => exact ⟨0, _, by omega, rfl, rfl, HI⟩
  case round =>
    clear HI
    obtain ⟨y, v5, hy, rfl, rfl, HI⟩ := hrel
    have hq1 := fday_range ep cs y
    have ht1 := ylen_range cs y
    obtain ⟨q, hq⟩ : ∃ q, fday ep cs y = q := ⟨_, rfl⟩
    obtain ⟨t, ht⟩ : ∃ t, ylen cs y = t := ⟨_, rfl⟩
    rw [hq] at hq1 ⊢
    rw [ht] at ht1
    obtain ⟨q0, q1⟩ := hq1
    obtain ⟨t0, t1⟩ := ht1
    have HQ := Aside0.mk hq
    have HT := Aside0.mk ht
    clear hq ht
    by_cases hlt : y < 4002
    · obtain ⟨F1, hF1⟩ : ∃ F1, (firsts ep cs).take (y + 1) = F1 := ⟨_, rfl⟩
      have HF1 := Aside0.mk hF1
      clear hF1
      have hd := Aside0.mk (days_f 14 ep cs m0 m1 m2 F1 (some mb) y (fun n hn => by have := HM.out n hn; omega) (by omega) (by omega) (by omega))
      have hlen : ((firsts ep cs).take y).length = y := by rw [List.length_take, firsts_length]; omega
      have hlen1 : ((firsts ep cs).take (y + 1)).length = y + 1 := by rw [List.length_take, firsts_length]; omega
      have HL := Aside0.mk hlen
      have HL1 := Aside0.mk hlen1
      clear hlen hlen1
      have c0 : wr.cell? ⟨go, 0, none⟩ = some (.int .i64 ep) := (blk_cell HI.out.o 0).trans rfl
      have c1 : wr.cell? ⟨go, 1, none⟩ = some (.slice A cs.length c) := (blk_cell HI.out.o 1).trans rfl
      have c2 : wr.cell? ⟨go, 2, none⟩ = some (.int .i64 m0) := (blk_cell HI.out.o 2).trans rfl
      have c3 : wr.cell? ⟨go, 3, none⟩ = some (.int .i64 m1) := (blk_cell HI.out.o 3).trans rfl
      have c4 : wr.cell? ⟨go, 4, none⟩ = some (.int .i64 m2) := (blk_cell HI.out.o 4).trans rfl
      have c5 : wr.cell? ⟨go, 5, none⟩ = some v5 := (blk_cell HI.out.o 5).trans rfl
      have c6 : wr.cell? ⟨go, 6, none⟩ = some (.map (some mb)) := (blk_cell HI.out.o 6).trans rfl
      have hblt : go < wr.heap.size := blk_lt HI.out.o
      go_wp2_with (first
        | ((with_reducible refine gate_builtin (b := .append) (xs := #[.tmp 18, .tmp 20]) rfl ?_); at_builtin; refine Kd.R_append (Kd.int .i64) (w0 := w) w.heap.size rfl (.tmp 18) (.tmp 20) 22 3 (.int .i64 0) 8 rfl Tryz.underlying22 info3 rfl (by decide) (by omega) v5 ((firsts ep cs).take y) q [.int .i64 q] (fun _ => True) (fun _ => False) rfl rfl ?aP (fun _ hk => hk.elim) ?aF ?aO ?aB ?aS ?aL ?_; (case aP => exact rfl); (case aF => exact fun _ _ => trivial); (case aO => exact HI.out.f); (case aB => exact HI.out.b); (case aS => exact HI.out.b.size); (case aL => have := HL.out; omega); intro v1 w1 ho hb hg _hat; have G := HI.out.grown (v1 := v1) hg hb (by rw [HQ.out]; exact ho) hlt; clear HI ho hb hg _hat c0 c5 c6; (try clear c1); (try clear c2); (try clear c3); (try clear c4); have HO := Aside0.mk G.1; have HI := Aside0.mk G.2; clear G; have c0 := zC HO; have c5 : w1.cell? ⟨go, 5, none⟩ = some v5 := zx HO 5; have c6 := zC HO; have f5 := zF HO; have hf := HI.out.f; rw [HF1.out] at hf; have HFf := Aside0.mk hf; clear hf; obtain ⟨A5, c5', e5⟩ := Kd.R_slice HFf.out; subst e5)
        | ((with_reducible refine gate_callee (f := 84) rfl ?_); refine goesL_ (some 26) rfl rfl Tryz.func84 (by kernel_rfl) rfl #[.agg #[.int .i64 ep, .slice A cs.length c, .int .i64 m0, .int .i64 m1, .int .i64 m2, .slice A5 F1.length c5', .map (some mb)], .int .i64 y] rfl (by (try simp only [List.map_toArray, List.map_cons, List.map_nil]); first | done | rfl) ?_; (with_reducible refine (dial_opened_days.calls 14 ep _ _ cs m0 m1 m2 _ _ F1 (some mb) y _ _ ?s1 ?s2 ?s3 ?s4 hd.out).mono ?_); (case s1 => exact HI.out.reads HR.out); (case s2 => exact HC.out); (case s3 => have hf := HI.out.f; rw [HF1.out] at hf; exact (Kd.R_reads' hf).2.2); (case s4 => exact (Kd.R_reads' HFf.out).2.1); rintro e w2 ⟨rfl, hb⟩; refine ⟨_, rfl, ?_⟩; replace HI := Aside0.mk (HI.out.below hb); clear hb; rw [HT.out]))
      go_roundw
      case rel => exact ⟨y + 1, _, by omega, by show Value.int _ _ = Value.int _ (fday ep cs y + ylen cs y); rw [HQ.out, HT.out], by go_num, HI⟩
      case measure => simp [intOf]; omega
    · have hy2 : y = 4002 := by omega
      subst hy2
      have c0 : wr.cell? ⟨go, 0, none⟩ = some (.int .i64 ep) := (blk_cell HI.out.o 0).trans rfl
      have c1 : wr.cell? ⟨go, 1, none⟩ = some (.slice A cs.length c) := (blk_cell HI.out.o 1).trans rfl
      have c2 : wr.cell? ⟨go, 2, none⟩ = some (.int .i64 m0) := (blk_cell HI.out.o 2).trans rfl
      have c3 : wr.cell? ⟨go, 3, none⟩ = some (.int .i64 m1) := (blk_cell HI.out.o 3).trans rfl
      have c4 : wr.cell? ⟨go, 4, none⟩ = some (.int .i64 m2) := (blk_cell HI.out.o 4).trans rfl
      have c5 : wr.cell? ⟨go, 5, none⟩ = some v5 := (blk_cell HI.out.o 5).trans rfl
      have c6 : wr.cell? ⟨go, 6, none⟩ = some (.map (some mb)) := (blk_cell HI.out.o 6).trans rfl
      have hff := HI.out.f
      rw [List.take_of_length_le (by rw [firsts_length]; omega)] at hff
      obtain ⟨F1, hF1⟩ : ∃ F1, firsts ep cs = F1 := ⟨_, rfl⟩
      rw [hF1] at hff
      have HF1 := Aside0.mk hF1
      clear hF1
      have HFf := Aside0.mk hff
      clear hff
      obtain ⟨A5, c5', e5⟩ := Kd.R_slice HFf.out
      subst e5
      have z0 : wr.cell? ⟨gr, 0, none⟩ = some (.int .i64 0) := (blk_cell HI.out.r 0).trans rfl
      have z1 : wr.cell? ⟨gr, 1, none⟩ = some (.slice none 0 0) := (blk_cell HI.out.r 1).trans rfl
      have z2 : wr.cell? ⟨gr, 2, none⟩ = some (.int .i64 0) := (blk_cell HI.out.r 2).trans rfl
      have z3 : wr.cell? ⟨gr, 3, none⟩ = some (.int .i64 0) := (blk_cell HI.out.r 3).trans rfl
      have z4 : wr.cell? ⟨gr, 4, none⟩ = some (.int .i64 0) := (blk_cell HI.out.r 4).trans rfl
      have z5 : wr.cell? ⟨gr, 5, none⟩ = some (.slice none 0 0) := (blk_cell HI.out.r 5).trans rfl
      have z6 : wr.cell? ⟨gr, 6, none⟩ = some (.map none) := (blk_cell HI.out.r 6).trans rfl
      have f0 := blk_frozen HI.out.r 0
      have f1 := blk_frozen HI.out.r 1
      have f2 := blk_frozen HI.out.r 2
      have f3 := blk_frozen HI.out.r 3
      have f4 := blk_frozen HI.out.r 4
      have f5 := blk_frozen HI.out.r 5
      have f6 := blk_frozen HI.out.r 6
      go_wp2
      refine bodyPost_ret (results_cell_row rfl _ _ gr 83 #[.int .i64 ep, .slice A cs.length c, .int .i64 m0, .int .i64 m1, .int .i64 m2, .slice A5 F1.length c5', .map (some mb)] (0, 0) _ rfl (blk_set (blk_set (blk_set (blk_set (blk_set (blk_set (blk_set HI.out.r 0 _) 1 _) 2 _) 3 _) 4 _) 5 _) 6 _) Tryz.underlying83 rfl (by kernel_rfl)) rfl ?_
      refine ⟨_, mb, rfl, ?_, ?_, HI.out.zmb, below_set (below_set (below_set (below_set (below_set (below_set (below_set HI.out.b HI.out.zgr) HI.out.zgr) HI.out.zgr) HI.out.zgr) HI.out.zgr) HI.out.zgr) HI.out.zgr⟩
      · rw [HF1.out]
        have R := Kd.R_types HFf.out HI.out.r (by decide)
        exact Kd.R_mono (Kd.R_far (p := ⟨gr, 6, none⟩) (Kd.R_far (p := ⟨gr, 5, none⟩) (Kd.R_far (p := ⟨gr, 4, none⟩) (Kd.R_far (p := ⟨gr, 3, none⟩) (Kd.R_far (p := ⟨gr, 2, none⟩) (Kd.R_far (p := ⟨gr, 1, none⟩) (Kd.R_far (p := ⟨gr, 0, none⟩) R (fun _ hk => hk.2) _) (fun _ hk => hk.2) _) (fun _ hk => hk.2) _) (fun _ hk => hk.2) _) (fun _ hk => hk.2) _) (fun _ hk => hk.2) _) (fun _ hk => hk.2) _) (fun _ _ => trivial)
      · have nm : mb ≠ gr := by
          intro e
          have m := HI.out.m
          rw [e, HI.out.r] at m
          cases m
        exact obj_far (obj_far (obj_far (obj_far (obj_far (obj_far (obj_far HI.out.m nm _) nm _) nm _) nm _) nm _) nm _) nm _
end Go.Proofs.YtnllidgonghckaaGreatDoor.X
namespace Go.Proofs.YtnllidgonghckaaGreatDoor.X
open Go.RowKit Go.Proofs.YtnllidgonghckaaGreatDoorW.PrintWords Go.Proofs.YtnllidgonghckaaGreatDoorW.PrintLast Go.Proofs.YtnllidgonghckaaGreatDoorW.PrintMore Go.Proofs.YtnllidgonghckaaGreatDoor.Dm
set_option linter.unusedVariables false
set_option linter.unusedSimpArgs false
structure Opd (ep : Int) (A : Option Addr) (c : Nat) (cs : List Int) (F : List Int) (a5 : Addr) (c5 mb : Nat) (w W : World) : Prop where
  hF : firsts ep cs = F
  cal : calB ep cs = true
  rc : Kd.C (Kd.int .i64) w A cs.length cs
  c : cs.length ≤ c
  f : Kd.R (Kd.int .i64) 3 W w.heap.size (fun k => k ≠ mb) (.slice (some a5) F.length c5) F
  m : ∃ es cl, W.heap[mb]? = some (.map es cl)
  b : Below w.heap.size w W
  zmb : w.heap.size ≤ mb
section
variable {ep : Int} {A : Option Addr} {c : Nat} {cs F : List Int} {a5 : Addr} {c5 mb : Nat} {w W W1 : World}
theorem Opd.below (h : Opd ep A c cs F a5 c5 mb w W) (hb : Below W.heap.size W W1) : Opd ep A c cs F a5 c5 mb w W1 :=
  ⟨h.hF, h.cal, h.rc, h.c, Kd.R_below h.f hb, (let ⟨es, cl, hm⟩ := h.m; ⟨es, cl, (hb.block _ (blk_lt hm)).trans hm⟩), below_step h.b hb, h.zmb⟩
theorem Opd.set (h : Opd ep A c cs F a5 c5 mb w W) {go : Nat} {cells : Array Value} {t : Nat} (o : W.heap[go]? = some (.cells cells t (0, 0))) (ht : 3 ≠ t) (z : w.heap.size ≤ go) (j : Nat) (u : Value) : Opd ep A c cs F a5 c5 mb w (W.setCell ⟨go, j, none⟩ u) :=
  ⟨h.hF, h.cal, h.rc, h.c, Kd.R_set h.f o (by simpa [Kd.int, Kd.scalar] using ht) j u, (let ⟨es, cl, hm⟩ := h.m; ⟨es, cl, obj_far hm (fun e => by have e' : mb = go := e; rw [e', o] at hm; cases hm) _⟩), below_set h.b z, h.zmb⟩
theorem rd_firsts (ep : Int) (cs : List Int) (y : Int) (h0 : 0 ≤ y) (h1 : y < 4002) : rd (firsts ep cs) y = fday ep cs y.toNat := by
  have hy : y.toNat < (firsts ep cs).length := by rw [firsts_length]; omega
  unfold rd
  rw [List.getD_eq_getElem?_getD, List.getElem?_eq_getElem hy, Option.getD_some, firsts_getElem]
theorem Opd.rdF (h : Opd ep A c cs F a5 c5 mb w W) (y : Int) (h0 : 0 ≤ y) (h1 : y < 4002) : rd F y = fday ep cs y.toNat := by
  rw [← h.hF]
  exact rd_firsts ep cs y h0 h1
theorem Opd.mem (h : Opd ep A c cs F a5 c5 mb w W) : ∀ n ∈ cs, n ≠ 0 := fun n hn => by have := (calB_iff h.cal).2.2.2.2 n hn; omega
theorem Opd.l3 (h : Opd ep A c cs F a5 c5 mb w W) : cs.length ≤ 3 := (calB_iff h.cal).2.2.2.1
theorem Opd.cr (h : Opd ep A c cs F a5 c5 mb w W) : Kd.C (Kd.int .i64) W A cs.length cs := Kd.C_below h.rc h.b
theorem Opd.fr (h : Opd ep A c cs F a5 c5 mb w W) : Kd.C (Kd.int .i64) W (some a5) F.length F ∧ F.length ≤ c5 := ⟨(Kd.R_reads' h.f).2.2, (Kd.R_reads' h.f).2.1⟩
end
theorem drew_then {W W1 : World} (hb : Below W.drew.heap.size W.drew W1) : Below W.heap.size W W1 := below_then (below_drew1 (Below.refl W.heap.size W)) (Nat.le_refl _) hb
theorem Opd.belowD {ep : Int} {A : Option Addr} {c : Nat} {cs F : List Int} {a5 : Addr} {c5 mb : Nat} {w W W1 : World} (h : Opd ep A c cs F a5 c5 mb w W) (hb : Below W.drew.heap.size W.drew W1) : Opd ep A c cs F a5 c5 mb w W1 := h.below (drew_then hb)
theorem blk_belowD {W W1 : World} {g : Nat} {o : Obj} (h : W.heap[g]? = some o) (hb : Below W.drew.heap.size W.drew W1) : W1.heap[g]? = some o := blk_below h (drew_then hb)
theorem below_thenN {w W W1 : World} (h : Below w.heap.size w W) (hb : Below W.heap.size W W1) : Below w.heap.size w W1 := below_then h h.size hb
theorem below_thenD {w W W1 : World} (h : Below w.heap.size w W) (hb : Below W.drew.heap.size W.drew W1) : Below w.heap.size w W1 := below_then h h.size (drew_then hb)
theorem open_opd (ep : Int) (A : Option Addr) (c : Nat) (cs : List Int) (m0 m1 m2 : Int) (w0 w : World) (hr : Kd.C (Kd.int .i64) w0 A cs.length cs) (hc : cs.length ≤ c) (hcal : calB ep cs = true) (hB : Below w0.heap.size w0 w) (F : List Int) (hF : firsts ep cs = F) :
    Calls Tryz.prog 48 #[.agg #[.int .i64 ep, .slice A cs.length c], .agg #[.int .i64 m0, .int .i64 m1, .int .i64 m2]] w fun e w' => ∃ (a5 : Addr) (c5 mb : Nat), e = .returned (.agg #[.int .i64 ep, .slice A cs.length c, .int .i64 m0, .int .i64 m1, .int .i64 m2, .slice (some a5) F.length c5, .map (some mb)]) ∧
      Opd ep A c cs F a5 c5 mb w0 w' ∧ Below w.heap.size w w' := by
  refine (open_calls ep A c cs m0 m1 m2 w (Kd.C_below hr hB) hc hcal).mono ?_
  rintro e w' ⟨v5, mb, rfl, hf, hm, hmb, hb⟩
  rw [hF] at hf
  obtain ⟨A5, c5, rfl⟩ := Kd.R_slice hf
  have hlen : F.length = 4002 := by rw [← hF]; exact firsts_length _ _
  obtain ⟨a5, e5, _⟩ := Kd.at_int (Kd.R_reads' hf).2.2 0 (by omega) (by rw [hlen]; omega)
  cases e5
  refine ⟨a5, c5, mb, rfl, ⟨hF, hcal, hr, hc, ?_, ⟨_, _, hm⟩, below_then hB hB.size hb, Nat.le_trans hB.size hmb⟩, hb⟩
  refine Kd.R_lower (Kd.R_mono (Kd.R_bound hf) (fun k hk => ?_)) hB.size
  obtain ⟨_, _, _, q, _, cells, hc'⟩ := hk
  rintro rfl
  rw [hm] at hc'
  cases hc'
theorem isCal_b (ep : Int) (A : Option Addr) (c : Nat) (cs : List Int) (w0 w : World) (hr : Kd.C (Kd.int .i64) w0 A cs.length cs) (hc : cs.length ≤ c) (hB : Below w0.heap.size w0 w) :
    Calls Tryz.prog 46 #[.agg #[.int .i64 ep, .slice A cs.length c]] w fun e w' => e = .returned (.bool (calB ep cs)) ∧ Below w.heap.size w w' :=
  dial_isCalendar.calls 5 ep A c cs _ w (Kd.C_below hr hB) hc (isCalendar_f 5 ep cs (by omega))
theorem isCal_l (ep : Int) (A : Option Addr) (c : Nat) (cs : List Int) (r : Bool) (hr' : calB ep cs = r) (w0 w : World) (hr : Kd.C (Kd.int .i64) w0 A cs.length cs) (hc : cs.length ≤ c) (hB : Below w0.heap.size w0 w) :
    Calls Tryz.prog 46 #[.agg #[.int .i64 ep, .slice A cs.length c]] w fun e w' => e = .returned (.bool r) ∧ Below w.heap.size w w' :=
  dial_isCalendar.calls 5 ep A c cs _ w (Kd.C_below hr hB) hc ((isCalendar_f 5 ep cs (by omega)).trans (congrArg some hr'))
theorem isYear_b (y : Int) (w : World) : Calls Tryz.prog 47 #[.int .i64 y] w fun e w' => e = .returned (.bool (yearB y)) ∧ Below w.heap.size w w' :=
  (dial_isYear.calls y _ w (isYear_f y)).mono fun _ _ h => ⟨h.1, h.2.below⟩
def wday (d : Int) : Int := (d + 4) % 7
theorem weekday_b (d : Int) (w : World) (h0 : 0 ≤ d) (h1 : d ≤ 1000000000) : Calls Tryz.prog 49 #[.int .i64 d] w fun e w' => e = .returned (.int .i64 (wday d)) ∧ Below w.heap.size w w' :=
  (dial_weekday.calls d _ w (by unfold dial_weekday.f; rw [wrap_of _ (by omega) (by omega), Int.tmod_eq_emod_of_nonneg (by omega)]; rfl)).mono fun _ _ h => ⟨h.1, h.2.below⟩
theorem wday_bd (d : Int) : 0 ≤ wday d ∧ wday d ≤ 6 := by unfold wday; omega
theorem leap_b {ep : Int} {A : Option Addr} {c : Nat} {cs F : List Int} {a5 : Addr} {c5 mb : Nat} {w W : World} (m0 m1 m2 : Int) (h : Opd ep A c cs F a5 c5 mb w W) (y : Int) :
    Calls Tryz.prog 50 #[.agg #[.int .i64 ep, .slice A cs.length c, .int .i64 m0, .int .i64 m1, .int .i64 m2, .slice (some a5) F.length c5, .map (some mb)], .int .i64 y] W fun e w' => e = .returned (.bool (leapB cs y)) ∧ Below W.heap.size W w' :=
  dial_opened_leap.calls 5 ep A c cs m0 m1 m2 (some a5) c5 F (some mb) y _ W h.cr h.c h.fr.1 h.fr.2 (leap_f 5 ep cs m0 m1 m2 F (some mb) y h.mem (by have := h.l3; omega) (by have := h.l3; omega))
theorem days_b {ep : Int} {A : Option Addr} {c : Nat} {cs F : List Int} {a5 : Addr} {c5 mb : Nat} {w W : World} (m0 m1 m2 : Int) (h : Opd ep A c cs F a5 c5 mb w W) (y : Int) :
    Calls Tryz.prog 84 #[.agg #[.int .i64 ep, .slice A cs.length c, .int .i64 m0, .int .i64 m1, .int .i64 m2, .slice (some a5) F.length c5, .map (some mb)], .int .i64 y] W fun e w' => e = .returned (.int .i64 (ylen cs y)) ∧ Below W.heap.size W w' :=
  dial_opened_days.calls 14 ep A c cs m0 m1 m2 (some a5) c5 F (some mb) y _ W h.cr h.c h.fr.1 h.fr.2 (days_f 14 ep cs m0 m1 m2 F (some mb) y h.mem (by have := h.l3; omega) (by have := h.l3; omega) (by omega))
end Go.Proofs.YtnllidgonghckaaGreatDoor.X
namespace Go.Proofs.YtnllidgonghckaaGreatDoor.X
open Go.RowKit Go.Proofs.YtnllidgonghckaaGreatDoorW.PrintWords Go.Proofs.YtnllidgonghckaaGreatDoorW.PrintLast Go.Proofs.YtnllidgonghckaaGreatDoorW.PrintMore Go.Proofs.YtnllidgonghckaaGreatDoor.Dm
section
variable {ep : Int} {A : Option Addr} {c : Nat} {cs F : List Int} {a5 : Addr} {c5 mb : Nat} {w V U W1 : World} {g : Nat}
theorem zo (h : Aside0 (Opd ep A c cs F a5 c5 mb w V)) (hb : Below U.heap.size U W1) (e : U = V ∨ U = V.drew := by first | exact Or.inl rfl | exact Or.inr rfl) : Aside0 (Opd ep A c cs F a5 c5 mb w W1) := by
  rcases e with rfl | rfl
  · exact ⟨h.out.below hb⟩
  · exact ⟨h.out.belowD hb⟩
theorem zoD (h : Aside0 (Opd ep A c cs F a5 c5 mb w V)) : Aside0 (Opd ep A c cs F a5 c5 mb w V.drew) := ⟨h.out.belowD (Below.refl _ _)⟩
theorem zgo (hg : g = V.heap.size) (h : Aside0 (Opd ep A c cs F a5 c5 mb w V)) : Aside0 (w.heap.size ≤ g) := ⟨by rw [hg]; exact h.out.b.size⟩
end
end Go.Proofs.YtnllidgonghckaaGreatDoor.X
