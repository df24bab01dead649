/- Walks through the functions that the statement reaches, and the statement. Conditions: none. -/
import Derived.Test.YtcenphnkcifbhaaGreatDoorWalkB
import Derived.Test.YtcenphnkcifbhaaGreatDoorCxE
import Derived.Test.YtcenphnkcifbhaaGreatDoorCards
import Derived.Test.YtcenphnkcifbhaaGreatDoorTie
import Derived.WalkKit
import Derived.ProofKit
import Derived.OpenShut
import Derived.Deep.DeepHandedRow
set_option maxRecDepth 100000
set_option linter.unusedVariables false
set_option linter.unusedSimpArgs false
namespace Go.Proofs.YtcenphnkcifbhaaGreatDoor
open Go.Cx
variable {w : World} {h : CH}
theorem fn_refusable : tab.fn 23 = some Tryz.f23 := by kernel_rfl
theorem refusable_calls {v vl : Value} {t : TabD} {l : List Int} (hv : TabV tab ks h v t) (hl : SlI tab ks.int h vl l) (hlen : TextsLt t.classes) : CalF (X w) 23 [v, vl] h fun r h' => r = .ret (.bool (tt (UsableP t l))) ∧ Gr h h' := by
  refine CalF.wf fun hwf => ?_
  have hV := hv
  obtain ⟨c, a, x, y, x', y', rfl, ho, hcl, hac, hx, hy, hx', hy'⟩ := hv
  simp only [Bool.and_eq_true] at ho
  have hlt := hl.lt
  refine CalF.intro fn_refusable rfl (Nat.le_of_ble_eq_true rfl) ?_
  repeat (first | refine kthenP.n ?_ | refine kthenP.r ?_ | refine kthenP.e ?_ | refine kblockP.n ?_ | refine kblockP.r ?_ | refine kblockP.e ?_ | refine kblockP.o rfl ?_ | refine Runs.seq ?_ | refine Runs.region ?_ | refine Runs.block ?_ | refine Runs.cond ?_ | refine Runs.skip ?_ | refine Runs.loop ?_ | refine Runs.exit ?_ | refine Runs.ret ?_)
  refine pops.box (cs := [c, a, x, y, x', y']) rfl rfl rfl rfl (by simp [ho]) rfl rfl hwf fun b h1 hb hwf1 g1 hc => ?_
  replace hV := hV.gr hwf g1
  replace hl := Sl.gr hl hwf g1
  replace hcl := Sl.gr hcl hwf g1
  refine pops.fl rfl rfl rfl rfl rfl ?_
  refine pops.nil ?_
  repeat (first | refine kthenP.n ?_ | refine kthenP.r ?_ | refine kthenP.e ?_ | refine kblockP.n ?_ | refine kblockP.r ?_ | refine kblockP.e ?_ | refine kblockP.o rfl ?_ | refine Runs.seq ?_ | refine Runs.region ?_ | refine Runs.block ?_ | refine Runs.cond ?_ | refine Runs.skip ?_ | refine Runs.loop ?_ | refine Runs.exit ?_ | refine Runs.ret ?_)
  repeat (first | refine pops.bin rfl rfl rfl rfl rfl rfl (cbin_inc (by omega)) ?_ | refine pops.fl rfl rfl rfl rfl rfl ?_ | refine pops.skip rfl rfl rfl ?_ | refine pops.load rfl rfl rfl rfl rfl (by first | assumption | exact cload_of (by assumption) rfl) ?_ | refine pops.len rfl rfl rfl rfl rfl rfl rfl rfl (by first | exact SlA.len (by assumption) rfl | exact SlI.len (by assumption) rfl | exact SlS.len (by assumption) rfl | exact Sl.len (by assumption) rfl) ?_)
  refine pops.nil ?_
  repeat (first | refine kthenP.n ?_ | refine kthenP.r ?_ | refine kthenP.e ?_ | refine kblockP.n ?_ | refine kblockP.r ?_ | refine kblockP.e ?_ | refine kblockP.o rfl ?_ | refine Runs.seq ?_ | refine Runs.region ?_ | refine Runs.block ?_ | refine Runs.cond ?_ | refine Runs.skip ?_ | refine Runs.loop ?_ | refine Runs.exit ?_ | refine Runs.ret ?_)
  refine Loops.ind 5 (fun i : Nat => [(1, vl), (2, .pointer (some ⟨b, 0, none⟩)), (4, .bool false), (5, .int .i64 (i : Nat))]) (fun i h' => i ≤ l.length ∧ h' = h1 ∧ ∀ (j : Nat) z, j < i → l[j]? = some z → 0 ≤ z ∧ z < (t.classes.length : Int)) (fun i => l.length - i) 0 (by decide) ⟨rfl, rfl, rfl, rfl, trivial⟩ ⟨Nat.zero_le _, rfl, all_none⟩ ?_
  rintro i z h' hwf' ⟨hi, rfl, hall⟩
  repeat (first | refine kthenP.n ?_ | refine kthenP.r ?_ | refine kthenP.e ?_ | refine kblockP.n ?_ | refine kblockP.r ?_ | refine kblockP.e ?_ | refine kblockP.o rfl ?_ | refine Runs.seq ?_ | refine Runs.region ?_ | refine Runs.block ?_ | refine Runs.cond ?_ | refine Runs.skip ?_ | refine Runs.loop ?_ | refine Runs.exit ?_ | refine Runs.ret ?_)
  repeat (first | refine pops.bin rfl rfl rfl rfl rfl rfl (cbin_inc (by omega)) ?_ | refine pops.fl rfl rfl rfl rfl rfl ?_ | refine pops.skip rfl rfl rfl ?_ | refine pops.load rfl rfl rfl rfl rfl (by first | assumption | exact cload_of (by assumption) rfl) ?_ | refine pops.len rfl rfl rfl rfl rfl rfl rfl rfl (by first | exact SlA.len (by assumption) rfl | exact SlI.len (by assumption) rfl | exact SlS.len (by assumption) rfl | exact Sl.len (by assumption) rfl) ?_)
  refine pops.nil ?_
  repeat (first | refine kthenP.n ?_ | refine kthenP.r ?_ | refine kthenP.e ?_ | refine kblockP.n ?_ | refine kblockP.r ?_ | refine kblockP.e ?_ | refine kblockP.o rfl ?_ | refine Runs.seq ?_ | refine Runs.region ?_ | refine Runs.block ?_ | refine Runs.cond ?_ | refine Runs.skip ?_ | refine Runs.loop ?_ | refine Runs.exit ?_ | refine Runs.ret ?_)
  refine pcond.d (p := (i : Int) < (l.length : Nat)) rfl (fun hlt => ?_) (fun hge => ?_)
  · have hlt : i < l.length := by omega
    obtain ⟨q, hq⟩ : ∃ q, l[i]? = some q := ⟨_, List.getElem?_eq_getElem hlt⟩
    obtain ⟨p1, hp1, hq1⟩ := Sl.readM hl hwf' (ts := 23) rfl hq .i64
    have bad : ¬ (0 ≤ q ∧ q < (t.classes.length : Int)) → tt (UsableP t l) = false := fun hn => tt_f fun hU => hn (hU.2 q (List.mem_of_getElem? hq))
    repeat (first | refine kthenP.n ?_ | refine kthenP.r ?_ | refine kthenP.e ?_ | refine kblockP.n ?_ | refine kblockP.r ?_ | refine kblockP.e ?_ | refine kblockP.o rfl ?_ | refine Runs.seq ?_ | refine Runs.region ?_ | refine Runs.block ?_ | refine Runs.cond ?_ | refine Runs.skip ?_ | refine Runs.loop ?_ | refine Runs.exit ?_ | refine Runs.ret ?_)
    refine PG.start _ rfl rfl ?_
    refine PG.take (by decide +kernel) rfl rfl rfl rfl ?_
    refine PG.take (by decide +kernel) rfl rfl rfl rfl ?_
    refine PG.take (by decide +kernel) rfl rfl rfl (hp1) ?_
    refine PG.take (by decide +kernel) rfl rfl rfl (hq1 _ (Gr.refl _)) ?_
    by_cases h0 : q < 0
    · refine PG.take (by decide +kernel) rfl rfl rfl (congrArg (fun b => some (Value.bool b)) (decide_eq_true h0)) ?_
      repeat (first | refine PG.skip (by decide +kernel) ?_ | refine PG.take (by decide +kernel) rfl rfl rfl rfl ?_ | refine PG.load (by decide +kernel) rfl rfl rfl rfl rfl (by first | assumption | exact cload_of (by assumption) rfl) ?_ | refine PG.drop (by decide +kernel) rfl rfl rfl ?_)
      refine PG.nil ?_
      refine pd1.fin (by kernel_rfl) (by kernel_rfl) ?_
      repeat (first | refine kthenP.n ?_ | refine kthenP.r ?_ | refine kthenP.e ?_ | refine kblockP.n ?_ | refine kblockP.r ?_ | refine kblockP.e ?_ | refine kblockP.o rfl ?_ | refine Runs.seq ?_ | refine Runs.region ?_ | refine Runs.block ?_ | refine Runs.cond ?_ | refine Runs.skip ?_ | refine Runs.loop ?_ | refine Runs.exit ?_ | refine Runs.ret ?_)
      refine pcond.t rfl ?_
      repeat (first | refine kthenP.n ?_ | refine kthenP.r ?_ | refine kthenP.e ?_ | refine kblockP.n ?_ | refine kblockP.r ?_ | refine kblockP.e ?_ | refine kblockP.o rfl ?_ | refine Runs.seq ?_ | refine Runs.region ?_ | refine Runs.block ?_ | refine Runs.cond ?_ | refine Runs.skip ?_ | refine Runs.loop ?_ | refine Runs.exit ?_ | refine Runs.ret ?_)
      repeat (first | refine pops.bin rfl rfl rfl rfl rfl rfl (cbin_inc (by omega)) ?_ | refine pops.fl rfl rfl rfl rfl rfl ?_ | refine pops.skip rfl rfl rfl ?_ | refine pops.load rfl rfl rfl rfl rfl (by first | assumption | exact cload_of (by assumption) rfl) ?_ | refine pops.len rfl rfl rfl rfl rfl rfl rfl rfl (by first | exact SlA.len (by assumption) rfl | exact SlI.len (by assumption) rfl | exact SlS.len (by assumption) rfl | exact Sl.len (by assumption) rfl) ?_)
      refine pops.nil ?_
      repeat (first | refine kthenP.n ?_ | refine kthenP.r ?_ | refine kthenP.e ?_ | refine kblockP.n ?_ | refine kblockP.r ?_ | refine kblockP.e ?_ | refine kblockP.o rfl ?_ | refine Runs.seq ?_ | refine Runs.region ?_ | refine Runs.block ?_ | refine Runs.cond ?_ | refine Runs.skip ?_ | refine Runs.loop ?_ | refine Runs.exit ?_ | refine Runs.ret ?_)
      refine pleave.r rfl ?_
      refine ⟨?_, g1⟩
      rw [bad (by omega)]
    · refine PG.take (by decide +kernel) rfl rfl rfl (congrArg (fun b => some (Value.bool b)) (decide_eq_false h0)) ?_
      refine PG.take (by decide +kernel) rfl rfl rfl rfl ?_
      refine PG.take (by decide +kernel) rfl rfl rfl rfl ?_
      refine PG.take (by decide +kernel) rfl rfl rfl rfl ?_
      refine PG.take (by decide +kernel) rfl rfl rfl (hp1) ?_
      refine PG.take (by decide +kernel) rfl rfl rfl (hq1 _ (Gr.refl _)) ?_
      refine PG.take (by decide +kernel) rfl rfl rfl rfl ?_
      refine PG.load (by decide +kernel) rfl rfl rfl rfl rfl (by first | assumption | exact cload_of (by assumption) rfl) ?_
      refine PG.take (by decide +kernel) rfl rfl rfl (SlS.len (ts := 22) hcl rfl) ?_
      refine PG.take (by decide +kernel) rfl rfl rfl rfl ?_
      refine PG.take (by decide +kernel) rfl rfl rfl rfl ?_
      refine PG.nil ?_
      refine pd1.fin (by kernel_rfl) (by kernel_rfl) ?_
      repeat (first | refine kthenP.n ?_ | refine kthenP.r ?_ | refine kthenP.e ?_ | refine kblockP.n ?_ | refine kblockP.r ?_ | refine kblockP.e ?_ | refine kblockP.o rfl ?_ | refine Runs.seq ?_ | refine Runs.region ?_ | refine Runs.block ?_ | refine Runs.cond ?_ | refine Runs.skip ?_ | refine Runs.loop ?_ | refine Runs.exit ?_ | refine Runs.ret ?_)
      refine pcond.d (p := (t.classes.length : Int) ≤ q) rfl (fun hlt => ?_) (fun hge => ?_)
      · repeat (first | refine kthenP.n ?_ | refine kthenP.r ?_ | refine kthenP.e ?_ | refine kblockP.n ?_ | refine kblockP.r ?_ | refine kblockP.e ?_ | refine kblockP.o rfl ?_ | refine Runs.seq ?_ | refine Runs.region ?_ | refine Runs.block ?_ | refine Runs.cond ?_ | refine Runs.skip ?_ | refine Runs.loop ?_ | refine Runs.exit ?_ | refine Runs.ret ?_)
        repeat (first | refine pops.bin rfl rfl rfl rfl rfl rfl (cbin_inc (by omega)) ?_ | refine pops.fl rfl rfl rfl rfl rfl ?_ | refine pops.skip rfl rfl rfl ?_ | refine pops.load rfl rfl rfl rfl rfl (by first | assumption | exact cload_of (by assumption) rfl) ?_ | refine pops.len rfl rfl rfl rfl rfl rfl rfl rfl (by first | exact SlA.len (by assumption) rfl | exact SlI.len (by assumption) rfl | exact SlS.len (by assumption) rfl | exact Sl.len (by assumption) rfl) ?_)
        refine pops.nil ?_
        repeat (first | refine kthenP.n ?_ | refine kthenP.r ?_ | refine kthenP.e ?_ | refine kblockP.n ?_ | refine kblockP.r ?_ | refine kblockP.e ?_ | refine kblockP.o rfl ?_ | refine Runs.seq ?_ | refine Runs.region ?_ | refine Runs.block ?_ | refine Runs.cond ?_ | refine Runs.skip ?_ | refine Runs.loop ?_ | refine Runs.exit ?_ | refine Runs.ret ?_)
        refine pleave.r rfl ?_
        refine ⟨?_, g1⟩
        rw [bad (by omega)]
      · repeat (first | refine kthenP.n ?_ | refine kthenP.r ?_ | refine kthenP.e ?_ | refine kblockP.n ?_ | refine kblockP.r ?_ | refine kblockP.e ?_ | refine kblockP.o rfl ?_ | refine Runs.seq ?_ | refine Runs.region ?_ | refine Runs.block ?_ | refine Runs.cond ?_ | refine Runs.skip ?_ | refine Runs.loop ?_ | refine Runs.exit ?_ | refine Runs.ret ?_)
        repeat (first | refine pops.bin rfl rfl rfl rfl rfl rfl (cbin_inc (by omega)) ?_ | refine pops.fl rfl rfl rfl rfl rfl ?_ | refine pops.skip rfl rfl rfl ?_ | refine pops.load rfl rfl rfl rfl rfl (by first | assumption | exact cload_of (by assumption) rfl) ?_ | refine pops.len rfl rfl rfl rfl rfl rfl rfl rfl (by first | exact SlA.len (by assumption) rfl | exact SlI.len (by assumption) rfl | exact SlS.len (by assumption) rfl | exact Sl.len (by assumption) rfl) ?_)
        refine pops.nil ?_
        refine .n ⟨_, i + 1, rfl, ⟨rfl, rfl, rfl, rfl, trivial⟩, (by show l.length - (i + 1) < l.length - i; omega), by omega, rfl, all_next hall hq ⟨by omega, by omega⟩⟩
  · repeat (first | refine kthenP.n ?_ | refine kthenP.r ?_ | refine kthenP.e ?_ | refine kblockP.n ?_ | refine kblockP.r ?_ | refine kblockP.e ?_ | refine kblockP.o rfl ?_ | refine Runs.seq ?_ | refine Runs.region ?_ | refine Runs.block ?_ | refine Runs.cond ?_ | refine Runs.skip ?_ | refine Runs.loop ?_ | refine Runs.exit ?_ | refine Runs.ret ?_)
    have hA := all_end hall (by omega)
    refine pops.load rfl rfl rfl rfl rfl (by first | assumption | exact cload_of (by assumption) rfl) ?_
    refine pops.callG rfl rfl rfl rfl rfl fn_refvalid rfl rfl rfl (refvalid_calls hV hlen) fun h2 hwf2 g2 => ?_
    repeat (first | refine pops.bin rfl rfl rfl rfl rfl rfl (cbin_inc (by omega)) ?_ | refine pops.fl rfl rfl rfl rfl rfl ?_ | refine pops.skip rfl rfl rfl ?_ | refine pops.load rfl rfl rfl rfl rfl (by first | assumption | exact cload_of (by assumption) rfl) ?_ | refine pops.len rfl rfl rfl rfl rfl rfl rfl rfl (by first | exact SlA.len (by assumption) rfl | exact SlI.len (by assumption) rfl | exact SlS.len (by assumption) rfl | exact Sl.len (by assumption) rfl) ?_)
    refine pops.nil ?_
    repeat (first | refine kthenP.n ?_ | refine kthenP.r ?_ | refine kthenP.e ?_ | refine kblockP.n ?_ | refine kblockP.r ?_ | refine kblockP.e ?_ | refine kblockP.o rfl ?_ | refine Runs.seq ?_ | refine Runs.region ?_ | refine Runs.block ?_ | refine Runs.cond ?_ | refine Runs.skip ?_ | refine Runs.loop ?_ | refine Runs.exit ?_ | refine Runs.ret ?_)
    refine pleave.r rfl ?_
    refine ⟨?_, g1.trans g2⟩
    cases hP : tt (ValidP t) with
    | false =>
      rw [tt_f]
      intro hU
      rw [tt_t hU.1] at hP
      cases hP
    | true => rw [tt_t (p := UsableP t l) ⟨tt_iff.1 hP, hA⟩]
theorem fn_refLeft : tab.fn 9 = some Tryz.f9 := by kernel_rfl
theorem refLeft_calls {v vl : Value} {t : TabD} {l : List Int} (hv : TabV tab ks h v t) (hl : SlI tab ks.int h vl l) (hlen : TextsLt t.classes) (hll : l.length ≤ 1000) : CalF (X w) 9 [v, vl] h fun r h' => (∃ u, r = .ret u ∧ SlI tab ks.int h' u (LeftR t l)) ∧ Gr h h' := by
  refine CalF.wf fun hwf => ?_
  have hV := hv
  obtain ⟨c, a, x, y, x', y', rfl, ho, hcl, hac, hx, hy, hx', hy'⟩ := hv
  simp only [Bool.and_eq_true] at ho
  refine CalF.intro fn_refLeft rfl (Nat.le_of_ble_eq_true rfl) ?_
  repeat (first | refine kthenP.n ?_ | refine kthenP.r ?_ | refine kthenP.e ?_ | refine kblockP.n ?_ | refine kblockP.r ?_ | refine kblockP.e ?_ | refine kblockP.o rfl ?_ | refine Runs.seq ?_ | refine Runs.region ?_ | refine Runs.block ?_ | refine Runs.cond ?_ | refine Runs.skip ?_ | refine Runs.loop ?_ | refine Runs.exit ?_ | refine Runs.ret ?_)
  refine pops.box (cs := [c, a, x, y, x', y']) rfl rfl rfl rfl (by simp [ho]) rfl rfl hwf fun b h1 hb hwf1 g1 hc => ?_
  refine pops.fl rfl rfl rfl rfl rfl ?_
  refine pops.nil ?_
  repeat (first | refine kthenP.n ?_ | refine kthenP.r ?_ | refine kthenP.e ?_ | refine kblockP.n ?_ | refine kblockP.r ?_ | refine kblockP.e ?_ | refine kblockP.o rfl ?_ | refine Runs.seq ?_ | refine Runs.region ?_ | refine Runs.block ?_ | refine Runs.cond ?_ | refine Runs.skip ?_ | refine Runs.loop ?_ | refine Runs.exit ?_ | refine Runs.ret ?_)
  repeat (first | refine pops.bin rfl rfl rfl rfl rfl rfl (cbin_inc (by omega)) ?_ | refine pops.fl rfl rfl rfl rfl rfl ?_ | refine pops.skip rfl rfl rfl ?_ | refine pops.load rfl rfl rfl rfl rfl (by first | assumption | exact cload_of (by assumption) rfl) ?_ | refine pops.len rfl rfl rfl rfl rfl rfl rfl rfl (by first | exact SlA.len (by assumption) rfl | exact SlI.len (by assumption) rfl | exact SlS.len (by assumption) rfl | exact Sl.len (by assumption) rfl) ?_)
  refine pops.callG rfl rfl rfl rfl rfl fn_refusable rfl rfl rfl (refusable_calls (hV.gr hwf g1) (Sl.gr hl hwf g1) hlen) fun h2 hwf2 g2 => ?_
  have g02 := g1.trans g2
  replace hc := g2.at hwf1 hc
  replace hx := hx.gr hwf g02
  replace hl := Sl.gr hl hwf g02
  clear g1 g2 hwf1 hb h1
  unfold LeftR
  cases hU : tt (UsableP t l) with
  | false =>
    repeat (first | refine pops.bin rfl rfl rfl rfl rfl rfl (cbin_inc (by omega)) ?_ | refine pops.fl rfl rfl rfl rfl rfl ?_ | refine pops.skip rfl rfl rfl ?_ | refine pops.load rfl rfl rfl rfl rfl (by first | assumption | exact cload_of (by assumption) rfl) ?_ | refine pops.len rfl rfl rfl rfl rfl rfl rfl rfl (by first | exact SlA.len (by assumption) rfl | exact SlI.len (by assumption) rfl | exact SlS.len (by assumption) rfl | exact Sl.len (by assumption) rfl) ?_)
    refine pops.nil ?_
    repeat (first | refine kthenP.n ?_ | refine kthenP.r ?_ | refine kthenP.e ?_ | refine kblockP.n ?_ | refine kblockP.r ?_ | refine kblockP.e ?_ | refine kblockP.o rfl ?_ | refine Runs.seq ?_ | refine Runs.region ?_ | refine Runs.block ?_ | refine Runs.cond ?_ | refine Runs.skip ?_ | refine Runs.loop ?_ | refine Runs.exit ?_ | refine Runs.ret ?_)
    refine pcond.t rfl ?_
    repeat (first | refine kthenP.n ?_ | refine kthenP.r ?_ | refine kthenP.e ?_ | refine kblockP.n ?_ | refine kblockP.r ?_ | refine kblockP.e ?_ | refine kblockP.o rfl ?_ | refine Runs.seq ?_ | refine Runs.region ?_ | refine Runs.block ?_ | refine Runs.cond ?_ | refine Runs.skip ?_ | refine Runs.loop ?_ | refine Runs.exit ?_ | refine Runs.ret ?_)
    repeat (first | refine pops.bin rfl rfl rfl rfl rfl rfl (cbin_inc (by omega)) ?_ | refine pops.fl rfl rfl rfl rfl rfl ?_ | refine pops.skip rfl rfl rfl ?_ | refine pops.load rfl rfl rfl rfl rfl (by first | assumption | exact cload_of (by assumption) rfl) ?_ | refine pops.len rfl rfl rfl rfl rfl rfl rfl rfl (by first | exact SlA.len (by assumption) rfl | exact SlI.len (by assumption) rfl | exact SlS.len (by assumption) rfl | exact Sl.len (by assumption) rfl) ?_)
    refine pops.nil ?_
    repeat (first | refine kthenP.n ?_ | refine kthenP.r ?_ | refine kthenP.e ?_ | refine kblockP.n ?_ | refine kblockP.r ?_ | refine kblockP.e ?_ | refine kblockP.o rfl ?_ | refine Runs.seq ?_ | refine Runs.region ?_ | refine Runs.block ?_ | refine Runs.cond ?_ | refine Runs.skip ?_ | refine Runs.loop ?_ | refine Runs.exit ?_ | refine Runs.ret ?_)
    refine pleave.r rfl ?_
    exact ⟨⟨_, rfl, nil_ints⟩, g02⟩
  | true =>
  replace hU := tt_iff.1 hU
  repeat (first | refine pops.bin rfl rfl rfl rfl rfl rfl (cbin_inc (by omega)) ?_ | refine pops.fl rfl rfl rfl rfl rfl ?_ | refine pops.skip rfl rfl rfl ?_ | refine pops.load rfl rfl rfl rfl rfl (by first | assumption | exact cload_of (by assumption) rfl) ?_ | refine pops.len rfl rfl rfl rfl rfl rfl rfl rfl (by first | exact SlA.len (by assumption) rfl | exact SlI.len (by assumption) rfl | exact SlS.len (by assumption) rfl | exact Sl.len (by assumption) rfl) ?_)
  refine pops.nil ?_
  repeat (first | refine kthenP.n ?_ | refine kthenP.r ?_ | refine kthenP.e ?_ | refine kblockP.n ?_ | refine kblockP.r ?_ | refine kblockP.e ?_ | refine kblockP.o rfl ?_ | refine Runs.seq ?_ | refine Runs.region ?_ | refine Runs.block ?_ | refine Runs.cond ?_ | refine Runs.skip ?_ | refine Runs.loop ?_ | refine Runs.exit ?_ | refine Runs.ret ?_)
  refine pcond.f rfl ?_
  repeat (first | refine kthenP.n ?_ | refine kthenP.r ?_ | refine kthenP.e ?_ | refine kblockP.n ?_ | refine kblockP.r ?_ | refine kblockP.e ?_ | refine kblockP.o rfl ?_ | refine Runs.seq ?_ | refine Runs.region ?_ | refine Runs.block ?_ | refine Runs.cond ?_ | refine Runs.skip ?_ | refine Runs.loop ?_ | refine Runs.exit ?_ | refine Runs.ret ?_)
  refine pops.buildSlice (cs := [.int .i64 0]) rfl rfl rfl rfl rfl hwf2 fun b0 h3 hb0 hwf3 g3 hc0 => ?_
  repeat (first | refine pops.bin rfl rfl rfl rfl rfl rfl (cbin_inc (by omega)) ?_ | refine pops.fl rfl rfl rfl rfl rfl ?_ | refine pops.skip rfl rfl rfl ?_ | refine pops.load rfl rfl rfl rfl rfl (by first | assumption | exact cload_of (by assumption) rfl) ?_ | refine pops.len rfl rfl rfl rfl rfl rfl rfl rfl (by first | exact SlA.len (by assumption) rfl | exact SlI.len (by assumption) rfl | exact SlS.len (by assumption) rfl | exact Sl.len (by assumption) rfl) ?_)
  refine pops.nil ?_
  repeat (first | refine kthenP.n ?_ | refine kthenP.r ?_ | refine kthenP.e ?_ | refine kblockP.n ?_ | refine kblockP.r ?_ | refine kblockP.e ?_ | refine kblockP.o rfl ?_ | refine Runs.seq ?_ | refine Runs.region ?_ | refine Runs.block ?_ | refine Runs.cond ?_ | refine Runs.skip ?_ | refine Runs.loop ?_ | refine Runs.exit ?_ | refine Runs.ret ?_)
  repeat (first | refine pops.bin rfl rfl rfl rfl rfl rfl (cbin_inc (by omega)) ?_ | refine pops.fl rfl rfl rfl rfl rfl ?_ | refine pops.skip rfl rfl rfl ?_ | refine pops.load rfl rfl rfl rfl rfl (by first | assumption | exact cload_of (by assumption) rfl) ?_ | refine pops.len rfl rfl rfl rfl rfl rfl rfl rfl (by first | exact SlA.len (by assumption) rfl | exact SlI.len (by assumption) rfl | exact SlS.len (by assumption) rfl | exact Sl.len (by assumption) rfl) ?_)
  refine pops.nil ?_
  repeat (first | refine kthenP.n ?_ | refine kthenP.r ?_ | refine kthenP.e ?_ | refine kblockP.n ?_ | refine kblockP.r ?_ | refine kblockP.e ?_ | refine kblockP.o rfl ?_ | refine Runs.seq ?_ | refine Runs.region ?_ | refine Runs.block ?_ | refine Runs.cond ?_ | refine Runs.skip ?_ | refine Runs.loop ?_ | refine Runs.exit ?_ | refine Runs.ret ?_)
  refine Loops.ind 6 (fun s : Nat × Value => [(1, vl), (2, .pointer (some ⟨b, 0, none⟩)), (5, s.2), (6, .int .i64 (s.1 : Nat))])
    (fun s h' => s.1 ≤ l.length ∧ Gr h2 h' ∧ ∃ b', h2.n ≤ b' ∧ Own h' s.2 b' ((List.range (s.1 + 1)).map fun i => Value.int .i64 (st t.left.next l i : Int)))
    (fun s => l.length - s.1) (0, .slice (some ⟨b0, 0, none⟩) 1 1) (by decide) ⟨rfl, rfl, rfl, rfl, trivial⟩ ⟨Nat.zero_le _, g3, b0, hb0, .inr ⟨1, rfl, hc0, .inl rfl⟩⟩ ?_
  clear hc0 g3 hwf3 hb0
  rintro ⟨i, vo⟩ z h' hwf' ⟨hi, g2, b', hb', hown⟩
  simp only at hi hown
  replace hc := g2.at hwf2 hc
  replace hx := hx.gr hwf2 g2
  replace hl := Sl.gr hl hwf2 g2
  have hownS : Sl tab ks.int h' vo ((List.range (i + 1)).map fun i => Value.int .i64 (st t.left.next l i : Int)) := hown.sl rfl rfl rfl (by simp; omega)
  repeat (first | refine kthenP.n ?_ | refine kthenP.r ?_ | refine kthenP.e ?_ | refine kblockP.n ?_ | refine kblockP.r ?_ | refine kblockP.e ?_ | refine kblockP.o rfl ?_ | refine Runs.seq ?_ | refine Runs.region ?_ | refine Runs.block ?_ | refine Runs.cond ?_ | refine Runs.skip ?_ | refine Runs.loop ?_ | refine Runs.exit ?_ | refine Runs.ret ?_)
  repeat (first | refine pops.bin rfl rfl rfl rfl rfl rfl (cbin_inc (by omega)) ?_ | refine pops.fl rfl rfl rfl rfl rfl ?_ | refine pops.skip rfl rfl rfl ?_ | refine pops.load rfl rfl rfl rfl rfl (by first | assumption | exact cload_of (by assumption) rfl) ?_ | refine pops.len rfl rfl rfl rfl rfl rfl rfl rfl (by first | exact SlA.len (by assumption) rfl | exact SlI.len (by assumption) rfl | exact SlS.len (by assumption) rfl | exact Sl.len (by assumption) rfl) ?_)
  refine pops.nil ?_
  repeat (first | refine kthenP.n ?_ | refine kthenP.r ?_ | refine kthenP.e ?_ | refine kblockP.n ?_ | refine kblockP.r ?_ | refine kblockP.e ?_ | refine kblockP.o rfl ?_ | refine Runs.seq ?_ | refine Runs.region ?_ | refine Runs.block ?_ | refine Runs.cond ?_ | refine Runs.skip ?_ | refine Runs.loop ?_ | refine Runs.exit ?_ | refine Runs.ret ?_)
  refine pcond.d (p := (i : Int) < (l.length : Nat)) rfl (fun hlt => ?_) (fun hge => ?_)
  · have hlt : i < l.length := by omega
    obtain ⟨cc, hcc⟩ : ∃ c, l[i]? = some c := ⟨_, List.getElem?_eq_getElem hlt⟩
    have hcr := hU.2 cc (List.mem_of_getElem? hcc)
    obtain ⟨k, rfl⟩ : ∃ k : Nat, cc = k := Int.eq_ofNat_of_zero_le hcr.1
    have hkc : k < t.classes.length := by omega
    have hS := hU.1.2.2.2.1
    obtain ⟨h5, row, h6, h7⟩ := stepTo_ok hS (st_ok hS hU.2 i hi) hkc
    have hst : st t.left.next l (i + 1) = stepTo t.left.next (st t.left.next l i) k := by
      show stepTo _ _ (l.getD i 0).toNat = _
      rw [List.getD_eq_getElem?_getD, hcc]
      rfl
    obtain ⟨p1, hp1, hq1⟩ := hownS.readG hwf' (ts := 23) rfl (i := i) (x := .int .i64 (st t.left.next l i : Int)) (by rw [List.getElem?_map, List.getElem?_range (by omega)]; rfl) .i64
    obtain ⟨p2, u2, hp2, hu2, hq2⟩ := SlA.readG hx hwf' (ts := 24) rfl h6 .i64
    obtain ⟨p3, hp3, hq3⟩ := Sl.readM hu2 hwf' (ts := 23) rfl h7 .i64
    obtain ⟨p4, hp4, hq4⟩ := Sl.readM hl hwf' (ts := 23) rfl hcc .i64
    repeat (first | refine kthenP.n ?_ | refine kthenP.r ?_ | refine kthenP.e ?_ | refine kblockP.n ?_ | refine kblockP.r ?_ | refine kblockP.e ?_ | refine kblockP.o rfl ?_ | refine Runs.seq ?_ | refine Runs.region ?_ | refine Runs.block ?_ | refine Runs.cond ?_ | refine Runs.skip ?_ | refine Runs.loop ?_ | refine Runs.exit ?_ | refine Runs.ret ?_)
    refine PG.start _ rfl rfl ?_
    refine PG.take (by decide +kernel) rfl rfl rfl rfl ?_
    refine PG.take (by decide +kernel) rfl rfl rfl rfl ?_
    refine PG.take (by decide +kernel) rfl rfl rfl rfl ?_
    refine PG.load (by decide +kernel) rfl rfl rfl rfl rfl (by first | assumption | exact cload_of (by assumption) rfl) ?_
    refine PG.take (by decide +kernel) rfl rfl rfl rfl ?_
    refine PG.take (by decide +kernel) rfl rfl rfl rfl ?_
    refine PG.take (by decide +kernel) rfl rfl rfl (hp1) ?_
    refine PG.take (by decide +kernel) rfl rfl rfl (hq1 _ (Gr.refl _)) ?_
    refine PG.take (by decide +kernel) rfl rfl rfl (hp2) ?_
    refine PG.take (by decide +kernel) rfl rfl rfl (hq2 _ (Gr.refl _)) ?_
    refine PG.take (by decide +kernel) rfl rfl rfl rfl ?_
    refine PG.take (by decide +kernel) rfl rfl rfl rfl ?_
    refine PG.take (by decide +kernel) rfl rfl rfl (hp4) ?_
    refine PG.take (by decide +kernel) rfl rfl rfl (hq4 _ (Gr.refl _)) ?_
    refine PG.take (by decide +kernel) rfl rfl rfl (hp3) ?_
    refine PG.take (by decide +kernel) rfl rfl rfl (hq3 _ (Gr.refl _)) ?_
    repeat refine PG.skip (by decide +kernel) ?_
    refine PG.nil ?_
    refine pd1.buildSlice (cs := [.int .i64 (stepTo t.left.next (st t.left.next l i) k : Int)]) 16 rfl (by kernel_rfl) rfl rfl rfl rfl rfl hwf' fun b1 h3 hb1 hwf3 g3 hc3 => ?_
    refine ⟨_, by (repeat (first | exact Reck.nil | (apply Reck.dropI; decide +kernel) | (apply Reck.keep; rfl) | (apply Reck.load; rfl; rfl; first | assumption | exact cload_of (by assumption) rfl) | (apply Reck.same; rfl))), ?_⟩
    repeat (first | refine PG.skip (by decide +kernel) ?_ | refine PG.take (by decide +kernel) rfl rfl rfl rfl ?_ | refine PG.load (by decide +kernel) rfl rfl rfl rfl rfl (by first | assumption | exact cload_of (by assumption) rfl) ?_ | refine PG.drop (by decide +kernel) rfl rfl rfl ?_)
    refine PG.nil ?_
    refine pd1.append1 17 rfl (by kernel_rfl) rfl rfl rfl rfl rfl rfl rfl rfl rfl rfl rfl rfl rfl rfl rfl rfl rfl hwf3 (hown.gr hwf' g3) rfl hc3 (by simp; omega) fun v' b2 h4 hwf4 ch hb2 hown4 => ?_
    refine ⟨_, by (repeat (first | exact Reck.nil | (apply Reck.dropI; decide +kernel) | (apply Reck.keep; rfl) | (apply Reck.load; rfl; rfl; first | assumption | exact cload_of (by assumption) rfl) | (apply Reck.same; rfl))), ?_⟩
    repeat (first | refine PG.skip (by decide +kernel) ?_ | refine PG.take (by decide +kernel) rfl rfl rfl rfl ?_ | refine PG.load (by decide +kernel) rfl rfl rfl rfl rfl (by first | assumption | exact cload_of (by assumption) rfl) ?_ | refine PG.drop (by decide +kernel) rfl rfl rfl ?_)
    refine PG.nil ?_
    refine pd1.fin (by kernel_rfl) (by kernel_rfl) ?_
    repeat (first | refine kthenP.n ?_ | refine kthenP.r ?_ | refine kthenP.e ?_ | refine kblockP.n ?_ | refine kblockP.r ?_ | refine kblockP.e ?_ | refine kblockP.o rfl ?_ | refine Runs.seq ?_ | refine Runs.region ?_ | refine Runs.block ?_ | refine Runs.cond ?_ | refine Runs.skip ?_ | refine Runs.loop ?_ | refine Runs.exit ?_ | refine Runs.ret ?_)
    repeat (first | refine pops.bin rfl rfl rfl rfl rfl rfl (cbin_inc (by omega)) ?_ | refine pops.fl rfl rfl rfl rfl rfl ?_ | refine pops.skip rfl rfl rfl ?_ | refine pops.load rfl rfl rfl rfl rfl (by first | assumption | exact cload_of (by assumption) rfl) ?_ | refine pops.len rfl rfl rfl rfl rfl rfl rfl rfl (by first | exact SlA.len (by assumption) rfl | exact SlI.len (by assumption) rfl | exact SlS.len (by assumption) rfl | exact Sl.len (by assumption) rfl) ?_)
    refine pops.nil ?_
    refine .n ⟨_, (i + 1, v'), rfl, ⟨rfl, rfl, rfl, rfl, trivial⟩, (by show l.length - (i + 1) < l.length - i; omega), (by show i + 1 ≤ l.length; omega), (g2.trans g3).chg hb' ch, b2, Nat.le_trans g2.n (Nat.le_trans g3.n hb2), ?_⟩
    show Own h4 v' b2 ((List.range (i + 1 + 1)).map _)
    rw [List.range_succ, List.map_append]
    rw [← hst] at hown4
    exact hown4
  · repeat (first | refine kthenP.n ?_ | refine kthenP.r ?_ | refine kthenP.e ?_ | refine kblockP.n ?_ | refine kblockP.r ?_ | refine kblockP.e ?_ | refine kblockP.o rfl ?_ | refine Runs.seq ?_ | refine Runs.region ?_ | refine Runs.block ?_ | refine Runs.cond ?_ | refine Runs.skip ?_ | refine Runs.loop ?_ | refine Runs.exit ?_ | refine Runs.ret ?_)
    have hi' : i = l.length := by omega
    subst hi'
    repeat (first | refine pops.bin rfl rfl rfl rfl rfl rfl (cbin_inc (by omega)) ?_ | refine pops.fl rfl rfl rfl rfl rfl ?_ | refine pops.skip rfl rfl rfl ?_ | refine pops.load rfl rfl rfl rfl rfl (by first | assumption | exact cload_of (by assumption) rfl) ?_ | refine pops.len rfl rfl rfl rfl rfl rfl rfl rfl (by first | exact SlA.len (by assumption) rfl | exact SlI.len (by assumption) rfl | exact SlS.len (by assumption) rfl | exact Sl.len (by assumption) rfl) ?_)
    refine pops.nil ?_
    repeat (first | refine kthenP.n ?_ | refine kthenP.r ?_ | refine kthenP.e ?_ | refine kblockP.n ?_ | refine kblockP.r ?_ | refine kblockP.e ?_ | refine kblockP.o rfl ?_ | refine Runs.seq ?_ | refine Runs.region ?_ | refine Runs.block ?_ | refine Runs.cond ?_ | refine Runs.skip ?_ | refine Runs.loop ?_ | refine Runs.exit ?_ | refine Runs.ret ?_)
    refine pleave.r rfl ?_
    refine ⟨⟨vo, rfl, ?_⟩, g02.trans g2⟩
    unfold leftS
    show Sl _ _ _ _ (List.map _ (List.map _ _))
    rw [List.map_map]
    exact hownS
theorem fn_refRight : tab.fn 11 = some Tryz.f11 := by kernel_rfl
theorem refRight_calls {v vl : Value} {t : TabD} {l : List Int} (hv : TabV tab ks h v t) (hl : SlI tab ks.int h vl l) (hlen : TextsLt t.classes) (hll : l.length ≤ 1000) : CalF (X w) 11 [v, vl] h fun r h' => (∃ u, r = .ret u ∧ SlI tab ks.int h' u (RightR t l)) ∧ Gr h h' := by
  refine CalF.wf fun hwf => ?_
  have hV := hv
  obtain ⟨c, a, x, y, x', y', rfl, ho, hcl, hac, hx, hy, hx', hy'⟩ := hv
  simp only [Bool.and_eq_true] at ho
  refine CalF.intro fn_refRight rfl (Nat.le_of_ble_eq_true rfl) ?_
  repeat (first | refine kthenP.n ?_ | refine kthenP.r ?_ | refine kthenP.e ?_ | refine kblockP.n ?_ | refine kblockP.r ?_ | refine kblockP.e ?_ | refine kblockP.o rfl ?_ | refine Runs.seq ?_ | refine Runs.region ?_ | refine Runs.block ?_ | refine Runs.cond ?_ | refine Runs.skip ?_ | refine Runs.loop ?_ | refine Runs.exit ?_ | refine Runs.ret ?_)
  refine pops.box (cs := [c, a, x, y, x', y']) rfl rfl rfl rfl (by simp [ho]) rfl rfl hwf fun b h1 hb hwf1 g1 hc => ?_
  refine pops.fl rfl rfl rfl rfl rfl ?_
  refine pops.nil ?_
  repeat (first | refine kthenP.n ?_ | refine kthenP.r ?_ | refine kthenP.e ?_ | refine kblockP.n ?_ | refine kblockP.r ?_ | refine kblockP.e ?_ | refine kblockP.o rfl ?_ | refine Runs.seq ?_ | refine Runs.region ?_ | refine Runs.block ?_ | refine Runs.cond ?_ | refine Runs.skip ?_ | refine Runs.loop ?_ | refine Runs.exit ?_ | refine Runs.ret ?_)
  repeat (first | refine pops.bin rfl rfl rfl rfl rfl rfl (cbin_inc (by omega)) ?_ | refine pops.fl rfl rfl rfl rfl rfl ?_ | refine pops.skip rfl rfl rfl ?_ | refine pops.load rfl rfl rfl rfl rfl (by first | assumption | exact cload_of (by assumption) rfl) ?_ | refine pops.len rfl rfl rfl rfl rfl rfl rfl rfl (by first | exact SlA.len (by assumption) rfl | exact SlI.len (by assumption) rfl | exact SlS.len (by assumption) rfl | exact Sl.len (by assumption) rfl) ?_)
  refine pops.callG rfl rfl rfl rfl rfl fn_refusable rfl rfl rfl (refusable_calls (hV.gr hwf g1) (Sl.gr hl hwf g1) hlen) fun h2 hwf2 g2 => ?_
  have g02 := g1.trans g2
  replace hc := g2.at hwf1 hc
  replace hx' := hx'.gr hwf g02
  replace hl := Sl.gr hl hwf g02
  clear g1 g2 hwf1 hb h1
  unfold RightR
  cases hU : tt (UsableP t l) with
  | false =>
    repeat (first | refine pops.bin rfl rfl rfl rfl rfl rfl (cbin_inc (by omega)) ?_ | refine pops.fl rfl rfl rfl rfl rfl ?_ | refine pops.skip rfl rfl rfl ?_ | refine pops.load rfl rfl rfl rfl rfl (by first | assumption | exact cload_of (by assumption) rfl) ?_ | refine pops.len rfl rfl rfl rfl rfl rfl rfl rfl (by first | exact SlA.len (by assumption) rfl | exact SlI.len (by assumption) rfl | exact SlS.len (by assumption) rfl | exact Sl.len (by assumption) rfl) ?_)
    refine pops.nil ?_
    repeat (first | refine kthenP.n ?_ | refine kthenP.r ?_ | refine kthenP.e ?_ | refine kblockP.n ?_ | refine kblockP.r ?_ | refine kblockP.e ?_ | refine kblockP.o rfl ?_ | refine Runs.seq ?_ | refine Runs.region ?_ | refine Runs.block ?_ | refine Runs.cond ?_ | refine Runs.skip ?_ | refine Runs.loop ?_ | refine Runs.exit ?_ | refine Runs.ret ?_)
    refine pcond.t rfl ?_
    repeat (first | refine kthenP.n ?_ | refine kthenP.r ?_ | refine kthenP.e ?_ | refine kblockP.n ?_ | refine kblockP.r ?_ | refine kblockP.e ?_ | refine kblockP.o rfl ?_ | refine Runs.seq ?_ | refine Runs.region ?_ | refine Runs.block ?_ | refine Runs.cond ?_ | refine Runs.skip ?_ | refine Runs.loop ?_ | refine Runs.exit ?_ | refine Runs.ret ?_)
    repeat (first | refine pops.bin rfl rfl rfl rfl rfl rfl (cbin_inc (by omega)) ?_ | refine pops.fl rfl rfl rfl rfl rfl ?_ | refine pops.skip rfl rfl rfl ?_ | refine pops.load rfl rfl rfl rfl rfl (by first | assumption | exact cload_of (by assumption) rfl) ?_ | refine pops.len rfl rfl rfl rfl rfl rfl rfl rfl (by first | exact SlA.len (by assumption) rfl | exact SlI.len (by assumption) rfl | exact SlS.len (by assumption) rfl | exact Sl.len (by assumption) rfl) ?_)
    refine pops.nil ?_
    repeat (first | refine kthenP.n ?_ | refine kthenP.r ?_ | refine kthenP.e ?_ | refine kblockP.n ?_ | refine kblockP.r ?_ | refine kblockP.e ?_ | refine kblockP.o rfl ?_ | refine Runs.seq ?_ | refine Runs.region ?_ | refine Runs.block ?_ | refine Runs.cond ?_ | refine Runs.skip ?_ | refine Runs.loop ?_ | refine Runs.exit ?_ | refine Runs.ret ?_)
    refine pleave.r rfl ?_
    exact ⟨⟨_, rfl, nil_ints⟩, g02⟩
  | true =>
  replace hU := tt_iff.1 hU
  repeat (first | refine pops.bin rfl rfl rfl rfl rfl rfl (cbin_inc (by omega)) ?_ | refine pops.fl rfl rfl rfl rfl rfl ?_ | refine pops.skip rfl rfl rfl ?_ | refine pops.load rfl rfl rfl rfl rfl (by first | assumption | exact cload_of (by assumption) rfl) ?_ | refine pops.len rfl rfl rfl rfl rfl rfl rfl rfl (by first | exact SlA.len (by assumption) rfl | exact SlI.len (by assumption) rfl | exact SlS.len (by assumption) rfl | exact Sl.len (by assumption) rfl) ?_)
  refine pops.nil ?_
  repeat (first | refine kthenP.n ?_ | refine kthenP.r ?_ | refine kthenP.e ?_ | refine kblockP.n ?_ | refine kblockP.r ?_ | refine kblockP.e ?_ | refine kblockP.o rfl ?_ | refine Runs.seq ?_ | refine Runs.region ?_ | refine Runs.block ?_ | refine Runs.cond ?_ | refine Runs.skip ?_ | refine Runs.loop ?_ | refine Runs.exit ?_ | refine Runs.ret ?_)
  refine pcond.f rfl ?_
  repeat (first | refine kthenP.n ?_ | refine kthenP.r ?_ | refine kthenP.e ?_ | refine kblockP.n ?_ | refine kblockP.r ?_ | refine kblockP.e ?_ | refine kblockP.o rfl ?_ | refine Runs.seq ?_ | refine Runs.region ?_ | refine Runs.block ?_ | refine Runs.cond ?_ | refine Runs.skip ?_ | refine Runs.loop ?_ | refine Runs.exit ?_ | refine Runs.ret ?_)
  repeat (first | refine pops.bin rfl rfl rfl rfl rfl rfl (cbin_inc (by omega)) ?_ | refine pops.fl rfl rfl rfl rfl rfl ?_ | refine pops.skip rfl rfl rfl ?_ | refine pops.load rfl rfl rfl rfl rfl (by first | assumption | exact cload_of (by assumption) rfl) ?_ | refine pops.len rfl rfl rfl rfl rfl rfl rfl rfl (by first | exact SlA.len (by assumption) rfl | exact SlI.len (by assumption) rfl | exact SlS.len (by assumption) rfl | exact Sl.len (by assumption) rfl) ?_)
  refine pops.makeSlice (z := .int .i64 0) (m := l.length + 1) rfl rfl rfl rfl rfl rfl rfl rfl rfl rfl rfl (by omega) hwf2 fun bs h3 hbs hwf3 g3 hcs => ?_
  repeat (first | refine pops.bin rfl rfl rfl rfl rfl rfl (cbin_inc (by omega)) ?_ | refine pops.fl rfl rfl rfl rfl rfl ?_ | refine pops.skip rfl rfl rfl ?_ | refine pops.load rfl rfl rfl rfl rfl (by first | assumption | exact cload_of (by assumption) rfl) ?_ | refine pops.len rfl rfl rfl rfl rfl rfl rfl rfl (by first | exact SlA.len (by assumption) rfl | exact SlI.len (by assumption) rfl | exact SlS.len (by assumption) rfl | exact Sl.len (by assumption) rfl) ?_)
  refine pops.nil ?_
  repeat (first | refine kthenP.n ?_ | refine kthenP.r ?_ | refine kthenP.e ?_ | refine kblockP.n ?_ | refine kblockP.r ?_ | refine kblockP.e ?_ | refine kblockP.o rfl ?_ | refine Runs.seq ?_ | refine Runs.region ?_ | refine Runs.block ?_ | refine Runs.cond ?_ | refine Runs.skip ?_ | refine Runs.loop ?_ | refine Runs.exit ?_ | refine Runs.ret ?_)
  refine pops.fl rfl rfl rfl rfl rfl ?_
  refine pops.len rfl rfl rfl rfl rfl rfl rfl rfl (SlI.len (Sl.gr hl hwf2 g3) rfl) ?_
  refine pops.bin rfl rfl rfl rfl rfl rfl (cbin_dec1 (by omega)) ?_
  repeat (first | refine pops.bin rfl rfl rfl rfl rfl rfl (cbin_inc (by omega)) ?_ | refine pops.fl rfl rfl rfl rfl rfl ?_ | refine pops.skip rfl rfl rfl ?_ | refine pops.load rfl rfl rfl rfl rfl (by first | assumption | exact cload_of (by assumption) rfl) ?_ | refine pops.len rfl rfl rfl rfl rfl rfl rfl rfl (by first | exact SlA.len (by assumption) rfl | exact SlI.len (by assumption) rfl | exact SlS.len (by assumption) rfl | exact Sl.len (by assumption) rfl) ?_)
  refine pops.nil ?_
  repeat (first | refine kthenP.n ?_ | refine kthenP.r ?_ | refine kthenP.e ?_ | refine kblockP.n ?_ | refine kblockP.r ?_ | refine kblockP.e ?_ | refine kblockP.o rfl ?_ | refine Runs.seq ?_ | refine Runs.region ?_ | refine Runs.block ?_ | refine Runs.cond ?_ | refine Runs.skip ?_ | refine Runs.loop ?_ | refine Runs.exit ?_ | refine Runs.ret ?_)
  refine Loops.ind 6 (fun m : Nat => [(1, vl), (2, .pointer (some ⟨b, 0, none⟩)), (5, .slice (some ⟨bs, 0, none⟩) (l.length + 1) (l.length + 1)), (6, .int .i64 ((m : Int) - 1))])
    (fun m h' => m ≤ l.length ∧ Gr h2 h' ∧ h'.get bs = some (.cells (rowM (rst t.right.next l) l.length m) false false))
    (fun m => m) l.length (by decide) ⟨rfl, rfl, rfl, rfl, trivial⟩ ⟨Nat.le_refl _, g3, by rw [rowM_init _ _ rfl]; exact hcs⟩ ?_
  clear hcs g3 hwf3
  rintro m z h' hwf' ⟨hm, g2, hcs⟩
  replace hc := g2.at hwf2 hc
  replace hx' := hx'.gr hwf2 g2
  replace hl := Sl.gr hl hwf2 g2
  repeat (first | refine kthenP.n ?_ | refine kthenP.r ?_ | refine kthenP.e ?_ | refine kblockP.n ?_ | refine kblockP.r ?_ | refine kblockP.e ?_ | refine kblockP.o rfl ?_ | refine Runs.seq ?_ | refine Runs.region ?_ | refine Runs.block ?_ | refine Runs.cond ?_ | refine Runs.skip ?_ | refine Runs.loop ?_ | refine Runs.exit ?_ | refine Runs.ret ?_)
  repeat (first | refine pops.bin rfl rfl rfl rfl rfl rfl (cbin_inc (by omega)) ?_ | refine pops.fl rfl rfl rfl rfl rfl ?_ | refine pops.skip rfl rfl rfl ?_ | refine pops.load rfl rfl rfl rfl rfl (by first | assumption | exact cload_of (by assumption) rfl) ?_ | refine pops.len rfl rfl rfl rfl rfl rfl rfl rfl (by first | exact SlA.len (by assumption) rfl | exact SlI.len (by assumption) rfl | exact SlS.len (by assumption) rfl | exact Sl.len (by assumption) rfl) ?_)
  refine pops.nil ?_
  repeat (first | refine kthenP.n ?_ | refine kthenP.r ?_ | refine kthenP.e ?_ | refine kblockP.n ?_ | refine kblockP.r ?_ | refine kblockP.e ?_ | refine kblockP.o rfl ?_ | refine Runs.seq ?_ | refine Runs.region ?_ | refine Runs.block ?_ | refine Runs.cond ?_ | refine Runs.skip ?_ | refine Runs.loop ?_ | refine Runs.exit ?_ | refine Runs.ret ?_)
  refine pcond.d (p := (0 : Int) ≤ (m : Int) - 1) rfl (fun hlt => ?_) (fun hge => ?_)
  · obtain ⟨j, rfl⟩ : ∃ j, m = j + 1 := ⟨m - 1, by omega⟩
    have e : (((j + 1 : Nat) : Int) - 1) = (j : Int) := by omega
    rw [e]
    obtain ⟨xx, hxx⟩ : ∃ x, l[j]? = some x := ⟨_, List.getElem?_eq_getElem (by omega)⟩
    have hcr := hU.2 xx (List.mem_of_getElem? hxx)
    obtain ⟨k, rfl⟩ : ∃ k : Nat, xx = k := Int.eq_ofNat_of_zero_le hcr.1
    have hkc : k < t.classes.length := by omega
    have hS := hU.1.2.2.2.2
    obtain ⟨h6, row, h7, h8⟩ := stepTo_ok hS (rst_ok hS hU.2 (l.length - (j + 1)) (by omega)) hkc
    have hst : rst t.right.next l (l.length - j) = stepTo t.right.next (rst t.right.next l (l.length - (j + 1))) k := by
      rw [show l.length - j = (l.length - (j + 1)) + 1 by omega]
      show stepTo _ _ (l.getD (l.length - 1 - (l.length - (j + 1))) 0).toNat = _
      rw [show l.length - 1 - (l.length - (j + 1)) = j by omega, List.getD_eq_getElem?_getD, hxx]
      rfl
    have hS1 : Sl tab ks.int h' (.slice (some ⟨bs, 0, none⟩) (l.length + 1) (l.length + 1)) (rowM (rst t.right.next l) l.length (j + 1)) := Sl.one hcs rfl rfl rfl (by rw [rowM_length]; omega) (rowM_length _ _ _)
    obtain ⟨p1, hp1, hq1⟩ := hS1.readG hwf' (ts := 23) rfl (rowM_get (rst t.right.next l) l.length (j + 1) (j + 1) hm (Nat.le_refl _)) .i64
    obtain ⟨p2, u2, hp2, hu2, hq2⟩ := SlA.readG hx' hwf' (ts := 24) rfl h7 .i64
    obtain ⟨p3, hp3, hq3⟩ := Sl.readM hu2 hwf' (ts := 23) rfl h8 .i64
    obtain ⟨p4, hp4, hq4⟩ := Sl.readM hl hwf' (ts := 23) rfl hxx .i64
    repeat (first | refine kthenP.n ?_ | refine kthenP.r ?_ | refine kthenP.e ?_ | refine kblockP.n ?_ | refine kblockP.r ?_ | refine kblockP.e ?_ | refine kblockP.o rfl ?_ | refine Runs.seq ?_ | refine Runs.region ?_ | refine Runs.block ?_ | refine Runs.cond ?_ | refine Runs.skip ?_ | refine Runs.loop ?_ | refine Runs.exit ?_ | refine Runs.ret ?_)
    refine PG.start _ rfl rfl ?_
    refine PG.take (by decide +kernel) rfl rfl rfl rfl ?_
    refine PG.take (by decide +kernel) rfl rfl rfl rfl ?_
    refine PG.take (by decide +kernel) rfl rfl rfl rfl ?_
    refine PG.take (by decide +kernel) rfl rfl rfl rfl ?_
    refine PG.load (by decide +kernel) rfl rfl rfl rfl rfl (by first | assumption | exact cload_of (by assumption) rfl) ?_
    refine PG.take (by decide +kernel) rfl rfl rfl rfl ?_
    refine PG.take (by decide +kernel) rfl rfl rfl rfl ?_
    refine PG.take (by decide +kernel) rfl rfl rfl (cbin_inc (T := tab) (h := h') (t := 3) (xo := .tmp 28) (yo := .const (.int .i64 1)) (by omega)) ?_
    refine PG.take (by decide +kernel) rfl rfl rfl (hp1) ?_
    refine PG.take (by decide +kernel) rfl rfl rfl (hq1 _ (Gr.refl _)) ?_
    refine PG.take (by decide +kernel) rfl rfl rfl (hp2) ?_
    refine PG.take (by decide +kernel) rfl rfl rfl (hq2 _ (Gr.refl _)) ?_
    refine PG.take (by decide +kernel) rfl rfl rfl rfl ?_
    refine PG.take (by decide +kernel) rfl rfl rfl rfl ?_
    refine PG.take (by decide +kernel) rfl rfl rfl (hp4) ?_
    refine PG.take (by decide +kernel) rfl rfl rfl (hq4 _ (Gr.refl _)) ?_
    refine PG.take (by decide +kernel) rfl rfl rfl (hp3) ?_
    refine PG.take (by decide +kernel) rfl rfl rfl (hq3 _ (Gr.refl _)) ?_
    refine PG.take (by decide +kernel) rfl rfl rfl (indexAddr_one (T := tab) (t := 23) (el := 3) (k := .i64) (i := j) (len := l.length + 1) (b := bs) (o := 0) (c := l.length + 1) rfl rfl (show j < l.length + 1 by omega)) ?_
    repeat refine PG.skip (by decide +kernel) ?_
    refine PG.nil ?_
    refine pd1.store (cs' := (rowM (rst t.right.next l) l.length (j + 1)).set j (.int .i64 (stepTo t.right.next (rst t.right.next l (l.length - (j + 1))) k : Int))) 19 rfl (by kernel_rfl) rfl rfl rfl rfl rfl hcs rfl rfl rfl (by rw [Nat.zero_add]; exact lsplice_one _ _ _ (by rw [rowM_length]; omega)) hwf' fun h9 hwf9 u9 hc9 => ?_
    refine ⟨_, by (repeat (first | exact Reck.nil | (apply Reck.dropI; decide +kernel) | (apply Reck.keep; rfl) | (apply Reck.load; rfl; rfl; first | assumption | exact cload_of (by assumption) rfl) | (apply Reck.same; rfl))), ?_⟩
    repeat (first | refine PG.skip (by decide +kernel) ?_ | refine PG.take (by decide +kernel) rfl rfl rfl rfl ?_ | refine PG.load (by decide +kernel) rfl rfl rfl rfl rfl (by first | assumption | exact cload_of (by assumption) rfl) ?_ | refine PG.drop (by decide +kernel) rfl rfl rfl ?_)
    refine PG.nil ?_
    refine pd1.fin (by kernel_rfl) (by kernel_rfl) ?_
    rw [← hst, rowM_step _ _ _ (by omega)] at hc9
    repeat (first | refine kthenP.n ?_ | refine kthenP.r ?_ | refine kthenP.e ?_ | refine kblockP.n ?_ | refine kblockP.r ?_ | refine kblockP.e ?_ | refine kblockP.o rfl ?_ | refine Runs.seq ?_ | refine Runs.region ?_ | refine Runs.block ?_ | refine Runs.cond ?_ | refine Runs.skip ?_ | refine Runs.loop ?_ | refine Runs.exit ?_ | refine Runs.ret ?_)
    refine pops.fl rfl rfl rfl rfl rfl ?_
    refine pops.bin rfl rfl rfl rfl rfl rfl (cbin_dec1 (by omega)) ?_
    refine pops.fl rfl rfl rfl rfl rfl ?_
    refine pops.nil ?_
    exact .n ⟨_, j, rfl, ⟨rfl, rfl, rfl, rfl, trivial⟩, Nat.lt_succ_self j, by omega, g2.upd hbs u9, hc9⟩
  · have : m = 0 := by omega
    subst this
    repeat (first | refine kthenP.n ?_ | refine kthenP.r ?_ | refine kthenP.e ?_ | refine kblockP.n ?_ | refine kblockP.r ?_ | refine kblockP.e ?_ | refine kblockP.o rfl ?_ | refine Runs.seq ?_ | refine Runs.region ?_ | refine Runs.block ?_ | refine Runs.cond ?_ | refine Runs.skip ?_ | refine Runs.loop ?_ | refine Runs.exit ?_ | refine Runs.ret ?_)
    repeat (first | refine pops.bin rfl rfl rfl rfl rfl rfl (cbin_inc (by omega)) ?_ | refine pops.fl rfl rfl rfl rfl rfl ?_ | refine pops.skip rfl rfl rfl ?_ | refine pops.load rfl rfl rfl rfl rfl (by first | assumption | exact cload_of (by assumption) rfl) ?_ | refine pops.len rfl rfl rfl rfl rfl rfl rfl rfl (by first | exact SlA.len (by assumption) rfl | exact SlI.len (by assumption) rfl | exact SlS.len (by assumption) rfl | exact Sl.len (by assumption) rfl) ?_)
    refine pops.nil ?_
    repeat (first | refine kthenP.n ?_ | refine kthenP.r ?_ | refine kthenP.e ?_ | refine kblockP.n ?_ | refine kblockP.r ?_ | refine kblockP.e ?_ | refine kblockP.o rfl ?_ | refine Runs.seq ?_ | refine Runs.region ?_ | refine Runs.block ?_ | refine Runs.cond ?_ | refine Runs.skip ?_ | refine Runs.loop ?_ | refine Runs.exit ?_ | refine Runs.ret ?_)
    refine pleave.r rfl ?_
    refine ⟨⟨_, rfl, ?_⟩, g02.trans g2⟩
    rw [rightS_row] at hcs
    exact Sl.one hcs rfl rfl rfl (by simp [rightS]; omega) (by simp [rightS])
end Go.Proofs.YtcenphnkcifbhaaGreatDoor

set_option maxRecDepth 100000
set_option linter.unusedVariables false
set_option linter.unusedSimpArgs false
namespace Go.Proofs.YtcenphnkcifbhaaGreatDoor
open Go.Cx
variable {w : World} {h : CH}
theorem fn_lawStates : tab.fn 3 = some Tryz.f3 := by kernel_rfl
theorem lawStates_calls {v vl : Value} {t : TabD} {l : List Int} (hv : TabV tab ks h v t) (hl : SlI tab ks.int h vl l) (hlen : TextsLt t.classes) : CalF (X w) 3 [v, vl] h fun r h' => r = .ret (.bool true) := by
  refine CalF.wf fun hwf => ?_
  have hV := hv
  obtain ⟨c, a, x, y, x', y', rfl, ho, hcl, hac, hx, hy, hx', hy'⟩ := hv
  clear hcl hac hx hy hx' hy'
  simp only [Bool.and_eq_true] at ho
  refine CalF.intro fn_lawStates rfl (Nat.le_of_ble_eq_true rfl) ?_
  repeat (first | refine kthenP.n ?_ | refine kthenP.r ?_ | refine kthenP.e ?_ | refine kblockP.n ?_ | refine kblockP.r ?_ | refine kblockP.e ?_ | refine kblockP.o rfl ?_ | refine Runs.seq ?_ | refine Runs.region ?_ | refine Runs.block ?_ | refine Runs.cond ?_ | refine Runs.skip ?_ | refine Runs.loop ?_ | refine Runs.exit ?_ | refine Runs.ret ?_)
  refine pops.box (cs := [c, a, x, y, x', y']) rfl rfl rfl rfl (by simp [ho]) rfl rfl hwf fun b h1 hb hwf1 g1 hc => ?_
  replace hV := hV.gr hwf g1
  replace hl := Sl.gr hl hwf g1
  refine pops.fl rfl rfl rfl rfl rfl ?_
  refine pops.nil ?_
  repeat (first | refine kthenP.n ?_ | refine kthenP.r ?_ | refine kthenP.e ?_ | refine kblockP.n ?_ | refine kblockP.r ?_ | refine kblockP.e ?_ | refine kblockP.o rfl ?_ | refine Runs.seq ?_ | refine Runs.region ?_ | refine Runs.block ?_ | refine Runs.cond ?_ | refine Runs.skip ?_ | refine Runs.loop ?_ | refine Runs.exit ?_ | refine Runs.ret ?_)
  repeat (first | refine pops.bin rfl rfl rfl rfl rfl rfl (cbin_inc (by omega)) ?_ | refine pops.fl rfl rfl rfl rfl rfl ?_ | refine pops.skip rfl rfl rfl ?_ | refine pops.load rfl rfl rfl rfl rfl (by first | assumption | exact cload_of (by assumption) rfl) ?_ | refine pops.len rfl rfl rfl rfl rfl rfl rfl rfl (by first | exact SlA.len (by assumption) rfl | exact SlI.len (by assumption) rfl | exact SlS.len (by assumption) rfl | exact Sl.len (by assumption) rfl) ?_)
  refine pops.callG rfl rfl rfl rfl rfl fn_few rfl rfl rfl (few_calls hV hl) fun h2 hwf2 g2 => ?_
  replace hc := g2.at hwf1 hc
  replace hV := hV.gr hwf1 g2
  replace hl := Sl.gr hl hwf1 g2
  cases hf : fewB t l with
  | false =>
    repeat (first | refine pops.bin rfl rfl rfl rfl rfl rfl (cbin_inc (by omega)) ?_ | refine pops.fl rfl rfl rfl rfl rfl ?_ | refine pops.skip rfl rfl rfl ?_ | refine pops.load rfl rfl rfl rfl rfl (by first | assumption | exact cload_of (by assumption) rfl) ?_ | refine pops.len rfl rfl rfl rfl rfl rfl rfl rfl (by first | exact SlA.len (by assumption) rfl | exact SlI.len (by assumption) rfl | exact SlS.len (by assumption) rfl | exact Sl.len (by assumption) rfl) ?_)
    refine pops.nil ?_
    repeat (first | refine kthenP.n ?_ | refine kthenP.r ?_ | refine kthenP.e ?_ | refine kblockP.n ?_ | refine kblockP.r ?_ | refine kblockP.e ?_ | refine kblockP.o rfl ?_ | refine Runs.seq ?_ | refine Runs.region ?_ | refine Runs.block ?_ | refine Runs.cond ?_ | refine Runs.skip ?_ | refine Runs.loop ?_ | refine Runs.exit ?_ | refine Runs.ret ?_)
    refine pcond.t rfl ?_
    repeat (first | refine kthenP.n ?_ | refine kthenP.r ?_ | refine kthenP.e ?_ | refine kblockP.n ?_ | refine kblockP.r ?_ | refine kblockP.e ?_ | refine kblockP.o rfl ?_ | refine Runs.seq ?_ | refine Runs.region ?_ | refine Runs.block ?_ | refine Runs.cond ?_ | refine Runs.skip ?_ | refine Runs.loop ?_ | refine Runs.exit ?_ | refine Runs.ret ?_)
    refine pops.callG rfl rfl rfl rfl rfl fn_alive rfl rfl rfl alive_calls fun h3 hwf3 g3 => ?_
    repeat (first | refine pops.bin rfl rfl rfl rfl rfl rfl (cbin_inc (by omega)) ?_ | refine pops.fl rfl rfl rfl rfl rfl ?_ | refine pops.skip rfl rfl rfl ?_ | refine pops.load rfl rfl rfl rfl rfl (by first | assumption | exact cload_of (by assumption) rfl) ?_ | refine pops.len rfl rfl rfl rfl rfl rfl rfl rfl (by first | exact SlA.len (by assumption) rfl | exact SlI.len (by assumption) rfl | exact SlS.len (by assumption) rfl | exact Sl.len (by assumption) rfl) ?_)
    refine pops.nil ?_
    repeat (first | refine kthenP.n ?_ | refine kthenP.r ?_ | refine kthenP.e ?_ | refine kblockP.n ?_ | refine kblockP.r ?_ | refine kblockP.e ?_ | refine kblockP.o rfl ?_ | refine Runs.seq ?_ | refine Runs.region ?_ | refine Runs.block ?_ | refine Runs.cond ?_ | refine Runs.skip ?_ | refine Runs.loop ?_ | refine Runs.exit ?_ | refine Runs.ret ?_)
    refine pleave.r rfl ?_
    rfl
  | true =>
  have hll : l.length ≤ 1000 := by
    unfold fewB at hf
    simp at hf
    omega
  repeat (first | refine pops.bin rfl rfl rfl rfl rfl rfl (cbin_inc (by omega)) ?_ | refine pops.fl rfl rfl rfl rfl rfl ?_ | refine pops.skip rfl rfl rfl ?_ | refine pops.load rfl rfl rfl rfl rfl (by first | assumption | exact cload_of (by assumption) rfl) ?_ | refine pops.len rfl rfl rfl rfl rfl rfl rfl rfl (by first | exact SlA.len (by assumption) rfl | exact SlI.len (by assumption) rfl | exact SlS.len (by assumption) rfl | exact Sl.len (by assumption) rfl) ?_)
  refine pops.nil ?_
  repeat (first | refine kthenP.n ?_ | refine kthenP.r ?_ | refine kthenP.e ?_ | refine kblockP.n ?_ | refine kblockP.r ?_ | refine kblockP.e ?_ | refine kblockP.o rfl ?_ | refine Runs.seq ?_ | refine Runs.region ?_ | refine Runs.block ?_ | refine Runs.cond ?_ | refine Runs.skip ?_ | refine Runs.loop ?_ | refine Runs.exit ?_ | refine Runs.ret ?_)
  refine pcond.f rfl ?_
  repeat (first | refine kthenP.n ?_ | refine kthenP.r ?_ | refine kthenP.e ?_ | refine kblockP.n ?_ | refine kblockP.r ?_ | refine kblockP.e ?_ | refine kblockP.o rfl ?_ | refine Runs.seq ?_ | refine Runs.region ?_ | refine Runs.block ?_ | refine Runs.cond ?_ | refine Runs.skip ?_ | refine Runs.loop ?_ | refine Runs.exit ?_ | refine Runs.ret ?_)
  refine PG.start _ rfl rfl ?_
  repeat (first | refine PG.skip (by decide +kernel) ?_ | refine PG.take (by decide +kernel) rfl rfl rfl rfl ?_ | refine PG.load (by decide +kernel) rfl rfl rfl rfl rfl (by first | assumption | exact cload_of (by assumption) rfl) ?_ | refine PG.drop (by decide +kernel) rfl rfl rfl ?_)
  refine PG.nil ?_
  refine pd1.callR 2 rfl (by kernel_rfl) rfl rfl rfl rfl rfl fn_Left rfl rfl rfl ((Left_calls hV hl hlen hll).monoW fun r h3 hwf3 hh => ?_)
  obtain ⟨⟨u1, rfl, hu1⟩, g3⟩ := hh
  replace hc := g3.at hwf2 hc
  replace hV := hV.gr hwf2 g3
  replace hl := Sl.gr hl hwf2 g3
  refine ⟨u1, rfl, _, by (repeat (first | exact Reck.nil | (apply Reck.dropI; decide +kernel) | (apply Reck.keep; rfl) | (apply Reck.load; rfl; rfl; first | assumption | exact cload_of (by assumption) rfl) | (apply Reck.same; rfl))), ?_⟩
  repeat (first | refine PG.skip (by decide +kernel) ?_ | refine PG.take (by decide +kernel) rfl rfl rfl rfl ?_ | refine PG.load (by decide +kernel) rfl rfl rfl rfl rfl (by first | assumption | exact cload_of (by assumption) rfl) ?_ | refine PG.drop (by decide +kernel) rfl rfl rfl ?_)
  refine PG.nil ?_
  refine pd1.callR 5 rfl (by kernel_rfl) rfl rfl rfl rfl rfl fn_refLeft rfl rfl rfl ((refLeft_calls hV hl hlen hll).monoW fun r h4 hwf4 hh => ?_)
  obtain ⟨⟨u2, rfl, hu2⟩, g4⟩ := hh
  replace hc := g4.at hwf3 hc
  replace hV := hV.gr hwf3 g4
  replace hl := Sl.gr hl hwf3 g4
  refine ⟨u2, rfl, _, by (repeat (first | exact Reck.nil | (apply Reck.dropI; decide +kernel) | (apply Reck.keep; rfl) | (apply Reck.load; rfl; rfl; first | assumption | exact cload_of (by assumption) rfl) | (apply Reck.same; rfl))), ?_⟩
  repeat (first | refine PG.skip (by decide +kernel) ?_ | refine PG.take (by decide +kernel) rfl rfl rfl rfl ?_ | refine PG.load (by decide +kernel) rfl rfl rfl rfl rfl (by first | assumption | exact cload_of (by assumption) rfl) ?_ | refine PG.drop (by decide +kernel) rfl rfl rfl ?_)
  refine PG.nil ?_
  refine pd1.callG 6 rfl (by kernel_rfl) rfl rfl rfl rfl rfl fn_equal rfl rfl rfl (equal_calls (Sl.gr hu1 hwf3 g4) hu2) fun h5 hwf5 g5 => ?_
  rw [decide_eq_true rfl]
  replace hc := g5.at hwf4 hc
  replace hV := hV.gr hwf4 g5
  replace hl := Sl.gr hl hwf4 g5
  refine ⟨_, by (repeat (first | exact Reck.nil | (apply Reck.dropI; decide +kernel) | (apply Reck.keep; rfl) | (apply Reck.load; rfl; rfl; first | assumption | exact cload_of (by assumption) rfl) | (apply Reck.same; rfl))), ?_⟩
  repeat (first | refine PG.skip (by decide +kernel) ?_ | refine PG.take (by decide +kernel) rfl rfl rfl rfl ?_ | refine PG.load (by decide +kernel) rfl rfl rfl rfl rfl (by first | assumption | exact cload_of (by assumption) rfl) ?_ | refine PG.drop (by decide +kernel) rfl rfl rfl ?_)
  refine PG.nil ?_
  refine pd1.callR 10 rfl (by kernel_rfl) rfl rfl rfl rfl rfl fn_Right rfl rfl rfl ((Right_calls hV hl hlen hll).monoW fun r h6 hwf6 hh => ?_)
  obtain ⟨⟨u3, rfl, hu3⟩, g6⟩ := hh
  replace hc := g6.at hwf5 hc
  replace hV := hV.gr hwf5 g6
  replace hl := Sl.gr hl hwf5 g6
  refine ⟨u3, rfl, _, by (repeat (first | exact Reck.nil | (apply Reck.dropI; decide +kernel) | (apply Reck.keep; rfl) | (apply Reck.load; rfl; rfl; first | assumption | exact cload_of (by assumption) rfl) | (apply Reck.same; rfl))), ?_⟩
  repeat (first | refine PG.skip (by decide +kernel) ?_ | refine PG.take (by decide +kernel) rfl rfl rfl rfl ?_ | refine PG.load (by decide +kernel) rfl rfl rfl rfl rfl (by first | assumption | exact cload_of (by assumption) rfl) ?_ | refine PG.drop (by decide +kernel) rfl rfl rfl ?_)
  refine PG.nil ?_
  refine pd1.callR 13 rfl (by kernel_rfl) rfl rfl rfl rfl rfl fn_refRight rfl rfl rfl ((refRight_calls hV hl hlen hll).monoW fun r h7 hwf7 hh => ?_)
  obtain ⟨⟨u4, rfl, hu4⟩, g7⟩ := hh
  replace hc := g7.at hwf6 hc
  refine ⟨u4, rfl, _, by (repeat (first | exact Reck.nil | (apply Reck.dropI; decide +kernel) | (apply Reck.keep; rfl) | (apply Reck.load; rfl; rfl; first | assumption | exact cload_of (by assumption) rfl) | (apply Reck.same; rfl))), ?_⟩
  repeat (first | refine PG.skip (by decide +kernel) ?_ | refine PG.take (by decide +kernel) rfl rfl rfl rfl ?_ | refine PG.load (by decide +kernel) rfl rfl rfl rfl rfl (by first | assumption | exact cload_of (by assumption) rfl) ?_ | refine PG.drop (by decide +kernel) rfl rfl rfl ?_)
  refine PG.nil ?_
  refine pd1.callG 14 rfl (by kernel_rfl) rfl rfl rfl rfl rfl fn_equal rfl rfl rfl (equal_calls (Sl.gr hu3 hwf6 g7) hu4) fun h8 hwf8 g8 => ?_
  rw [decide_eq_true rfl]
  replace hc := g8.at hwf7 hc
  refine ⟨_, by (repeat (first | exact Reck.nil | (apply Reck.dropI; decide +kernel) | (apply Reck.keep; rfl) | (apply Reck.load; rfl; rfl; first | assumption | exact cload_of (by assumption) rfl) | (apply Reck.same; rfl))), ?_⟩
  repeat (first | refine PG.skip (by decide +kernel) ?_ | refine PG.take (by decide +kernel) rfl rfl rfl rfl ?_ | refine PG.load (by decide +kernel) rfl rfl rfl rfl rfl (by first | assumption | exact cload_of (by assumption) rfl) ?_ | refine PG.drop (by decide +kernel) rfl rfl rfl ?_)
  refine PG.nil ?_
  refine pd1.callG 17 rfl (by kernel_rfl) rfl rfl rfl rfl rfl fn_alive rfl rfl rfl alive_calls fun h9 hwf9 g9 => ?_
  replace hc := g9.at hwf8 hc
  refine ⟨_, by (repeat (first | exact Reck.nil | (apply Reck.dropI; decide +kernel) | (apply Reck.keep; rfl) | (apply Reck.load; rfl; rfl; first | assumption | exact cload_of (by assumption) rfl) | (apply Reck.same; rfl))), ?_⟩
  repeat (first | refine PG.skip (by decide +kernel) ?_ | refine PG.take (by decide +kernel) rfl rfl rfl rfl ?_ | refine PG.load (by decide +kernel) rfl rfl rfl rfl rfl (by first | assumption | exact cload_of (by assumption) rfl) ?_ | refine PG.drop (by decide +kernel) rfl rfl rfl ?_)
  refine PG.nil ?_
  refine pd1.fin (by kernel_rfl) (by kernel_rfl) ?_
  repeat (first | refine kthenP.n ?_ | refine kthenP.r ?_ | refine kthenP.e ?_ | refine kblockP.n ?_ | refine kblockP.r ?_ | refine kblockP.e ?_ | refine kblockP.o rfl ?_ | refine Runs.seq ?_ | refine Runs.region ?_ | refine Runs.block ?_ | refine Runs.cond ?_ | refine Runs.skip ?_ | refine Runs.loop ?_ | refine Runs.exit ?_ | refine Runs.ret ?_)
  refine pleave.r rfl ?_
  rfl
end Go.Proofs.YtcenphnkcifbhaaGreatDoor

set_option maxRecDepth 100000
set_option linter.unusedVariables false
set_option linter.unusedSimpArgs false
namespace Go.Proofs.YtcenphnkcifbhaaGreatDoor
open Go.Cx
open Go.ChangeShapes Go.WideShapes Go.ChangeAt Go.RowKit
namespace of_BreakautoStates
theorem own : ownKnob Tryz.prog.godebug = none := by kernel_rfl
theorem kids : Kids Tryz.prog (· < Tryz.prog.types.size) := kids_rows (by kernel_rfl) (by kernel_rfl)
theorem full : ∀ t e, t < Tryz.prog.types.size → Tryz.prog.underlying t = some (.slice e) → 0 < Tryz.prog.cellsOf e := slices_full_of Tryz.prog (by kernel_rfl)
theorem tys : TabTys tab ks 28 26 22 24 :=
  ⟨⟨_, rfl, rfl⟩, ⟨_, rfl, rfl⟩, rfl, rfl, rfl, rfl, rfl, rfl, rfl, rfl⟩
/-- Cells of a list of numbers. -/
def cellsD : DataW Unit → Array Value
  | .agg l => (l.map fun x => match x with
    | .lit (.int k n) => Value.int k n
    | _ => Value.nilFunc).toArray
  | _ => #[]
def layCells (d : DataW Unit) : Obj → Obj
  | .cells _ t frozen => .cells (cellsD d) t frozen
  | o => o
/-- A world in which the listed variables hold what their text lays. -/
noncomputable def laidWorld (os : Os) : World :=
  { World.holding Tryz.prog os ⟨#[], #[], []⟩ with heap := (((World.holding Tryz.prog os ⟨#[], #[], []⟩).heap.modify 0 (layCells Rows.laid_internal_strconv_uint64pow10)).modify 1 (layCells Rows.laid_math_bits_deBruijn32tab)).modify 2 (layCells Rows.laid_math_bits_deBruijn64tab) }
def nilTable : Value := .agg #[.slice none 0 0, .slice none 0 0, .slice none 0 0, .slice none 0 0, .slice none 0 0, .slice none 0 0]
def nilTableD {H : Type} : DataW H := .agg [.nil, .nil, .agg [.nil, .nil], .agg [.nil, .nil]]
theorem typed : ∀ t ∈ Tryz.f3.params.toList, tyOk tab 6 t = true := by
  rw [Tryz.params3]
  intro t ht
  have : t ∈ ([28, 23] : List Nat) := ht
  simp only [List.mem_cons, List.not_mem_nil, or_false] at this
  rcases this with rfl | rfl
  · exact (show tyOk tab 6 28 = true by kernel_rfl)
  · exact (show tyOk tab 6 23 = true by kernel_rfl)
theorem contract (H : Type) (enc : TypeId × Value → H) (W : World) (base : Nat) (args : Array Value) (ds gs : List (DataW H)) (before : List MemPlace)
    (hval : ∀ (j : Nat) t v, Tryz.f3.params[j]? = some t → args[j]? = some v → Value.okWide Tryz.prog W .any base t v)
    (hW : DataW.Whole enc Tryz.prog Tryz.f3.params.toList Rows.breakautoStatesSpec.vars false W args.toList ds gs before) :
    Calls Tryz.prog 3 args W fun e W' => ∃ v, e = .returned v ∧ Rows.breakautoStatesSpec.post enc Tryz.prog Tryz.f3 false true false false W args v W' := by
  have hW' := hW
  obtain ⟨p, q, hA, hV, rfl, hfz, hnd⟩ := hW
  have hA1 : DataW.TrodAll enc Tryz.prog W 0 (fun _ => true) true [28, 23] args.toList ds p := by
    have := hA
    rw [Tryz.params3] at this
    exact this
  obtain ⟨v0, vs0, d0, ds0, p0, q0, hargs0, rfl, rfl, h0, r0⟩ := trodAll_cons hA1
  obtain ⟨v1, vs1, d1, ds1, p1, q1, hargs1, rfl, rfl, h1, r1⟩ := trodAll_cons r0
  obtain ⟨rfl, rfl, rfl⟩ := trodAll_nil r1
  rw [Tryz.params3] at hval
  have hargs : args = #[v0, v1] := by cases args; simp_all
  subst hargs
  refine (law_calls (f := 3) tab_ok typed hA fun h cvs hh => ?_).mono fun e W' ⟨he, hb⟩ => ⟨_, he, post_law hW' rfl rfl rfl Tryz.underlying4 kids full (by rw [Tryz.params3]; decide) hb⟩
  rw [Tryz.params3] at hh
  match cvs, hh with
  | [c0, c1], ⟨⟨e0, n0⟩, ⟨⟨e1, n1⟩, _⟩⟩ =>
    obtain ⟨t, ht, hlen⟩ := tab_of tys e0
    obtain ⟨l, hl⟩ := ints_arg (t := 23) (el := 3) rfl rfl rfl (n1 (notAgg_slice Tryz.underlying23 (hval 1 _ _ rfl rfl))) e1
    exact lawStates_calls ht hl hlen
theorem laid_met (os : Os) : laidMet Tryz.prog Rows.breakautoStatesRow.laid ((laidWorld os).forCall (fun _ _ => 0) ⟨#[], #[nilTable, .slice none 0 0], []⟩).memory :=
  laidMet_of_run' 8 (by kernel_rfl) (by kernel_rfl)
theorem reads (os : Os) {H : Type} (enc : TypeId × Value → H) : ∃ places, DataW.whole enc Tryz.prog ((laidWorld os).forCall (fun _ _ => 0) ⟨#[], #[nilTable, .slice none 0 0], []⟩).memory Tryz.f3.params.toList Rows.breakautoStatesSpec.vars false (#[nilTable, .slice none 0 0] : Array Value).toList 8 = some ([nilTableD, .nil], [], places) :=
  ⟨[], by kernel_rfl⟩
theorem lifted (os : Os) (started : os.Started) (H : Type) (enc : TypeId × Value → H) (F : Stop.Interp) :
    ReturnsInHanded {} Tryz.checked os 3 .any ((OpenSpec.ofChange Rows.breakautoStatesSpec).preRow enc Tryz.prog Tryz.f3 Rows.breakautoStatesRow.domain false Rows.breakautoStatesRow.laid) (((OpenSpec.ofChange Rows.breakautoStatesSpec).at F).post enc Tryz.prog Tryz.f3 false true false false) := by
  obtain ⟨places, hx⟩ := reads os enc
  refine returnsInHanded_of_row (C := Tryz.checked) (s := OpenSpec.ofChange Rows.breakautoStatesSpec) own started (by kernel_rfl) Tryz.func3
    (witness_row_at (enc := enc) (C := Tryz.checked) false (laidWorld os) #[nilTable, .slice none 0 0] rfl (by kernel_rfl) (by kernel_rfl) (by kernel_rfl)
      (OpenSpec.preRow_of_cond 8 hx (by kernel_rfl) (fun k hk => by cases hk) (by kernel_rfl) (laid_met os))) ?_
  intro W base args ds gs before hval hW _ _ _ hL _ _
  exact contract H enc W base args ds gs before hval hW
theorem said : Rows.BreakautoStatesSaid :=
  OpenClaim.holds_of_cond 3 Tryz.f3 rfl rfl rfl rfl rfl rfl rfl ⟨rfl, rfl, rfl, rfl, rfl⟩ rfl rfl rfl rfl rfl (by kernel_rfl) Tryz.func3 (by kernel_rfl)
    (of_decide_eq_true (by kernel_rfl)) (by unfold Func.isWrapper; first | (rw [if_pos (by decide +kernel)]; kernel_rfl) | (rw [if_neg (by decide +kernel)]; exact ⟨rfl, rfl⟩))
    (fun os started H enc _ F => by rw [OpenClaim.pre_eq_preRow]; exact lifted os started H enc F)
theorem plain (f : FuncId) (fn : Func) (hf : Tryz.pinned.checked.prog.funcNamed "unicodetext/unicodetextlaw29.BreakautoStates" = some f) (hfn : Tryz.pinned.checked.prog.funcs[f]? = some fn) :
    false = Tryz.pinned.checked.prog.looks [] ∧ ∀ (j : Nat) t, fn.params[j]? = some t → Tryz.pinned.checked.prog.wantsStandIn t = false := by
  obtain rfl : f = 3 := Option.some.inj ((show Tryz.prog.funcNamed "unicodetext/unicodetextlaw29.BreakautoStates" = some 3 by kernel_rfl).symm.trans hf) |>.symm
  obtain rfl : fn = Tryz.f3 := (Option.some.inj (Tryz.func3.symm.trans hfn)).symm
  refine ⟨by kernel_rfl, fun j t ht => ?_⟩
  have hm : t ∈ ([28, 23] : List Nat) := by
    have := Array.mem_of_getElem? ht
    rw [Tryz.params3] at this
    simpa using this
  simp only [List.mem_cons, List.not_mem_nil, or_false] at hm
  rcases hm with rfl | rfl
  · exact (show Tryz.prog.wantsStandIn 28 = false by kernel_rfl)
  · exact (show Tryz.prog.wantsStandIn 23 = false by kernel_rfl)
end of_BreakautoStates
/-- THE CARD of 'BreakautoStates'. -/
theorem breakautoStates_card : Rows.BreakautoStatesCardSaid :=
  Claim7.holds_tied_plain_at .later [] _ _ _ _ of_BreakautoStates.said (fun _ h => by cases h) (by kernel_rfl) (fun _ h => by cases h) breakautoStates_row_tie rfl ⟨rfl, rfl⟩ (by kernel_rfl) rfl of_BreakautoStates.plain (by kernel_rfl)
end Go.Proofs.YtcenphnkcifbhaaGreatDoor
