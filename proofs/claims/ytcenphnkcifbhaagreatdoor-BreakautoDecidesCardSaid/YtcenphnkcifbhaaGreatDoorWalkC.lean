/- Walks through the functions that the statement reaches, and the statement. Conditions: none. -/
import Derived.Test.YtcenphnkcifbhaaGreatDoorWalkB
import Derived.Test.YtcenphnkcifbhaaGreatDoorCxE
import Derived.Test.YtcenphnkcifbhaaGreatDoorCards
import Derived.Test.YtcenphnkcifbhaaGreatDoorTie
import Derived.WalkKit
import Derived.ProofKit
import Derived.OpenShut
import Derived.Deep.DeepHandedRow
set_option maxRecDepth 100000
set_option linter.unusedVariables false
set_option linter.unusedSimpArgs false
namespace Go.Proofs.YtcenphnkcifbhaaGreatDoor
open Go.Cx
variable {w : World} {h : CH}
theorem fn_index : tab.fn 51 = some Tryz.f51 := by kernel_rfl
theorem index_calls {v : Value} {l : List Int} (q : Int) (hv : SlI tab ks.int h v l) :
    CalF (X w) 51 [v, .int .i64 q] h fun r h' => (∃ i : Nat, r = .ret (.int .i64 (i : Int)) ∧ q ∈ l ∨ r = .ret (.int .i64 (-1)) ∧ q ∉ l) ∧ Gr h h' := by
  refine CalF.wf fun hwf => ?_
  have hlt := hv.lt
  refine CalF.intro fn_index rfl (Nat.le_of_ble_eq_true rfl) ?_
  repeat (first | refine kthenP.n ?_ | refine kthenP.r ?_ | refine kthenP.e ?_ | refine kblockP.n ?_ | refine kblockP.r ?_ | refine kblockP.e ?_ | refine kblockP.o rfl ?_ | refine Runs.seq ?_ | refine Runs.region ?_ | refine Runs.block ?_ | refine Runs.cond ?_ | refine Runs.skip ?_ | refine Runs.loop ?_ | refine Runs.exit ?_ | refine Runs.ret ?_)
  repeat (first | refine pops.bin rfl rfl rfl rfl rfl rfl (cbin_inc (by omega)) ?_ | refine pops.fl rfl rfl rfl rfl rfl ?_ | refine pops.skip rfl rfl rfl ?_ | refine pops.load rfl rfl rfl rfl rfl (by first | assumption | exact cload_of (by assumption) rfl) ?_ | refine pops.len rfl rfl rfl rfl rfl rfl rfl rfl (by first | exact SlA.len (by assumption) rfl | exact SlI.len (by assumption) rfl | exact SlS.len (by assumption) rfl | exact Sl.len (by assumption) rfl) ?_)
  refine pops.nil ?_
  repeat (first | refine kthenP.n ?_ | refine kthenP.r ?_ | refine kthenP.e ?_ | refine kblockP.n ?_ | refine kblockP.r ?_ | refine kblockP.e ?_ | refine kblockP.o rfl ?_ | refine Runs.seq ?_ | refine Runs.region ?_ | refine Runs.block ?_ | refine Runs.cond ?_ | refine Runs.skip ?_ | refine Runs.loop ?_ | refine Runs.exit ?_ | refine Runs.ret ?_)
  repeat (first | refine pops.bin rfl rfl rfl rfl rfl rfl (cbin_inc (by omega)) ?_ | refine pops.fl rfl rfl rfl rfl rfl ?_ | refine pops.skip rfl rfl rfl ?_ | refine pops.load rfl rfl rfl rfl rfl (by first | assumption | exact cload_of (by assumption) rfl) ?_ | refine pops.len rfl rfl rfl rfl rfl rfl rfl rfl (by first | exact SlA.len (by assumption) rfl | exact SlI.len (by assumption) rfl | exact SlS.len (by assumption) rfl | exact Sl.len (by assumption) rfl) ?_)
  refine pops.nil ?_
  repeat (first | refine kthenP.n ?_ | refine kthenP.r ?_ | refine kthenP.e ?_ | refine kblockP.n ?_ | refine kblockP.r ?_ | refine kblockP.e ?_ | refine kblockP.o rfl ?_ | refine Runs.seq ?_ | refine Runs.region ?_ | refine Runs.block ?_ | refine Runs.cond ?_ | refine Runs.skip ?_ | refine Runs.loop ?_ | refine Runs.exit ?_ | refine Runs.ret ?_)
  refine Loops.ind 5 (fun i : Nat => [(0, v), (1, .int .i64 q), (4, .int .i64 0), (7, .int .i64 (l.length : Nat)), (8, .int .i64 (i : Nat))]) (fun i h' => i ≤ l.length ∧ h' = h ∧ ∀ (j : Nat) x, j < i → l[j]? = some x → x ≠ q) (fun i => l.length - i) 0 (by decide) ⟨rfl, rfl, rfl, rfl, rfl, trivial⟩ ⟨Nat.zero_le _, rfl, all_none⟩ ?_
  rintro i z h' hwf' ⟨hi, rfl, hall⟩
  repeat (first | refine kthenP.n ?_ | refine kthenP.r ?_ | refine kthenP.e ?_ | refine kblockP.n ?_ | refine kblockP.r ?_ | refine kblockP.e ?_ | refine kblockP.o rfl ?_ | refine Runs.seq ?_ | refine Runs.region ?_ | refine Runs.block ?_ | refine Runs.cond ?_ | refine Runs.skip ?_ | refine Runs.loop ?_ | refine Runs.exit ?_ | refine Runs.ret ?_)
  refine pops.fl rfl rfl rfl rfl rfl ?_
  refine pops.nil ?_
  repeat (first | refine kthenP.n ?_ | refine kthenP.r ?_ | refine kthenP.e ?_ | refine kblockP.n ?_ | refine kblockP.r ?_ | refine kblockP.e ?_ | refine kblockP.o rfl ?_ | refine Runs.seq ?_ | refine Runs.region ?_ | refine Runs.block ?_ | refine Runs.cond ?_ | refine Runs.skip ?_ | refine Runs.loop ?_ | refine Runs.exit ?_ | refine Runs.ret ?_)
  refine pcond.d (p := (i : Int) < (l.length : Nat)) rfl (fun hlt' => ?_) (fun hge => ?_)
  · have hlt' : i < l.length := by omega
    obtain ⟨x, hx⟩ : ∃ x, l[i]? = some x := ⟨_, List.getElem?_eq_getElem hlt'⟩
    repeat (first | refine kthenP.n ?_ | refine kthenP.r ?_ | refine kthenP.e ?_ | refine kblockP.n ?_ | refine kblockP.r ?_ | refine kblockP.e ?_ | refine kblockP.o rfl ?_ | refine Runs.seq ?_ | refine Runs.region ?_ | refine Runs.block ?_ | refine Runs.cond ?_ | refine Runs.skip ?_ | refine Runs.loop ?_ | refine Runs.exit ?_ | refine Runs.ret ?_)
    repeat (first | refine pops.bin rfl rfl rfl rfl rfl rfl (cbin_inc (by omega)) ?_ | refine pops.fl rfl rfl rfl rfl rfl ?_ | refine pops.skip rfl rfl rfl ?_ | refine pops.load rfl rfl rfl rfl rfl (by first | assumption | exact cload_of (by assumption) rfl) ?_ | refine pops.len rfl rfl rfl rfl rfl rfl rfl rfl (by first | exact SlA.len (by assumption) rfl | exact SlI.len (by assumption) rfl | exact SlS.len (by assumption) rfl | exact Sl.len (by assumption) rfl) ?_)
    refine pops.nil ?_
    repeat (first | refine kthenP.n ?_ | refine kthenP.r ?_ | refine kthenP.e ?_ | refine kblockP.n ?_ | refine kblockP.r ?_ | refine kblockP.e ?_ | refine kblockP.o rfl ?_ | refine Runs.seq ?_ | refine Runs.region ?_ | refine Runs.block ?_ | refine Runs.cond ?_ | refine Runs.skip ?_ | refine Runs.loop ?_ | refine Runs.exit ?_ | refine Runs.ret ?_)
    repeat (first | refine pops.bin rfl rfl rfl rfl rfl rfl (cbin_inc (by omega)) ?_ | refine pops.fl rfl rfl rfl rfl rfl ?_ | refine pops.skip rfl rfl rfl ?_ | refine pops.load rfl rfl rfl rfl rfl (by first | assumption | exact cload_of (by assumption) rfl) ?_ | refine pops.len rfl rfl rfl rfl rfl rfl rfl rfl (by first | exact SlA.len (by assumption) rfl | exact SlI.len (by assumption) rfl | exact SlS.len (by assumption) rfl | exact Sl.len (by assumption) rfl) ?_)
    refine pops.atI (f := Value.int .i64) rfl rfl rfl rfl rfl rfl rfl hv hx fun p hp => ?_
    refine pops.load rfl rfl rfl rfl rfl (by first | assumption | exact cload_of (by assumption) rfl) ?_
    refine pops.cmp rfl rfl rfl rfl rfl (fun e => ?_) (fun e => ?_)
    · refine pops.nil ?_
      repeat (first | refine kthenP.n ?_ | refine kthenP.r ?_ | refine kthenP.e ?_ | refine kblockP.n ?_ | refine kblockP.r ?_ | refine kblockP.e ?_ | refine kblockP.o rfl ?_ | refine Runs.seq ?_ | refine Runs.region ?_ | refine Runs.block ?_ | refine Runs.cond ?_ | refine Runs.skip ?_ | refine Runs.loop ?_ | refine Runs.exit ?_ | refine Runs.ret ?_)
      refine pcond.t rfl ?_
      repeat (first | refine kthenP.n ?_ | refine kthenP.r ?_ | refine kthenP.e ?_ | refine kblockP.n ?_ | refine kblockP.r ?_ | refine kblockP.e ?_ | refine kblockP.o rfl ?_ | refine Runs.seq ?_ | refine Runs.region ?_ | refine Runs.block ?_ | refine Runs.cond ?_ | refine Runs.skip ?_ | refine Runs.loop ?_ | refine Runs.exit ?_ | refine Runs.ret ?_)
      repeat (first | refine pops.bin rfl rfl rfl rfl rfl rfl (cbin_inc (by omega)) ?_ | refine pops.fl rfl rfl rfl rfl rfl ?_ | refine pops.skip rfl rfl rfl ?_ | refine pops.load rfl rfl rfl rfl rfl (by first | assumption | exact cload_of (by assumption) rfl) ?_ | refine pops.len rfl rfl rfl rfl rfl rfl rfl rfl (by first | exact SlA.len (by assumption) rfl | exact SlI.len (by assumption) rfl | exact SlS.len (by assumption) rfl | exact Sl.len (by assumption) rfl) ?_)
      refine pops.nil ?_
      repeat (first | refine kthenP.n ?_ | refine kthenP.r ?_ | refine kthenP.e ?_ | refine kblockP.n ?_ | refine kblockP.r ?_ | refine kblockP.e ?_ | refine kblockP.o rfl ?_ | refine Runs.seq ?_ | refine Runs.region ?_ | refine Runs.block ?_ | refine Runs.cond ?_ | refine Runs.skip ?_ | refine Runs.loop ?_ | refine Runs.exit ?_ | refine Runs.ret ?_)
      refine pleave.r rfl ?_
      refine ⟨⟨i, .inl ⟨rfl, ?_⟩⟩, Gr.refl _⟩
      have : q = x := by simpa using e
      rw [this]
      exact List.mem_of_getElem? hx
    · refine pops.nil ?_
      repeat (first | refine kthenP.n ?_ | refine kthenP.r ?_ | refine kthenP.e ?_ | refine kblockP.n ?_ | refine kblockP.r ?_ | refine kblockP.e ?_ | refine kblockP.o rfl ?_ | refine Runs.seq ?_ | refine Runs.region ?_ | refine Runs.block ?_ | refine Runs.cond ?_ | refine Runs.skip ?_ | refine Runs.loop ?_ | refine Runs.exit ?_ | refine Runs.ret ?_)
      refine pcond.f rfl ?_
      repeat (first | refine kthenP.n ?_ | refine kthenP.r ?_ | refine kthenP.e ?_ | refine kblockP.n ?_ | refine kblockP.r ?_ | refine kblockP.e ?_ | refine kblockP.o rfl ?_ | refine Runs.seq ?_ | refine Runs.region ?_ | refine Runs.block ?_ | refine Runs.cond ?_ | refine Runs.skip ?_ | refine Runs.loop ?_ | refine Runs.exit ?_ | refine Runs.ret ?_)
      repeat (first | refine pops.bin rfl rfl rfl rfl rfl rfl (cbin_inc (by omega)) ?_ | refine pops.fl rfl rfl rfl rfl rfl ?_ | refine pops.skip rfl rfl rfl ?_ | refine pops.load rfl rfl rfl rfl rfl (by first | assumption | exact cload_of (by assumption) rfl) ?_ | refine pops.len rfl rfl rfl rfl rfl rfl rfl rfl (by first | exact SlA.len (by assumption) rfl | exact SlI.len (by assumption) rfl | exact SlS.len (by assumption) rfl | exact Sl.len (by assumption) rfl) ?_)
      refine pops.nil ?_
      refine .n ⟨_, i + 1, rfl, ⟨rfl, rfl, rfl, rfl, rfl, trivial⟩, (by show l.length - (i + 1) < l.length - i; omega), by omega, rfl, all_next hall hx (fun hh => by subst hh; simp at e)⟩
  · repeat (first | refine kthenP.n ?_ | refine kthenP.r ?_ | refine kthenP.e ?_ | refine kblockP.n ?_ | refine kblockP.r ?_ | refine kblockP.e ?_ | refine kblockP.o rfl ?_ | refine Runs.seq ?_ | refine Runs.region ?_ | refine Runs.block ?_ | refine Runs.cond ?_ | refine Runs.skip ?_ | refine Runs.loop ?_ | refine Runs.exit ?_ | refine Runs.ret ?_)
    repeat (first | refine pops.bin rfl rfl rfl rfl rfl rfl (cbin_inc (by omega)) ?_ | refine pops.fl rfl rfl rfl rfl rfl ?_ | refine pops.skip rfl rfl rfl ?_ | refine pops.load rfl rfl rfl rfl rfl (by first | assumption | exact cload_of (by assumption) rfl) ?_ | refine pops.len rfl rfl rfl rfl rfl rfl rfl rfl (by first | exact SlA.len (by assumption) rfl | exact SlI.len (by assumption) rfl | exact SlS.len (by assumption) rfl | exact Sl.len (by assumption) rfl) ?_)
    refine pops.nil ?_
    repeat (first | refine kthenP.n ?_ | refine kthenP.r ?_ | refine kthenP.e ?_ | refine kblockP.n ?_ | refine kblockP.r ?_ | refine kblockP.e ?_ | refine kblockP.o rfl ?_ | refine Runs.seq ?_ | refine Runs.region ?_ | refine Runs.block ?_ | refine Runs.cond ?_ | refine Runs.skip ?_ | refine Runs.loop ?_ | refine Runs.exit ?_ | refine Runs.ret ?_)
    refine pleave.r rfl ?_
    exact ⟨⟨0, .inr ⟨rfl, fun hm => all_end hall (by omega) q hm rfl⟩⟩, Gr.refl _⟩
theorem fn_contains : tab.fn 38 = some Tryz.f38 := by kernel_rfl
theorem contains_calls {v : Value} {l : List Int} (q : Int) (hv : SlI tab ks.int h v l) : CalF (X w) 38 [v, .int .i64 q] h fun r h' => r = .ret (.bool (decide (q ∈ l))) ∧ Gr h h' := by
  refine CalF.intro fn_contains rfl (Nat.le_of_ble_eq_true rfl) ?_
  repeat (first | refine kthenP.n ?_ | refine kthenP.r ?_ | refine kthenP.e ?_ | refine kblockP.n ?_ | refine kblockP.r ?_ | refine kblockP.e ?_ | refine kblockP.o rfl ?_ | refine Runs.seq ?_ | refine Runs.region ?_ | refine Runs.block ?_ | refine Runs.cond ?_ | refine Runs.skip ?_ | refine Runs.loop ?_ | refine Runs.exit ?_ | refine Runs.ret ?_)
  repeat (first | refine pops.bin rfl rfl rfl rfl rfl rfl (cbin_inc (by omega)) ?_ | refine pops.fl rfl rfl rfl rfl rfl ?_ | refine pops.skip rfl rfl rfl ?_ | refine pops.load rfl rfl rfl rfl rfl (by first | assumption | exact cload_of (by assumption) rfl) ?_ | refine pops.len rfl rfl rfl rfl rfl rfl rfl rfl (by first | exact SlA.len (by assumption) rfl | exact SlI.len (by assumption) rfl | exact SlS.len (by assumption) rfl | exact Sl.len (by assumption) rfl) ?_)
  refine pops.nil ?_
  repeat (first | refine kthenP.n ?_ | refine kthenP.r ?_ | refine kthenP.e ?_ | refine kblockP.n ?_ | refine kblockP.r ?_ | refine kblockP.e ?_ | refine kblockP.o rfl ?_ | refine Runs.seq ?_ | refine Runs.region ?_ | refine Runs.block ?_ | refine Runs.cond ?_ | refine Runs.skip ?_ | refine Runs.loop ?_ | refine Runs.exit ?_ | refine Runs.ret ?_)
  repeat (first | refine pops.bin rfl rfl rfl rfl rfl rfl (cbin_inc (by omega)) ?_ | refine pops.fl rfl rfl rfl rfl rfl ?_ | refine pops.skip rfl rfl rfl ?_ | refine pops.load rfl rfl rfl rfl rfl (by first | assumption | exact cload_of (by assumption) rfl) ?_ | refine pops.len rfl rfl rfl rfl rfl rfl rfl rfl (by first | exact SlA.len (by assumption) rfl | exact SlI.len (by assumption) rfl | exact SlS.len (by assumption) rfl | exact Sl.len (by assumption) rfl) ?_)
  refine pops.callV rfl rfl rfl rfl rfl fn_index rfl rfl ((index_calls q hv).mono fun r h2 hh => ?_)
  obtain ⟨⟨i, ⟨rfl, hr⟩ | ⟨rfl, hr⟩⟩, g⟩ := hh
  · refine ⟨_, rfl, ?_⟩
    repeat (first | refine pops.bin rfl rfl rfl rfl rfl rfl (cbin_inc (by omega)) ?_ | refine pops.fl rfl rfl rfl rfl rfl ?_ | refine pops.skip rfl rfl rfl ?_ | refine pops.load rfl rfl rfl rfl rfl (by first | assumption | exact cload_of (by assumption) rfl) ?_ | refine pops.len rfl rfl rfl rfl rfl rfl rfl rfl (by first | exact SlA.len (by assumption) rfl | exact SlI.len (by assumption) rfl | exact SlS.len (by assumption) rfl | exact Sl.len (by assumption) rfl) ?_)
    refine pops.nil ?_
    repeat (first | refine kthenP.n ?_ | refine kthenP.r ?_ | refine kthenP.e ?_ | refine kblockP.n ?_ | refine kblockP.r ?_ | refine kblockP.e ?_ | refine kblockP.o rfl ?_ | refine Runs.seq ?_ | refine Runs.region ?_ | refine Runs.block ?_ | refine Runs.cond ?_ | refine Runs.skip ?_ | refine Runs.loop ?_ | refine Runs.exit ?_ | refine Runs.ret ?_)
    refine pleave.r rfl ?_
    rw [decide_eq_true hr]
    exact ⟨by simp, g⟩
  · refine ⟨_, rfl, ?_⟩
    repeat (first | refine pops.bin rfl rfl rfl rfl rfl rfl (cbin_inc (by omega)) ?_ | refine pops.fl rfl rfl rfl rfl rfl ?_ | refine pops.skip rfl rfl rfl ?_ | refine pops.load rfl rfl rfl rfl rfl (by first | assumption | exact cload_of (by assumption) rfl) ?_ | refine pops.len rfl rfl rfl rfl rfl rfl rfl rfl (by first | exact SlA.len (by assumption) rfl | exact SlI.len (by assumption) rfl | exact SlS.len (by assumption) rfl | exact Sl.len (by assumption) rfl) ?_)
    refine pops.nil ?_
    repeat (first | refine kthenP.n ?_ | refine kthenP.r ?_ | refine kthenP.e ?_ | refine kblockP.n ?_ | refine kblockP.r ?_ | refine kblockP.e ?_ | refine kblockP.o rfl ?_ | refine Runs.seq ?_ | refine Runs.region ?_ | refine Runs.block ?_ | refine Runs.cond ?_ | refine Runs.skip ?_ | refine Runs.loop ?_ | refine Runs.exit ?_ | refine Runs.ret ?_)
    refine pleave.r rfl ?_
    rw [decide_eq_false hr]
    exact ⟨by simp, g⟩
theorem fn_decided : tab.fn 25 = some Tryz.f25 := by kernel_rfl
theorem decided_calls {v : Value} {t : TabD} {s u : Nat} (hv : TabV tab ks h v t) (hP : ValidP t) (hs : s < t.left.next.length) (hu : u < t.right.next.length) :
    CalF (X w) 25 [v, .int .i64 (s : Int), .int .i64 (u : Int)] h fun r h' => r = .ret (.tuple #[.int .i64 (decS t s u).1, .int .i64 (decS t s u).2]) ∧ Gr h h' := by
  refine CalF.wf fun hwf => ?_
  obtain ⟨c, a, x, y, x', y', rfl, ho, hcl, hac, hx, hy, hx', hy'⟩ := hv
  simp only [Bool.and_eq_true] at ho
  obtain ⟨m, hm1, hm2, hm3⟩ := mark_ok hP.2.2.2.1 hs
  obtain ⟨rm, hr1, hr2, hr3⟩ := mark_ok hP.2.2.2.2 hu
  refine CalF.intro fn_decided rfl (Nat.le_of_ble_eq_true rfl) ?_
  repeat (first | refine kthenP.n ?_ | refine kthenP.r ?_ | refine kthenP.e ?_ | refine kblockP.n ?_ | refine kblockP.r ?_ | refine kblockP.e ?_ | refine kblockP.o rfl ?_ | refine Runs.seq ?_ | refine Runs.region ?_ | refine Runs.block ?_ | refine Runs.cond ?_ | refine Runs.skip ?_ | refine Runs.loop ?_ | refine Runs.exit ?_ | refine Runs.ret ?_)
  refine pops.box (cs := [c, a, x, y, x', y']) rfl rfl rfl rfl (by simp [ho]) rfl rfl hwf fun b h1 hb hwf1 g1 hc => ?_
  replace hy := hy.gr hwf g1
  replace hy' := hy'.gr hwf g1
  replace hac := Sl.gr hac hwf g1
  repeat (first | refine pops.bin rfl rfl rfl rfl rfl rfl (cbin_inc (by omega)) ?_ | refine pops.fl rfl rfl rfl rfl rfl ?_ | refine pops.skip rfl rfl rfl ?_ | refine pops.load rfl rfl rfl rfl rfl (by first | assumption | exact cload_of (by assumption) rfl) ?_ | refine pops.len rfl rfl rfl rfl rfl rfl rfl rfl (by first | exact SlA.len (by assumption) rfl | exact SlI.len (by assumption) rfl | exact SlS.len (by assumption) rfl | exact Sl.len (by assumption) rfl) ?_)
  refine pops.nil ?_
  repeat (first | refine kthenP.n ?_ | refine kthenP.r ?_ | refine kthenP.e ?_ | refine kblockP.n ?_ | refine kblockP.r ?_ | refine kblockP.e ?_ | refine kblockP.o rfl ?_ | refine Runs.seq ?_ | refine Runs.region ?_ | refine Runs.block ?_ | refine Runs.cond ?_ | refine Runs.skip ?_ | refine Runs.loop ?_ | refine Runs.exit ?_ | refine Runs.ret ?_)
  repeat (first | refine pops.bin rfl rfl rfl rfl rfl rfl (cbin_inc (by omega)) ?_ | refine pops.fl rfl rfl rfl rfl rfl ?_ | refine pops.skip rfl rfl rfl ?_ | refine pops.load rfl rfl rfl rfl rfl (by first | assumption | exact cload_of (by assumption) rfl) ?_ | refine pops.len rfl rfl rfl rfl rfl rfl rfl rfl (by first | exact SlA.len (by assumption) rfl | exact SlI.len (by assumption) rfl | exact SlS.len (by assumption) rfl | exact Sl.len (by assumption) rfl) ?_)
  refine pops.atA rfl rfl rfl rfl rfl rfl rfl hy hm1 fun p um hp hum => ?_
  have lm := hum.lt
  repeat (first | refine pops.bin rfl rfl rfl rfl rfl rfl (cbin_inc (by omega)) ?_ | refine pops.fl rfl rfl rfl rfl rfl ?_ | refine pops.skip rfl rfl rfl ?_ | refine pops.load rfl rfl rfl rfl rfl (by first | assumption | exact cload_of (by assumption) rfl) ?_ | refine pops.len rfl rfl rfl rfl rfl rfl rfl rfl (by first | exact SlA.len (by assumption) rfl | exact SlI.len (by assumption) rfl | exact SlS.len (by assumption) rfl | exact Sl.len (by assumption) rfl) ?_)
  refine pops.nil ?_
  repeat (first | refine kthenP.n ?_ | refine kthenP.r ?_ | refine kthenP.e ?_ | refine kblockP.n ?_ | refine kblockP.r ?_ | refine kblockP.e ?_ | refine kblockP.o rfl ?_ | refine Runs.seq ?_ | refine Runs.region ?_ | refine Runs.block ?_ | refine Runs.cond ?_ | refine Runs.skip ?_ | refine Runs.loop ?_ | refine Runs.exit ?_ | refine Runs.ret ?_)
  refine Loops.ind 6 (fun i : Nat => [(2, .int .i64 (u : Int)), (3, .pointer (some ⟨b, 0, none⟩)), (15, um), (16, .int .i64 (m.length : Nat)), (17, .int .i64 (i : Nat))]) (fun i h' => i ≤ m.length ∧ Gr h1 h' ∧ ∀ (j : Nat) z, j < i → m[j]? = some z → decide (z ∈ rm) = false) (fun i => m.length - i) 0 (by decide) ⟨rfl, rfl, rfl, rfl, rfl, trivial⟩ ⟨Nat.zero_le _, Gr.refl _, all_none⟩ ?_
  clear hp
  rintro i z h' hwf' ⟨hi, g2, hall⟩
  replace hy' := hy'.gr hwf1 g2
  replace hac := Sl.gr hac hwf1 g2
  replace hum := Sl.gr hum hwf1 g2
  replace hc := g2.at hwf1 hc
  repeat (first | refine kthenP.n ?_ | refine kthenP.r ?_ | refine kthenP.e ?_ | refine kblockP.n ?_ | refine kblockP.r ?_ | refine kblockP.e ?_ | refine kblockP.o rfl ?_ | refine Runs.seq ?_ | refine Runs.region ?_ | refine Runs.block ?_ | refine Runs.cond ?_ | refine Runs.skip ?_ | refine Runs.loop ?_ | refine Runs.exit ?_ | refine Runs.ret ?_)
  repeat (first | refine pops.bin rfl rfl rfl rfl rfl rfl (cbin_inc (by omega)) ?_ | refine pops.fl rfl rfl rfl rfl rfl ?_ | refine pops.skip rfl rfl rfl ?_ | refine pops.load rfl rfl rfl rfl rfl (by first | assumption | exact cload_of (by assumption) rfl) ?_ | refine pops.len rfl rfl rfl rfl rfl rfl rfl rfl (by first | exact SlA.len (by assumption) rfl | exact SlI.len (by assumption) rfl | exact SlS.len (by assumption) rfl | exact Sl.len (by assumption) rfl) ?_)
  refine pops.nil ?_
  repeat (first | refine kthenP.n ?_ | refine kthenP.r ?_ | refine kthenP.e ?_ | refine kblockP.n ?_ | refine kblockP.r ?_ | refine kblockP.e ?_ | refine kblockP.o rfl ?_ | refine Runs.seq ?_ | refine Runs.region ?_ | refine Runs.block ?_ | refine Runs.cond ?_ | refine Runs.skip ?_ | refine Runs.loop ?_ | refine Runs.exit ?_ | refine Runs.ret ?_)
  refine pcond.d (p := (i : Int) < (m.length : Nat)) rfl (fun hlt => ?_) (fun hge => ?_)
  · obtain ⟨q, hq⟩ : ∃ q, m[i]? = some q := ⟨_, List.getElem?_eq_getElem (by omega)⟩
    obtain ⟨hq0, hq1⟩ := hm3 q (List.mem_of_getElem? hq)
    repeat (first | refine kthenP.n ?_ | refine kthenP.r ?_ | refine kthenP.e ?_ | refine kblockP.n ?_ | refine kblockP.r ?_ | refine kblockP.e ?_ | refine kblockP.o rfl ?_ | refine Runs.seq ?_ | refine Runs.region ?_ | refine Runs.block ?_ | refine Runs.cond ?_ | refine Runs.skip ?_ | refine Runs.loop ?_ | refine Runs.exit ?_ | refine Runs.ret ?_)
    refine pops.atI (f := Value.int .i64) rfl rfl rfl rfl rfl rfl rfl hum hq fun p hp => ?_
    repeat (first | refine pops.bin rfl rfl rfl rfl rfl rfl (cbin_inc (by omega)) ?_ | refine pops.fl rfl rfl rfl rfl rfl ?_ | refine pops.skip rfl rfl rfl ?_ | refine pops.load rfl rfl rfl rfl rfl (by first | assumption | exact cload_of (by assumption) rfl) ?_ | refine pops.len rfl rfl rfl rfl rfl rfl rfl rfl (by first | exact SlA.len (by assumption) rfl | exact SlI.len (by assumption) rfl | exact SlS.len (by assumption) rfl | exact Sl.len (by assumption) rfl) ?_)
    refine pops.nil ?_
    repeat (first | refine kthenP.n ?_ | refine kthenP.r ?_ | refine kthenP.e ?_ | refine kblockP.n ?_ | refine kblockP.r ?_ | refine kblockP.e ?_ | refine kblockP.o rfl ?_ | refine Runs.seq ?_ | refine Runs.region ?_ | refine Runs.block ?_ | refine Runs.cond ?_ | refine Runs.skip ?_ | refine Runs.loop ?_ | refine Runs.exit ?_ | refine Runs.ret ?_)
    repeat (first | refine pops.bin rfl rfl rfl rfl rfl rfl (cbin_inc (by omega)) ?_ | refine pops.fl rfl rfl rfl rfl rfl ?_ | refine pops.skip rfl rfl rfl ?_ | refine pops.load rfl rfl rfl rfl rfl (by first | assumption | exact cload_of (by assumption) rfl) ?_ | refine pops.len rfl rfl rfl rfl rfl rfl rfl rfl (by first | exact SlA.len (by assumption) rfl | exact SlI.len (by assumption) rfl | exact SlS.len (by assumption) rfl | exact Sl.len (by assumption) rfl) ?_)
    refine pops.atA rfl rfl rfl rfl rfl rfl rfl hy' hr1 fun p2 ur hp2 hur => ?_
    refine pops.load rfl rfl rfl rfl rfl (by first | assumption | exact cload_of (by assumption) rfl) ?_
    refine pops.fl rfl rfl rfl rfl rfl ?_
    refine pops.callG rfl rfl rfl rfl rfl fn_contains rfl rfl rfl (contains_calls q hur) fun h3 hwf3 g3 => ?_
    replace hc := g3.at hwf' hc
    replace hac := Sl.gr hac hwf' g3
    cases hd : decide (q ∈ rm) with
    | true =>
      obtain ⟨k, rfl⟩ : ∃ k : Nat, q = k := Int.eq_ofNat_of_zero_le hq0
      have hact := act_ok hq0 hq1
      refine pops.nil ?_
      repeat (first | refine kthenP.n ?_ | refine kthenP.r ?_ | refine kthenP.e ?_ | refine kblockP.n ?_ | refine kblockP.r ?_ | refine kblockP.e ?_ | refine kblockP.o rfl ?_ | refine Runs.seq ?_ | refine Runs.region ?_ | refine Runs.block ?_ | refine Runs.cond ?_ | refine Runs.skip ?_ | refine Runs.loop ?_ | refine Runs.exit ?_ | refine Runs.ret ?_)
      refine pcond.t rfl ?_
      repeat (first | refine kthenP.n ?_ | refine kthenP.r ?_ | refine kthenP.e ?_ | refine kblockP.n ?_ | refine kblockP.r ?_ | refine kblockP.e ?_ | refine kblockP.o rfl ?_ | refine Runs.seq ?_ | refine Runs.region ?_ | refine Runs.block ?_ | refine Runs.cond ?_ | refine Runs.skip ?_ | refine Runs.loop ?_ | refine Runs.exit ?_ | refine Runs.ret ?_)
      repeat (first | refine pops.bin rfl rfl rfl rfl rfl rfl (cbin_inc (by omega)) ?_ | refine pops.fl rfl rfl rfl rfl rfl ?_ | refine pops.skip rfl rfl rfl ?_ | refine pops.load rfl rfl rfl rfl rfl (by first | assumption | exact cload_of (by assumption) rfl) ?_ | refine pops.len rfl rfl rfl rfl rfl rfl rfl rfl (by first | exact SlA.len (by assumption) rfl | exact SlI.len (by assumption) rfl | exact SlS.len (by assumption) rfl | exact Sl.len (by assumption) rfl) ?_)
      refine pops.atI (i := k) (f := Value.int .i64) rfl rfl rfl rfl rfl rfl rfl hac hact fun p3 hp3 => ?_
      repeat (first | refine pops.bin rfl rfl rfl rfl rfl rfl (cbin_inc (by omega)) ?_ | refine pops.fl rfl rfl rfl rfl rfl ?_ | refine pops.skip rfl rfl rfl ?_ | refine pops.load rfl rfl rfl rfl rfl (by first | assumption | exact cload_of (by assumption) rfl) ?_ | refine pops.len rfl rfl rfl rfl rfl rfl rfl rfl (by first | exact SlA.len (by assumption) rfl | exact SlI.len (by assumption) rfl | exact SlS.len (by assumption) rfl | exact Sl.len (by assumption) rfl) ?_)
      refine pops.nil ?_
      repeat (first | refine kthenP.n ?_ | refine kthenP.r ?_ | refine kthenP.e ?_ | refine kblockP.n ?_ | refine kblockP.r ?_ | refine kblockP.e ?_ | refine kblockP.o rfl ?_ | refine Runs.seq ?_ | refine Runs.region ?_ | refine Runs.block ?_ | refine Runs.cond ?_ | refine Runs.skip ?_ | refine Runs.loop ?_ | refine Runs.exit ?_ | refine Runs.ret ?_)
      refine pleave.r rfl ?_
      refine ⟨?_, (g1.trans g2).trans g3⟩
      have : decS t s u = (actOf t k, (k : Int)) := by
        unfold decS
        rw [hm2, hr2, find_first hall hq hd]
      rw [this]
    | false =>
      refine pops.nil ?_
      repeat (first | refine kthenP.n ?_ | refine kthenP.r ?_ | refine kthenP.e ?_ | refine kblockP.n ?_ | refine kblockP.r ?_ | refine kblockP.e ?_ | refine kblockP.o rfl ?_ | refine Runs.seq ?_ | refine Runs.region ?_ | refine Runs.block ?_ | refine Runs.cond ?_ | refine Runs.skip ?_ | refine Runs.loop ?_ | refine Runs.exit ?_ | refine Runs.ret ?_)
      refine pcond.f rfl ?_
      repeat (first | refine kthenP.n ?_ | refine kthenP.r ?_ | refine kthenP.e ?_ | refine kblockP.n ?_ | refine kblockP.r ?_ | refine kblockP.e ?_ | refine kblockP.o rfl ?_ | refine Runs.seq ?_ | refine Runs.region ?_ | refine Runs.block ?_ | refine Runs.cond ?_ | refine Runs.skip ?_ | refine Runs.loop ?_ | refine Runs.exit ?_ | refine Runs.ret ?_)
      repeat (first | refine pops.bin rfl rfl rfl rfl rfl rfl (cbin_inc (by omega)) ?_ | refine pops.fl rfl rfl rfl rfl rfl ?_ | refine pops.skip rfl rfl rfl ?_ | refine pops.load rfl rfl rfl rfl rfl (by first | assumption | exact cload_of (by assumption) rfl) ?_ | refine pops.len rfl rfl rfl rfl rfl rfl rfl rfl (by first | exact SlA.len (by assumption) rfl | exact SlI.len (by assumption) rfl | exact SlS.len (by assumption) rfl | exact Sl.len (by assumption) rfl) ?_)
      refine pops.nil ?_
      refine .n ⟨_, i + 1, rfl, ⟨rfl, rfl, rfl, rfl, rfl, trivial⟩, (by show m.length - (i + 1) < m.length - i; omega), by omega, g2.trans g3, all_next hall hq hd⟩
  · repeat (first | refine kthenP.n ?_ | refine kthenP.r ?_ | refine kthenP.e ?_ | refine kblockP.n ?_ | refine kblockP.r ?_ | refine kblockP.e ?_ | refine kblockP.o rfl ?_ | refine Runs.seq ?_ | refine Runs.region ?_ | refine Runs.block ?_ | refine Runs.cond ?_ | refine Runs.skip ?_ | refine Runs.loop ?_ | refine Runs.exit ?_ | refine Runs.ret ?_)
    repeat (first | refine pops.bin rfl rfl rfl rfl rfl rfl (cbin_inc (by omega)) ?_ | refine pops.fl rfl rfl rfl rfl rfl ?_ | refine pops.skip rfl rfl rfl ?_ | refine pops.load rfl rfl rfl rfl rfl (by first | assumption | exact cload_of (by assumption) rfl) ?_ | refine pops.len rfl rfl rfl rfl rfl rfl rfl rfl (by first | exact SlA.len (by assumption) rfl | exact SlI.len (by assumption) rfl | exact SlS.len (by assumption) rfl | exact Sl.len (by assumption) rfl) ?_)
    refine pops.nil ?_
    repeat (first | refine kthenP.n ?_ | refine kthenP.r ?_ | refine kthenP.e ?_ | refine kblockP.n ?_ | refine kblockP.r ?_ | refine kblockP.e ?_ | refine kblockP.o rfl ?_ | refine Runs.seq ?_ | refine Runs.region ?_ | refine Runs.block ?_ | refine Runs.cond ?_ | refine Runs.skip ?_ | refine Runs.loop ?_ | refine Runs.exit ?_ | refine Runs.ret ?_)
    refine pleave.r rfl ?_
    refine ⟨?_, g1.trans g2⟩
    have : decS t s u = (2, -1) := by
      unfold decS
      rw [hm2, hr2, find_no (all_end hall (by omega))]
    rw [this]
theorem fn_Decide : tab.fn 12 = some Tryz.f12 := by kernel_rfl
theorem Decide_calls {v vl : Value} {t : TabD} {l : List Int} (q : Int) (hv : TabV tab ks h v t) (hl : SlI tab ks.int h vl l) (hlen : TextsLt t.classes) (hll : l.length ≤ 1000) : CalF (X w) 12 [v, vl, .int .i64 q] h fun r h' => r = .ret (.tuple #[.int .i64 (DecideR t l q).1, .int .i64 (DecideR t l q).2]) ∧ Gr h h' := by
  refine CalF.wf fun hwf => ?_
  have hV := hv
  obtain ⟨c, a, x, y, x', y', rfl, ho, hcl, hac, hx, hy, hx', hy'⟩ := hv
  simp only [Bool.and_eq_true] at ho
  clear hcl hac hx hy hx' hy'
  have llt := hl.lt
  have out : ¬ (0 ≤ q ∧ q ≤ (l.length : Int) ∧ UsableP t l) → DecideR t l q = (2, -1) := fun hn => by unfold DecideR; rw [tt_f hn]; rfl
  refine CalF.intro fn_Decide rfl (Nat.le_of_ble_eq_true rfl) ?_
  repeat (first | refine kthenP.n ?_ | refine kthenP.r ?_ | refine kthenP.e ?_ | refine kblockP.n ?_ | refine kblockP.r ?_ | refine kblockP.e ?_ | refine kblockP.o rfl ?_ | refine Runs.seq ?_ | refine Runs.region ?_ | refine Runs.block ?_ | refine Runs.cond ?_ | refine Runs.skip ?_ | refine Runs.loop ?_ | refine Runs.exit ?_ | refine Runs.ret ?_)
  refine pops.box (cs := [c, a, x, y, x', y']) rfl rfl rfl rfl (by simp [ho]) rfl rfl hwf fun b h1 hb hwf1 g1 hc => ?_
  replace hV := hV.gr hwf g1
  replace hl := Sl.gr hl hwf g1
  refine pops.fl rfl rfl rfl rfl rfl ?_
  refine pops.fl rfl rfl rfl rfl rfl ?_
  refine pops.nil ?_
  repeat (first | refine kthenP.n ?_ | refine kthenP.r ?_ | refine kthenP.e ?_ | refine kblockP.n ?_ | refine kblockP.r ?_ | refine kblockP.e ?_ | refine kblockP.o rfl ?_ | refine Runs.seq ?_ | refine Runs.region ?_ | refine Runs.block ?_ | refine Runs.cond ?_ | refine Runs.skip ?_ | refine Runs.loop ?_ | refine Runs.exit ?_ | refine Runs.ret ?_)
  repeat (first | refine pops.bin rfl rfl rfl rfl rfl rfl (cbin_inc (by omega)) ?_ | refine pops.fd rfl rfl rfl rfl rfl rfl ?_ | refine pops.skip rfl rfl rfl ?_ | refine pops.load rfl rfl rfl rfl rfl (by first | assumption | exact cload_of (by assumption) rfl) ?_ | refine pops.len rfl rfl rfl rfl rfl rfl rfl rfl (by first | exact SlA.len (by assumption) rfl | exact SlI.len (by assumption) rfl | exact SlS.len (by assumption) rfl | exact Sl.len (by assumption) rfl) ?_)
  refine pops.cmp rfl rfl rfl rfl rfl (fun q1 => ?_) (fun q1 => ?_)
  · repeat (first | refine pops.bin rfl rfl rfl rfl rfl rfl (cbin_inc (by omega)) ?_ | refine pops.fl rfl rfl rfl rfl rfl ?_ | refine pops.skip rfl rfl rfl ?_ | refine pops.load rfl rfl rfl rfl rfl (by first | assumption | exact cload_of (by assumption) rfl) ?_ | refine pops.len rfl rfl rfl rfl rfl rfl rfl rfl (by first | exact SlA.len (by assumption) rfl | exact SlI.len (by assumption) rfl | exact SlS.len (by assumption) rfl | exact Sl.len (by assumption) rfl) ?_)
    refine pops.nil ?_
    repeat (first | refine kthenP.n ?_ | refine kthenP.r ?_ | refine kthenP.e ?_ | refine kblockP.n ?_ | refine kblockP.r ?_ | refine kblockP.e ?_ | refine kblockP.o rfl ?_ | refine Runs.seq ?_ | refine Runs.region ?_ | refine Runs.block ?_ | refine Runs.cond ?_ | refine Runs.skip ?_ | refine Runs.loop ?_ | refine Runs.exit ?_ | refine Runs.ret ?_)
    refine pcond.t rfl ?_
    repeat (first | refine kthenP.n ?_ | refine kthenP.r ?_ | refine kthenP.e ?_ | refine kblockP.n ?_ | refine kblockP.r ?_ | refine kblockP.e ?_ | refine kblockP.o rfl ?_ | refine Runs.seq ?_ | refine Runs.region ?_ | refine Runs.block ?_ | refine Runs.cond ?_ | refine Runs.skip ?_ | refine Runs.loop ?_ | refine Runs.exit ?_ | refine Runs.ret ?_)
    repeat (first | refine pops.bin rfl rfl rfl rfl rfl rfl (cbin_inc (by omega)) ?_ | refine pops.fl rfl rfl rfl rfl rfl ?_ | refine pops.skip rfl rfl rfl ?_ | refine pops.load rfl rfl rfl rfl rfl (by first | assumption | exact cload_of (by assumption) rfl) ?_ | refine pops.len rfl rfl rfl rfl rfl rfl rfl rfl (by first | exact SlA.len (by assumption) rfl | exact SlI.len (by assumption) rfl | exact SlS.len (by assumption) rfl | exact Sl.len (by assumption) rfl) ?_)
    refine pops.nil ?_
    repeat (first | refine kthenP.n ?_ | refine kthenP.r ?_ | refine kthenP.e ?_ | refine kblockP.n ?_ | refine kblockP.r ?_ | refine kblockP.e ?_ | refine kblockP.o rfl ?_ | refine Runs.seq ?_ | refine Runs.region ?_ | refine Runs.block ?_ | refine Runs.cond ?_ | refine Runs.skip ?_ | refine Runs.loop ?_ | refine Runs.exit ?_ | refine Runs.ret ?_)
    refine pleave.r rfl ?_
    simp at q1
    rw [out (by omega)]
    exact ⟨rfl, g1⟩
  repeat (first | refine pops.bin rfl rfl rfl rfl rfl rfl (cbin_inc (by omega)) ?_ | refine pops.fd rfl rfl rfl rfl rfl rfl ?_ | refine pops.skip rfl rfl rfl ?_ | refine pops.load rfl rfl rfl rfl rfl (by first | assumption | exact cload_of (by assumption) rfl) ?_ | refine pops.len rfl rfl rfl rfl rfl rfl rfl rfl (by first | exact SlA.len (by assumption) rfl | exact SlI.len (by assumption) rfl | exact SlS.len (by assumption) rfl | exact Sl.len (by assumption) rfl) ?_)
  refine pops.cmp rfl rfl rfl rfl rfl (fun q2 => ?_) (fun q2 => ?_)
  · repeat (first | refine pops.bin rfl rfl rfl rfl rfl rfl (cbin_inc (by omega)) ?_ | refine pops.fl rfl rfl rfl rfl rfl ?_ | refine pops.skip rfl rfl rfl ?_ | refine pops.load rfl rfl rfl rfl rfl (by first | assumption | exact cload_of (by assumption) rfl) ?_ | refine pops.len rfl rfl rfl rfl rfl rfl rfl rfl (by first | exact SlA.len (by assumption) rfl | exact SlI.len (by assumption) rfl | exact SlS.len (by assumption) rfl | exact Sl.len (by assumption) rfl) ?_)
    refine pops.nil ?_
    repeat (first | refine kthenP.n ?_ | refine kthenP.r ?_ | refine kthenP.e ?_ | refine kblockP.n ?_ | refine kblockP.r ?_ | refine kblockP.e ?_ | refine kblockP.o rfl ?_ | refine Runs.seq ?_ | refine Runs.region ?_ | refine Runs.block ?_ | refine Runs.cond ?_ | refine Runs.skip ?_ | refine Runs.loop ?_ | refine Runs.exit ?_ | refine Runs.ret ?_)
    refine pcond.t rfl ?_
    repeat (first | refine kthenP.n ?_ | refine kthenP.r ?_ | refine kthenP.e ?_ | refine kblockP.n ?_ | refine kblockP.r ?_ | refine kblockP.e ?_ | refine kblockP.o rfl ?_ | refine Runs.seq ?_ | refine Runs.region ?_ | refine Runs.block ?_ | refine Runs.cond ?_ | refine Runs.skip ?_ | refine Runs.loop ?_ | refine Runs.exit ?_ | refine Runs.ret ?_)
    repeat (first | refine pops.bin rfl rfl rfl rfl rfl rfl (cbin_inc (by omega)) ?_ | refine pops.fl rfl rfl rfl rfl rfl ?_ | refine pops.skip rfl rfl rfl ?_ | refine pops.load rfl rfl rfl rfl rfl (by first | assumption | exact cload_of (by assumption) rfl) ?_ | refine pops.len rfl rfl rfl rfl rfl rfl rfl rfl (by first | exact SlA.len (by assumption) rfl | exact SlI.len (by assumption) rfl | exact SlS.len (by assumption) rfl | exact Sl.len (by assumption) rfl) ?_)
    refine pops.nil ?_
    repeat (first | refine kthenP.n ?_ | refine kthenP.r ?_ | refine kthenP.e ?_ | refine kblockP.n ?_ | refine kblockP.r ?_ | refine kblockP.e ?_ | refine kblockP.o rfl ?_ | refine Runs.seq ?_ | refine Runs.region ?_ | refine Runs.block ?_ | refine Runs.cond ?_ | refine Runs.skip ?_ | refine Runs.loop ?_ | refine Runs.exit ?_ | refine Runs.ret ?_)
    refine pleave.r rfl ?_
    simp at q2
    rw [out (by omega)]
    exact ⟨rfl, g1⟩
  repeat (first | refine pops.bin rfl rfl rfl rfl rfl rfl (cbin_inc (by omega)) ?_ | refine pops.fd rfl rfl rfl rfl rfl rfl ?_ | refine pops.skip rfl rfl rfl ?_ | refine pops.load rfl rfl rfl rfl rfl (by first | assumption | exact cload_of (by assumption) rfl) ?_ | refine pops.len rfl rfl rfl rfl rfl rfl rfl rfl (by first | exact SlA.len (by assumption) rfl | exact SlI.len (by assumption) rfl | exact SlS.len (by assumption) rfl | exact Sl.len (by assumption) rfl) ?_)
  refine pops.callG rfl rfl rfl rfl rfl fn_usable rfl rfl rfl (usable_calls hV hl hlen) fun h2 hwf2 g2 => ?_
  replace hc := g2.at hwf1 hc
  replace hV := hV.gr hwf1 g2
  replace hl := Sl.gr hl hwf1 g2
  have g02 := g1.trans g2
  cases hU : tt (UsableP t l) with
  | false =>
    repeat (first | refine pops.bin rfl rfl rfl rfl rfl rfl (cbin_inc (by omega)) ?_ | refine pops.fl rfl rfl rfl rfl rfl ?_ | refine pops.skip rfl rfl rfl ?_ | refine pops.load rfl rfl rfl rfl rfl (by first | assumption | exact cload_of (by assumption) rfl) ?_ | refine pops.len rfl rfl rfl rfl rfl rfl rfl rfl (by first | exact SlA.len (by assumption) rfl | exact SlI.len (by assumption) rfl | exact SlS.len (by assumption) rfl | exact Sl.len (by assumption) rfl) ?_)
    refine pops.nil ?_
    repeat (first | refine kthenP.n ?_ | refine kthenP.r ?_ | refine kthenP.e ?_ | refine kblockP.n ?_ | refine kblockP.r ?_ | refine kblockP.e ?_ | refine kblockP.o rfl ?_ | refine Runs.seq ?_ | refine Runs.region ?_ | refine Runs.block ?_ | refine Runs.cond ?_ | refine Runs.skip ?_ | refine Runs.loop ?_ | refine Runs.exit ?_ | refine Runs.ret ?_)
    refine pcond.t rfl ?_
    repeat (first | refine kthenP.n ?_ | refine kthenP.r ?_ | refine kthenP.e ?_ | refine kblockP.n ?_ | refine kblockP.r ?_ | refine kblockP.e ?_ | refine kblockP.o rfl ?_ | refine Runs.seq ?_ | refine Runs.region ?_ | refine Runs.block ?_ | refine Runs.cond ?_ | refine Runs.skip ?_ | refine Runs.loop ?_ | refine Runs.exit ?_ | refine Runs.ret ?_)
    repeat (first | refine pops.bin rfl rfl rfl rfl rfl rfl (cbin_inc (by omega)) ?_ | refine pops.fl rfl rfl rfl rfl rfl ?_ | refine pops.skip rfl rfl rfl ?_ | refine pops.load rfl rfl rfl rfl rfl (by first | assumption | exact cload_of (by assumption) rfl) ?_ | refine pops.len rfl rfl rfl rfl rfl rfl rfl rfl (by first | exact SlA.len (by assumption) rfl | exact SlI.len (by assumption) rfl | exact SlS.len (by assumption) rfl | exact Sl.len (by assumption) rfl) ?_)
    refine pops.nil ?_
    repeat (first | refine kthenP.n ?_ | refine kthenP.r ?_ | refine kthenP.e ?_ | refine kblockP.n ?_ | refine kblockP.r ?_ | refine kblockP.e ?_ | refine kblockP.o rfl ?_ | refine Runs.seq ?_ | refine Runs.region ?_ | refine Runs.block ?_ | refine Runs.cond ?_ | refine Runs.skip ?_ | refine Runs.loop ?_ | refine Runs.exit ?_ | refine Runs.ret ?_)
    refine pleave.r rfl ?_
    rw [out (fun hh => by rw [tt_t hh.2.2] at hU; cases hU)]
    exact ⟨rfl, g02⟩
  | true =>
  replace hU := tt_iff.1 hU
  simp at q1 q2
  obtain ⟨k, rfl⟩ : ∃ k : Nat, q = k := Int.eq_ofNat_of_zero_le q1
  have hk : k ≤ l.length := by omega
  have hres : DecideR t l k = decS t (st t.left.next l k) (rst t.right.next l (l.length - k)) := by
    unfold DecideR
    rw [tt_t (by exact ⟨by omega, by omega, hU⟩)]
    rfl
  repeat (first | refine pops.bin rfl rfl rfl rfl rfl rfl (cbin_inc (by omega)) ?_ | refine pops.fl rfl rfl rfl rfl rfl ?_ | refine pops.skip rfl rfl rfl ?_ | refine pops.load rfl rfl rfl rfl rfl (by first | assumption | exact cload_of (by assumption) rfl) ?_ | refine pops.len rfl rfl rfl rfl rfl rfl rfl rfl (by first | exact SlA.len (by assumption) rfl | exact SlI.len (by assumption) rfl | exact SlS.len (by assumption) rfl | exact Sl.len (by assumption) rfl) ?_)
  refine pops.nil ?_
  repeat (first | refine kthenP.n ?_ | refine kthenP.r ?_ | refine kthenP.e ?_ | refine kblockP.n ?_ | refine kblockP.r ?_ | refine kblockP.e ?_ | refine kblockP.o rfl ?_ | refine Runs.seq ?_ | refine Runs.region ?_ | refine Runs.block ?_ | refine Runs.cond ?_ | refine Runs.skip ?_ | refine Runs.loop ?_ | refine Runs.exit ?_ | refine Runs.ret ?_)
  refine pcond.f rfl ?_
  repeat (first | refine kthenP.n ?_ | refine kthenP.r ?_ | refine kthenP.e ?_ | refine kblockP.n ?_ | refine kblockP.r ?_ | refine kblockP.e ?_ | refine kblockP.o rfl ?_ | refine Runs.seq ?_ | refine Runs.region ?_ | refine Runs.block ?_ | refine Runs.cond ?_ | refine Runs.skip ?_ | refine Runs.loop ?_ | refine Runs.exit ?_ | refine Runs.ret ?_)
  refine PG.start _ rfl rfl ?_
  repeat (first | refine PG.skip (by decide +kernel) ?_ | refine PG.take (by decide +kernel) rfl rfl rfl rfl ?_ | refine PG.load (by decide +kernel) rfl rfl rfl rfl rfl (by first | assumption | exact cload_of (by assumption) rfl) ?_ | refine PG.drop (by decide +kernel) rfl rfl rfl ?_)
  refine PG.nil ?_
  refine pd1.callR 3 rfl (by kernel_rfl) rfl rfl rfl rfl rfl fn_left rfl rfl rfl ((left_calls hV hl hU hll).monoW fun r h3 hwf3 hh => ?_)
  obtain ⟨⟨u1, rfl, hu1⟩, g3⟩ := hh
  replace hc := g3.at hwf2 hc
  replace hV := hV.gr hwf2 g3
  replace hl := Sl.gr hl hwf2 g3
  refine ⟨u1, rfl, _, by (repeat (first | exact Reck.nil | (apply Reck.dropI; decide +kernel) | (apply Reck.keep; rfl) | (apply Reck.load; rfl; rfl; first | assumption | exact cload_of (by assumption) rfl) | (apply Reck.same; rfl))), ?_⟩
  obtain ⟨p1, hp1, hq1⟩ := Sl.readM hu1 hwf3 (ts := 23) rfl (leftS_get hk) .i64
  have hq1' : cload (X w).T h3 3 p1 = some (.int .i64 (st t.left.next l k : Int)) := hq1 _ (Gr.refl _)
  repeat refine PG.skip (by decide +kernel) ?_
  refine PG.take (by decide +kernel) rfl rfl rfl (hp1) ?_
  repeat (first | refine PG.skip (by decide +kernel) ?_ | refine PG.take (by decide +kernel) rfl rfl rfl rfl ?_ | refine PG.load (by decide +kernel) rfl rfl rfl rfl rfl (by first | assumption | exact cload_of (by assumption) rfl) ?_ | refine PG.drop (by decide +kernel) rfl rfl rfl ?_)
  refine PG.nil ?_
  refine pd1.callR 9 rfl (by kernel_rfl) rfl rfl rfl rfl rfl fn_right rfl rfl rfl ((right_calls hV hl hU hll).monoW fun r h4 hwf4 hh => ?_)
  obtain ⟨⟨u2, rfl, hu2⟩, g4⟩ := hh
  replace hc := g4.at hwf3 hc
  replace hV := hV.gr hwf3 g4
  replace hl := Sl.gr hl hwf3 g4
  have hq1' : cload (X w).T h4 3 p1 = some (.int .i64 (st t.left.next l k : Int)) := hq1 _ g4
  refine ⟨u2, rfl, _, by (repeat (first | exact Reck.nil | (apply Reck.dropI; decide +kernel) | (apply Reck.keep; rfl) | (apply Reck.load; rfl; rfl; first | assumption | exact cload_of (by assumption) rfl) | (apply Reck.same; rfl))), ?_⟩
  obtain ⟨p2, hp2, hq2⟩ := Sl.readM hu2 hwf4 (ts := 23) rfl (rightS_get hk) .i64
  have hq2' : cload (X w).T h4 3 p2 = some (.int .i64 (rst t.right.next l (l.length - k) : Int)) := hq2 _ (Gr.refl _)
  repeat refine PG.skip (by decide +kernel) ?_
  refine PG.take (by decide +kernel) rfl rfl rfl (hp2) ?_
  repeat (first | refine PG.skip (by decide +kernel) ?_ | refine PG.take (by decide +kernel) rfl rfl rfl rfl ?_ | refine PG.load (by decide +kernel) rfl rfl rfl rfl rfl (by first | assumption | exact cload_of (by assumption) rfl) ?_ | refine PG.drop (by decide +kernel) rfl rfl rfl ?_)
  refine PG.nil ?_
  refine pd1.callG 13 rfl (by kernel_rfl) rfl rfl rfl rfl rfl fn_decided rfl rfl rfl (decided_calls hV hU.1 (st_ok hU.1.2.2.2.1 hU.2 k hk) (rst_ok hU.1.2.2.2.2 hU.2 (l.length - k) (by omega))) fun h5 hwf5 g5 => ?_
  replace hc := g5.at hwf4 hc
  refine ⟨_, by (repeat (first | exact Reck.nil | (apply Reck.dropI; decide +kernel) | (apply Reck.keep; rfl) | (apply Reck.load; rfl; rfl; first | assumption | exact cload_of (by assumption) rfl) | (apply Reck.same; rfl))), ?_⟩
  repeat (first | refine PG.skip (by decide +kernel) ?_ | refine PG.take (by decide +kernel) rfl rfl rfl rfl ?_ | refine PG.load (by decide +kernel) rfl rfl rfl rfl rfl (by first | assumption | exact cload_of (by assumption) rfl) ?_ | refine PG.drop (by decide +kernel) rfl rfl rfl ?_)
  refine PG.nil ?_
  refine pd1.fin (by kernel_rfl) (by kernel_rfl) ?_
  repeat (first | refine kthenP.n ?_ | refine kthenP.r ?_ | refine kthenP.e ?_ | refine kblockP.n ?_ | refine kblockP.r ?_ | refine kblockP.e ?_ | refine kblockP.o rfl ?_ | refine Runs.seq ?_ | refine Runs.region ?_ | refine Runs.block ?_ | refine Runs.cond ?_ | refine Runs.skip ?_ | refine Runs.loop ?_ | refine Runs.exit ?_ | refine Runs.ret ?_)
  refine pleave.r rfl ?_
  rw [hres]
  exact ⟨rfl, (g02.trans g3).trans (g4.trans g5)⟩
end Go.Proofs.YtcenphnkcifbhaaGreatDoor

set_option maxRecDepth 100000
set_option linter.unusedVariables false
set_option linter.unusedSimpArgs false
namespace Go.Proofs.YtcenphnkcifbhaaGreatDoor
open Go.Cx
variable {w : World} {h : CH}
theorem fn_Actions : tab.fn 14 = some Tryz.f14 := by kernel_rfl
theorem Actions_calls {v vl : Value} {t : TabD} {l : List Int} (hv : TabV tab ks h v t) (hl : SlI tab ks.int h vl l) (hlen : TextsLt t.classes) (hll : l.length ≤ 1000) : CalF (X w) 14 [v, vl] h fun r h' => (∃ u, r = .ret u ∧ SlI tab ks.int h' u (ActionsR t l)) ∧ Gr h h' := by
  refine CalF.wf fun hwf => ?_
  have hV := hv
  obtain ⟨c, a, x, y, x', y', rfl, ho, hcl, hac, hx, hy, hx', hy'⟩ := hv
  simp only [Bool.and_eq_true] at ho
  clear hcl hac hx hy hx' hy'
  refine CalF.intro fn_Actions rfl (Nat.le_of_ble_eq_true rfl) ?_
  repeat (first | refine kthenP.n ?_ | refine kthenP.r ?_ | refine kthenP.e ?_ | refine kblockP.n ?_ | refine kblockP.r ?_ | refine kblockP.e ?_ | refine kblockP.o rfl ?_ | refine Runs.seq ?_ | refine Runs.region ?_ | refine Runs.block ?_ | refine Runs.cond ?_ | refine Runs.skip ?_ | refine Runs.loop ?_ | refine Runs.exit ?_ | refine Runs.ret ?_)
  refine pops.box (cs := [c, a, x, y, x', y']) rfl rfl rfl rfl (by simp [ho]) rfl rfl hwf fun b h1 hb hwf1 g1 hc => ?_
  replace hV := hV.gr hwf g1
  replace hl := Sl.gr hl hwf g1
  refine pops.fl rfl rfl rfl rfl rfl ?_
  refine pops.nil ?_
  repeat (first | refine kthenP.n ?_ | refine kthenP.r ?_ | refine kthenP.e ?_ | refine kblockP.n ?_ | refine kblockP.r ?_ | refine kblockP.e ?_ | refine kblockP.o rfl ?_ | refine Runs.seq ?_ | refine Runs.region ?_ | refine Runs.block ?_ | refine Runs.cond ?_ | refine Runs.skip ?_ | refine Runs.loop ?_ | refine Runs.exit ?_ | refine Runs.ret ?_)
  repeat (first | refine pops.bin rfl rfl rfl rfl rfl rfl (cbin_inc (by omega)) ?_ | refine pops.fl rfl rfl rfl rfl rfl ?_ | refine pops.skip rfl rfl rfl ?_ | refine pops.load rfl rfl rfl rfl rfl (by first | assumption | exact cload_of (by assumption) rfl) ?_ | refine pops.len rfl rfl rfl rfl rfl rfl rfl rfl (by first | exact SlA.len (by assumption) rfl | exact SlI.len (by assumption) rfl | exact SlS.len (by assumption) rfl | exact Sl.len (by assumption) rfl) ?_)
  refine pops.callG rfl rfl rfl rfl rfl fn_usable rfl rfl rfl (usable_calls hV hl hlen) fun h2 hwf2 g2 => ?_
  replace hc := g2.at hwf1 hc
  replace hV := hV.gr hwf1 g2
  replace hl := Sl.gr hl hwf1 g2
  have g02 := g1.trans g2
  unfold ActionsR
  cases hU : tt (UsableP t l) with
  | false =>
    repeat (first | refine pops.bin rfl rfl rfl rfl rfl rfl (cbin_inc (by omega)) ?_ | refine pops.fl rfl rfl rfl rfl rfl ?_ | refine pops.skip rfl rfl rfl ?_ | refine pops.load rfl rfl rfl rfl rfl (by first | assumption | exact cload_of (by assumption) rfl) ?_ | refine pops.len rfl rfl rfl rfl rfl rfl rfl rfl (by first | exact SlA.len (by assumption) rfl | exact SlI.len (by assumption) rfl | exact SlS.len (by assumption) rfl | exact Sl.len (by assumption) rfl) ?_)
    refine pops.nil ?_
    repeat (first | refine kthenP.n ?_ | refine kthenP.r ?_ | refine kthenP.e ?_ | refine kblockP.n ?_ | refine kblockP.r ?_ | refine kblockP.e ?_ | refine kblockP.o rfl ?_ | refine Runs.seq ?_ | refine Runs.region ?_ | refine Runs.block ?_ | refine Runs.cond ?_ | refine Runs.skip ?_ | refine Runs.loop ?_ | refine Runs.exit ?_ | refine Runs.ret ?_)
    refine pcond.t rfl ?_
    repeat (first | refine kthenP.n ?_ | refine kthenP.r ?_ | refine kthenP.e ?_ | refine kblockP.n ?_ | refine kblockP.r ?_ | refine kblockP.e ?_ | refine kblockP.o rfl ?_ | refine Runs.seq ?_ | refine Runs.region ?_ | refine Runs.block ?_ | refine Runs.cond ?_ | refine Runs.skip ?_ | refine Runs.loop ?_ | refine Runs.exit ?_ | refine Runs.ret ?_)
    repeat (first | refine pops.bin rfl rfl rfl rfl rfl rfl (cbin_inc (by omega)) ?_ | refine pops.fl rfl rfl rfl rfl rfl ?_ | refine pops.skip rfl rfl rfl ?_ | refine pops.load rfl rfl rfl rfl rfl (by first | assumption | exact cload_of (by assumption) rfl) ?_ | refine pops.len rfl rfl rfl rfl rfl rfl rfl rfl (by first | exact SlA.len (by assumption) rfl | exact SlI.len (by assumption) rfl | exact SlS.len (by assumption) rfl | exact Sl.len (by assumption) rfl) ?_)
    refine pops.nil ?_
    repeat (first | refine kthenP.n ?_ | refine kthenP.r ?_ | refine kthenP.e ?_ | refine kblockP.n ?_ | refine kblockP.r ?_ | refine kblockP.e ?_ | refine kblockP.o rfl ?_ | refine Runs.seq ?_ | refine Runs.region ?_ | refine Runs.block ?_ | refine Runs.cond ?_ | refine Runs.skip ?_ | refine Runs.loop ?_ | refine Runs.exit ?_ | refine Runs.ret ?_)
    refine pleave.r rfl ?_
    exact ⟨⟨_, rfl, nil_ints⟩, g02⟩
  | true =>
  replace hU := tt_iff.1 hU
  repeat (first | refine pops.bin rfl rfl rfl rfl rfl rfl (cbin_inc (by omega)) ?_ | refine pops.fl rfl rfl rfl rfl rfl ?_ | refine pops.skip rfl rfl rfl ?_ | refine pops.load rfl rfl rfl rfl rfl (by first | assumption | exact cload_of (by assumption) rfl) ?_ | refine pops.len rfl rfl rfl rfl rfl rfl rfl rfl (by first | exact SlA.len (by assumption) rfl | exact SlI.len (by assumption) rfl | exact SlS.len (by assumption) rfl | exact Sl.len (by assumption) rfl) ?_)
  refine pops.nil ?_
  repeat (first | refine kthenP.n ?_ | refine kthenP.r ?_ | refine kthenP.e ?_ | refine kblockP.n ?_ | refine kblockP.r ?_ | refine kblockP.e ?_ | refine kblockP.o rfl ?_ | refine Runs.seq ?_ | refine Runs.region ?_ | refine Runs.block ?_ | refine Runs.cond ?_ | refine Runs.skip ?_ | refine Runs.loop ?_ | refine Runs.exit ?_ | refine Runs.ret ?_)
  refine pcond.f rfl ?_
  repeat (first | refine kthenP.n ?_ | refine kthenP.r ?_ | refine kthenP.e ?_ | refine kblockP.n ?_ | refine kblockP.r ?_ | refine kblockP.e ?_ | refine kblockP.o rfl ?_ | refine Runs.seq ?_ | refine Runs.region ?_ | refine Runs.block ?_ | refine Runs.cond ?_ | refine Runs.skip ?_ | refine Runs.loop ?_ | refine Runs.exit ?_ | refine Runs.ret ?_)
  refine PG.start _ rfl rfl ?_
  repeat (first | refine PG.skip (by decide +kernel) ?_ | refine PG.take (by decide +kernel) rfl rfl rfl rfl ?_ | refine PG.load (by decide +kernel) rfl rfl rfl rfl rfl (by first | assumption | exact cload_of (by assumption) rfl) ?_ | refine PG.drop (by decide +kernel) rfl rfl rfl ?_)
  refine PG.nil ?_
  refine pd1.callR 2 rfl (by kernel_rfl) rfl rfl rfl rfl rfl fn_left rfl rfl rfl ((left_calls hV hl hU hll).monoW fun r h3 hwf3 hh => ?_)
  obtain ⟨⟨u1, rfl, hu1⟩, g3⟩ := hh
  replace hc := g3.at hwf2 hc
  replace hV := hV.gr hwf2 g3
  replace hl := Sl.gr hl hwf2 g3
  refine ⟨u1, rfl, _, by (repeat (first | exact Reck.nil | (apply Reck.dropI; decide +kernel) | (apply Reck.keep; rfl) | (apply Reck.load; rfl; rfl; first | assumption | exact cload_of (by assumption) rfl) | (apply Reck.same; rfl))), ?_⟩
  repeat (first | refine PG.skip (by decide +kernel) ?_ | refine PG.take (by decide +kernel) rfl rfl rfl rfl ?_ | refine PG.load (by decide +kernel) rfl rfl rfl rfl rfl (by first | assumption | exact cload_of (by assumption) rfl) ?_ | refine PG.drop (by decide +kernel) rfl rfl rfl ?_)
  refine PG.nil ?_
  refine pd1.callR 5 rfl (by kernel_rfl) rfl rfl rfl rfl rfl fn_right rfl rfl rfl ((right_calls hV hl hU hll).monoW fun r h4 hwf4 hh => ?_)
  obtain ⟨⟨u2, rfl, hu2⟩, g4⟩ := hh
  replace hc := g4.at hwf3 hc
  replace hV := hV.gr hwf3 g4
  replace hu1 := Sl.gr hu1 hwf3 g4
  refine ⟨u2, rfl, _, by (repeat (first | exact Reck.nil | (apply Reck.dropI; decide +kernel) | (apply Reck.keep; rfl) | (apply Reck.load; rfl; rfl; first | assumption | exact cload_of (by assumption) rfl) | (apply Reck.same; rfl))), ?_⟩
  repeat (first | refine PG.skip (by decide +kernel) ?_ | refine PG.take (by decide +kernel) rfl rfl rfl rfl ?_ | refine PG.load (by decide +kernel) rfl rfl rfl rfl rfl (by first | assumption | exact cload_of (by assumption) rfl) ?_ | refine PG.drop (by decide +kernel) rfl rfl rfl ?_)
  refine PG.nil ?_
  refine pd1.fin (by kernel_rfl) (by kernel_rfl) ?_
  have g04 := (g02.trans g3).trans g4
  clear g1 g2 g3 g4 g02 hwf1 hwf2 hwf3
  repeat (first | refine kthenP.n ?_ | refine kthenP.r ?_ | refine kthenP.e ?_ | refine kblockP.n ?_ | refine kblockP.r ?_ | refine kblockP.e ?_ | refine kblockP.o rfl ?_ | refine Runs.seq ?_ | refine Runs.region ?_ | refine Runs.block ?_ | refine Runs.cond ?_ | refine Runs.skip ?_ | refine Runs.loop ?_ | refine Runs.exit ?_ | refine Runs.ret ?_)
  repeat (first | refine pops.bin rfl rfl rfl rfl rfl rfl (cbin_inc (by omega)) ?_ | refine pops.fl rfl rfl rfl rfl rfl ?_ | refine pops.skip rfl rfl rfl ?_ | refine pops.load rfl rfl rfl rfl rfl (by first | assumption | exact cload_of (by assumption) rfl) ?_ | refine pops.len rfl rfl rfl rfl rfl rfl rfl rfl (by first | exact SlA.len (by assumption) rfl | exact SlI.len (by assumption) rfl | exact SlS.len (by assumption) rfl | exact Sl.len (by assumption) rfl) ?_)
  refine pops.nil ?_
  repeat (first | refine kthenP.n ?_ | refine kthenP.r ?_ | refine kthenP.e ?_ | refine kblockP.n ?_ | refine kblockP.r ?_ | refine kblockP.e ?_ | refine kblockP.o rfl ?_ | refine Runs.seq ?_ | refine Runs.region ?_ | refine Runs.block ?_ | refine Runs.cond ?_ | refine Runs.skip ?_ | refine Runs.loop ?_ | refine Runs.exit ?_ | refine Runs.ret ?_)
  repeat (first | refine pops.bin rfl rfl rfl rfl rfl rfl (cbin_inc (by omega)) ?_ | refine pops.fl rfl rfl rfl rfl rfl ?_ | refine pops.skip rfl rfl rfl ?_ | refine pops.load rfl rfl rfl rfl rfl (by first | assumption | exact cload_of (by assumption) rfl) ?_ | refine pops.len rfl rfl rfl rfl rfl rfl rfl rfl (by first | exact SlA.len (by assumption) rfl | exact SlI.len (by assumption) rfl | exact SlS.len (by assumption) rfl | exact Sl.len (by assumption) rfl) ?_)
  refine pops.nil ?_
  repeat (first | refine kthenP.n ?_ | refine kthenP.r ?_ | refine kthenP.e ?_ | refine kblockP.n ?_ | refine kblockP.r ?_ | refine kblockP.e ?_ | refine kblockP.o rfl ?_ | refine Runs.seq ?_ | refine Runs.region ?_ | refine Runs.block ?_ | refine Runs.cond ?_ | refine Runs.skip ?_ | refine Runs.loop ?_ | refine Runs.exit ?_ | refine Runs.ret ?_)
  refine Loops.ind 6 (fun s : Nat × Value => [(2, .pointer (some ⟨b, 0, none⟩)), (6, u2), (7, s.2), (22, u1), (23, .int .i64 ((leftS t l).length : Nat)), (24, .int .i64 (s.1 : Nat))])
    (fun s h' => s.1 ≤ l.length + 1 ∧ Gr h4 h' ∧ ∃ b', h4.n ≤ b' ∧ Own h' s.2 b' ((List.range s.1).map fun i => Value.int .i64 (decS t (st t.left.next l i) (rst t.right.next l (l.length - i))).1))
    (fun s => l.length + 1 - s.1) (0, .slice none 0 0) (by decide) ⟨rfl, rfl, rfl, rfl, rfl, rfl, trivial⟩ ⟨Nat.zero_le _, Gr.refl _, h4.n, Nat.le_refl _, .inl ⟨rfl, rfl⟩⟩ ?_
  rintro ⟨i, vo⟩ z h' hwf' ⟨hi, g2, b', hb', hown⟩
  simp only at hi hown hb'
  replace hc := g2.at hwf4 hc
  replace hV := hV.gr hwf4 g2
  replace hu1 := Sl.gr hu1 hwf4 g2
  replace hu2 := Sl.gr hu2 hwf4 g2
  have hll1 := leftS_length t l
  repeat (first | refine kthenP.n ?_ | refine kthenP.r ?_ | refine kthenP.e ?_ | refine kblockP.n ?_ | refine kblockP.r ?_ | refine kblockP.e ?_ | refine kblockP.o rfl ?_ | refine Runs.seq ?_ | refine Runs.region ?_ | refine Runs.block ?_ | refine Runs.cond ?_ | refine Runs.skip ?_ | refine Runs.loop ?_ | refine Runs.exit ?_ | refine Runs.ret ?_)
  repeat (first | refine pops.bin rfl rfl rfl rfl rfl rfl (cbin_inc (by omega)) ?_ | refine pops.fl rfl rfl rfl rfl rfl ?_ | refine pops.skip rfl rfl rfl ?_ | refine pops.load rfl rfl rfl rfl rfl (by first | assumption | exact cload_of (by assumption) rfl) ?_ | refine pops.len rfl rfl rfl rfl rfl rfl rfl rfl (by first | exact SlA.len (by assumption) rfl | exact SlI.len (by assumption) rfl | exact SlS.len (by assumption) rfl | exact Sl.len (by assumption) rfl) ?_)
  refine pops.nil ?_
  repeat (first | refine kthenP.n ?_ | refine kthenP.r ?_ | refine kthenP.e ?_ | refine kblockP.n ?_ | refine kblockP.r ?_ | refine kblockP.e ?_ | refine kblockP.o rfl ?_ | refine Runs.seq ?_ | refine Runs.region ?_ | refine Runs.block ?_ | refine Runs.cond ?_ | refine Runs.skip ?_ | refine Runs.loop ?_ | refine Runs.exit ?_ | refine Runs.ret ?_)
  refine pcond.d (p := (i : Int) < ((leftS t l).length : Nat)) rfl (fun hlt => ?_) (fun hge => ?_)
  · have hlt : i ≤ l.length := by omega
    obtain ⟨p2, hp2, hq2⟩ := Sl.readM hu2 hwf' (ts := 23) rfl (rightS_get hlt) .i64
    have hq2' : cload (X w).T h' 3 p2 = some (.int .i64 (rst t.right.next l (l.length - i) : Int)) := hq2 _ (Gr.refl _)
    repeat (first | refine kthenP.n ?_ | refine kthenP.r ?_ | refine kthenP.e ?_ | refine kblockP.n ?_ | refine kblockP.r ?_ | refine kblockP.e ?_ | refine kblockP.o rfl ?_ | refine Runs.seq ?_ | refine Runs.region ?_ | refine Runs.block ?_ | refine Runs.cond ?_ | refine Runs.skip ?_ | refine Runs.loop ?_ | refine Runs.exit ?_ | refine Runs.ret ?_)
    refine pops.fl rfl rfl rfl rfl rfl ?_
    refine pops.atI (f := Value.int .i64) rfl rfl rfl rfl rfl rfl rfl hu1 (leftS_get hlt) fun p hp => ?_
    repeat (first | refine pops.bin rfl rfl rfl rfl rfl rfl (cbin_inc (by omega)) ?_ | refine pops.fl rfl rfl rfl rfl rfl ?_ | refine pops.skip rfl rfl rfl ?_ | refine pops.load rfl rfl rfl rfl rfl (by first | assumption | exact cload_of (by assumption) rfl) ?_ | refine pops.len rfl rfl rfl rfl rfl rfl rfl rfl (by first | exact SlA.len (by assumption) rfl | exact SlI.len (by assumption) rfl | exact SlS.len (by assumption) rfl | exact Sl.len (by assumption) rfl) ?_)
    refine pops.nil ?_
    repeat (first | refine kthenP.n ?_ | refine kthenP.r ?_ | refine kthenP.e ?_ | refine kblockP.n ?_ | refine kblockP.r ?_ | refine kblockP.e ?_ | refine kblockP.o rfl ?_ | refine Runs.seq ?_ | refine Runs.region ?_ | refine Runs.block ?_ | refine Runs.cond ?_ | refine Runs.skip ?_ | refine Runs.loop ?_ | refine Runs.exit ?_ | refine Runs.ret ?_)
    refine PG.start _ rfl rfl ?_
    refine PG.load (by decide +kernel) rfl rfl rfl rfl rfl (by first | assumption | exact cload_of (by assumption) rfl) ?_
    refine PG.take (by decide +kernel) rfl rfl rfl rfl ?_
    refine PG.take (by decide +kernel) rfl rfl rfl rfl ?_
    refine PG.take (by decide +kernel) rfl rfl rfl rfl ?_
    refine PG.take (by decide +kernel) rfl rfl rfl (hp2) ?_
    repeat (first | refine PG.skip (by decide +kernel) ?_ | refine PG.take (by decide +kernel) rfl rfl rfl rfl ?_ | refine PG.load (by decide +kernel) rfl rfl rfl rfl rfl (by first | assumption | exact cload_of (by assumption) rfl) ?_ | refine PG.drop (by decide +kernel) rfl rfl rfl ?_)
    refine PG.nil ?_
    refine pd1.callG 6 rfl (by kernel_rfl) rfl rfl rfl rfl rfl fn_decided rfl rfl rfl (decided_calls hV hU.1 (st_ok hU.1.2.2.2.1 hU.2 i hlt) (rst_ok hU.1.2.2.2.2 hU.2 (l.length - i) (by omega))) fun h5 hwf5 g5 => ?_
    replace hc := g5.at hwf' hc
    refine ⟨_, by (repeat (first | exact Reck.nil | (apply Reck.dropI; decide +kernel) | (apply Reck.keep; rfl) | (apply Reck.load; rfl; rfl; first | assumption | exact cload_of (by assumption) rfl) | (apply Reck.same; rfl))), ?_⟩
    repeat (first | refine PG.skip (by decide +kernel) ?_ | refine PG.take (by decide +kernel) rfl rfl rfl rfl ?_ | refine PG.load (by decide +kernel) rfl rfl rfl rfl rfl (by first | assumption | exact cload_of (by assumption) rfl) ?_ | refine PG.drop (by decide +kernel) rfl rfl rfl ?_)
    refine PG.nil ?_
    refine pd1.fin (by kernel_rfl) (by kernel_rfl) ?_
    repeat (first | refine kthenP.n ?_ | refine kthenP.r ?_ | refine kthenP.e ?_ | refine kblockP.n ?_ | refine kblockP.r ?_ | refine kblockP.e ?_ | refine kblockP.o rfl ?_ | refine Runs.seq ?_ | refine Runs.region ?_ | refine Runs.block ?_ | refine Runs.cond ?_ | refine Runs.skip ?_ | refine Runs.loop ?_ | refine Runs.exit ?_ | refine Runs.ret ?_)
    refine pops.fl rfl rfl rfl rfl rfl ?_
    refine pops.fl rfl rfl rfl rfl rfl ?_
    refine pops.buildSlice (cs := [.int .i64 (decS t (st t.left.next l i) (rst t.right.next l (l.length - i))).1]) rfl rfl rfl rfl rfl hwf5 fun b1 h6 hb1 hwf6 g6 hc6 => ?_
    refine pops.append1 rfl rfl rfl rfl rfl rfl rfl rfl rfl rfl rfl rfl rfl rfl rfl rfl rfl hwf6 (hown.gr hwf' (g5.trans g6)) rfl hc6 (by simp; omega) fun v' b2 h7 hwf7 ch hb2 hown7 => ?_
    have g7 : Gr h4 h7 := ((g2.trans g5).trans g6).chg hb' ch
    repeat (first | refine pops.bin rfl rfl rfl rfl rfl rfl (cbin_inc (by omega)) ?_ | refine pops.fl rfl rfl rfl rfl rfl ?_ | refine pops.skip rfl rfl rfl ?_ | refine pops.load rfl rfl rfl rfl rfl (by first | assumption | exact cload_of (by assumption) rfl) ?_ | refine pops.len rfl rfl rfl rfl rfl rfl rfl rfl (by first | exact SlA.len (by assumption) rfl | exact SlI.len (by assumption) rfl | exact SlS.len (by assumption) rfl | exact Sl.len (by assumption) rfl) ?_)
    refine pops.nil ?_
    repeat (first | refine kthenP.n ?_ | refine kthenP.r ?_ | refine kthenP.e ?_ | refine kblockP.n ?_ | refine kblockP.r ?_ | refine kblockP.e ?_ | refine kblockP.o rfl ?_ | refine Runs.seq ?_ | refine Runs.region ?_ | refine Runs.block ?_ | refine Runs.cond ?_ | refine Runs.skip ?_ | refine Runs.loop ?_ | refine Runs.exit ?_ | refine Runs.ret ?_)
    repeat (first | refine pops.bin rfl rfl rfl rfl rfl rfl (cbin_inc (by omega)) ?_ | refine pops.fl rfl rfl rfl rfl rfl ?_ | refine pops.skip rfl rfl rfl ?_ | refine pops.load rfl rfl rfl rfl rfl (by first | assumption | exact cload_of (by assumption) rfl) ?_ | refine pops.len rfl rfl rfl rfl rfl rfl rfl rfl (by first | exact SlA.len (by assumption) rfl | exact SlI.len (by assumption) rfl | exact SlS.len (by assumption) rfl | exact Sl.len (by assumption) rfl) ?_)
    refine pops.nil ?_
    refine .n ⟨_, (i + 1, v'), rfl, ⟨rfl, rfl, rfl, rfl, rfl, rfl, trivial⟩, (by show l.length + 1 - (i + 1) < l.length + 1 - i; omega), (by show i + 1 ≤ l.length + 1; omega), g7, b2, Nat.le_trans ((g2.trans g5).trans g6).n hb2, ?_⟩
    show Own h7 v' b2 ((List.range (i + 1)).map _)
    rw [List.range_succ, List.map_append]
    exact hown7
  · repeat (first | refine kthenP.n ?_ | refine kthenP.r ?_ | refine kthenP.e ?_ | refine kblockP.n ?_ | refine kblockP.r ?_ | refine kblockP.e ?_ | refine kblockP.o rfl ?_ | refine Runs.seq ?_ | refine Runs.region ?_ | refine Runs.block ?_ | refine Runs.cond ?_ | refine Runs.skip ?_ | refine Runs.loop ?_ | refine Runs.exit ?_ | refine Runs.ret ?_)
    have hi' : i = l.length + 1 := by omega
    subst hi'
    repeat (first | refine pops.bin rfl rfl rfl rfl rfl rfl (cbin_inc (by omega)) ?_ | refine pops.fl rfl rfl rfl rfl rfl ?_ | refine pops.skip rfl rfl rfl ?_ | refine pops.load rfl rfl rfl rfl rfl (by first | assumption | exact cload_of (by assumption) rfl) ?_ | refine pops.len rfl rfl rfl rfl rfl rfl rfl rfl (by first | exact SlA.len (by assumption) rfl | exact SlI.len (by assumption) rfl | exact SlS.len (by assumption) rfl | exact Sl.len (by assumption) rfl) ?_)
    refine pops.nil ?_
    repeat (first | refine kthenP.n ?_ | refine kthenP.r ?_ | refine kthenP.e ?_ | refine kblockP.n ?_ | refine kblockP.r ?_ | refine kblockP.e ?_ | refine kblockP.o rfl ?_ | refine Runs.seq ?_ | refine Runs.region ?_ | refine Runs.block ?_ | refine Runs.cond ?_ | refine Runs.skip ?_ | refine Runs.loop ?_ | refine Runs.exit ?_ | refine Runs.ret ?_)
    refine pleave.r rfl ?_
    refine ⟨⟨vo, rfl, ?_⟩, g04.trans g2⟩
    show Sl _ _ _ _ (List.map _ (List.map _ _))
    rw [List.map_map]
    exact hown.sl rfl rfl rfl (by simp; omega)
end Go.Proofs.YtcenphnkcifbhaaGreatDoor

set_option maxRecDepth 100000
set_option linter.unusedVariables false
set_option linter.unusedSimpArgs false
namespace Go.Proofs.YtcenphnkcifbhaaGreatDoor
open Go.Cx
variable {w : World} {h : CH}
theorem fn_refusable : tab.fn 23 = some Tryz.f23 := by kernel_rfl
theorem refusable_calls {v vl : Value} {t : TabD} {l : List Int} (hv : TabV tab ks h v t) (hl : SlI tab ks.int h vl l) (hlen : TextsLt t.classes) : CalF (X w) 23 [v, vl] h fun r h' => r = .ret (.bool (tt (UsableP t l))) ∧ Gr h h' := by
  refine CalF.wf fun hwf => ?_
  have hV := hv
  obtain ⟨c, a, x, y, x', y', rfl, ho, hcl, hac, hx, hy, hx', hy'⟩ := hv
  simp only [Bool.and_eq_true] at ho
  have hlt := hl.lt
  refine CalF.intro fn_refusable rfl (Nat.le_of_ble_eq_true rfl) ?_
  repeat (first | refine kthenP.n ?_ | refine kthenP.r ?_ | refine kthenP.e ?_ | refine kblockP.n ?_ | refine kblockP.r ?_ | refine kblockP.e ?_ | refine kblockP.o rfl ?_ | refine Runs.seq ?_ | refine Runs.region ?_ | refine Runs.block ?_ | refine Runs.cond ?_ | refine Runs.skip ?_ | refine Runs.loop ?_ | refine Runs.exit ?_ | refine Runs.ret ?_)
  refine pops.box (cs := [c, a, x, y, x', y']) rfl rfl rfl rfl (by simp [ho]) rfl rfl hwf fun b h1 hb hwf1 g1 hc => ?_
  replace hV := hV.gr hwf g1
  replace hl := Sl.gr hl hwf g1
  replace hcl := Sl.gr hcl hwf g1
  refine pops.fl rfl rfl rfl rfl rfl ?_
  refine pops.nil ?_
  repeat (first | refine kthenP.n ?_ | refine kthenP.r ?_ | refine kthenP.e ?_ | refine kblockP.n ?_ | refine kblockP.r ?_ | refine kblockP.e ?_ | refine kblockP.o rfl ?_ | refine Runs.seq ?_ | refine Runs.region ?_ | refine Runs.block ?_ | refine Runs.cond ?_ | refine Runs.skip ?_ | refine Runs.loop ?_ | refine Runs.exit ?_ | refine Runs.ret ?_)
  repeat (first | refine pops.bin rfl rfl rfl rfl rfl rfl (cbin_inc (by omega)) ?_ | refine pops.fl rfl rfl rfl rfl rfl ?_ | refine pops.skip rfl rfl rfl ?_ | refine pops.load rfl rfl rfl rfl rfl (by first | assumption | exact cload_of (by assumption) rfl) ?_ | refine pops.len rfl rfl rfl rfl rfl rfl rfl rfl (by first | exact SlA.len (by assumption) rfl | exact SlI.len (by assumption) rfl | exact SlS.len (by assumption) rfl | exact Sl.len (by assumption) rfl) ?_)
  refine pops.nil ?_
  repeat (first | refine kthenP.n ?_ | refine kthenP.r ?_ | refine kthenP.e ?_ | refine kblockP.n ?_ | refine kblockP.r ?_ | refine kblockP.e ?_ | refine kblockP.o rfl ?_ | refine Runs.seq ?_ | refine Runs.region ?_ | refine Runs.block ?_ | refine Runs.cond ?_ | refine Runs.skip ?_ | refine Runs.loop ?_ | refine Runs.exit ?_ | refine Runs.ret ?_)
  refine Loops.ind 5 (fun i : Nat => [(1, vl), (2, .pointer (some ⟨b, 0, none⟩)), (4, .bool false), (5, .int .i64 (i : Nat))]) (fun i h' => i ≤ l.length ∧ h' = h1 ∧ ∀ (j : Nat) z, j < i → l[j]? = some z → 0 ≤ z ∧ z < (t.classes.length : Int)) (fun i => l.length - i) 0 (by decide) ⟨rfl, rfl, rfl, rfl, trivial⟩ ⟨Nat.zero_le _, rfl, all_none⟩ ?_
  rintro i z h' hwf' ⟨hi, rfl, hall⟩
  repeat (first | refine kthenP.n ?_ | refine kthenP.r ?_ | refine kthenP.e ?_ | refine kblockP.n ?_ | refine kblockP.r ?_ | refine kblockP.e ?_ | refine kblockP.o rfl ?_ | refine Runs.seq ?_ | refine Runs.region ?_ | refine Runs.block ?_ | refine Runs.cond ?_ | refine Runs.skip ?_ | refine Runs.loop ?_ | refine Runs.exit ?_ | refine Runs.ret ?_)
  repeat (first | refine pops.bin rfl rfl rfl rfl rfl rfl (cbin_inc (by omega)) ?_ | refine pops.fl rfl rfl rfl rfl rfl ?_ | refine pops.skip rfl rfl rfl ?_ | refine pops.load rfl rfl rfl rfl rfl (by first | assumption | exact cload_of (by assumption) rfl) ?_ | refine pops.len rfl rfl rfl rfl rfl rfl rfl rfl (by first | exact SlA.len (by assumption) rfl | exact SlI.len (by assumption) rfl | exact SlS.len (by assumption) rfl | exact Sl.len (by assumption) rfl) ?_)
  refine pops.nil ?_
  repeat (first | refine kthenP.n ?_ | refine kthenP.r ?_ | refine kthenP.e ?_ | refine kblockP.n ?_ | refine kblockP.r ?_ | refine kblockP.e ?_ | refine kblockP.o rfl ?_ | refine Runs.seq ?_ | refine Runs.region ?_ | refine Runs.block ?_ | refine Runs.cond ?_ | refine Runs.skip ?_ | refine Runs.loop ?_ | refine Runs.exit ?_ | refine Runs.ret ?_)
  refine pcond.d (p := (i : Int) < (l.length : Nat)) rfl (fun hlt => ?_) (fun hge => ?_)
  · have hlt : i < l.length := by omega
    obtain ⟨q, hq⟩ : ∃ q, l[i]? = some q := ⟨_, List.getElem?_eq_getElem hlt⟩
    obtain ⟨p1, hp1, hq1⟩ := Sl.readM hl hwf' (ts := 23) rfl hq .i64
    have bad : ¬ (0 ≤ q ∧ q < (t.classes.length : Int)) → tt (UsableP t l) = false := fun hn => tt_f fun hU => hn (hU.2 q (List.mem_of_getElem? hq))
    repeat (first | refine kthenP.n ?_ | refine kthenP.r ?_ | refine kthenP.e ?_ | refine kblockP.n ?_ | refine kblockP.r ?_ | refine kblockP.e ?_ | refine kblockP.o rfl ?_ | refine Runs.seq ?_ | refine Runs.region ?_ | refine Runs.block ?_ | refine Runs.cond ?_ | refine Runs.skip ?_ | refine Runs.loop ?_ | refine Runs.exit ?_ | refine Runs.ret ?_)
    refine PG.start _ rfl rfl ?_
    refine PG.take (by decide +kernel) rfl rfl rfl rfl ?_
    refine PG.take (by decide +kernel) rfl rfl rfl rfl ?_
    refine PG.take (by decide +kernel) rfl rfl rfl (hp1) ?_
    refine PG.take (by decide +kernel) rfl rfl rfl (hq1 _ (Gr.refl _)) ?_
    by_cases h0 : q < 0
    · refine PG.take (by decide +kernel) rfl rfl rfl (congrArg (fun b => some (Value.bool b)) (decide_eq_true h0)) ?_
      repeat (first | refine PG.skip (by decide +kernel) ?_ | refine PG.take (by decide +kernel) rfl rfl rfl rfl ?_ | refine PG.load (by decide +kernel) rfl rfl rfl rfl rfl (by first | assumption | exact cload_of (by assumption) rfl) ?_ | refine PG.drop (by decide +kernel) rfl rfl rfl ?_)
      refine PG.nil ?_
      refine pd1.fin (by kernel_rfl) (by kernel_rfl) ?_
      repeat (first | refine kthenP.n ?_ | refine kthenP.r ?_ | refine kthenP.e ?_ | refine kblockP.n ?_ | refine kblockP.r ?_ | refine kblockP.e ?_ | refine kblockP.o rfl ?_ | refine Runs.seq ?_ | refine Runs.region ?_ | refine Runs.block ?_ | refine Runs.cond ?_ | refine Runs.skip ?_ | refine Runs.loop ?_ | refine Runs.exit ?_ | refine Runs.ret ?_)
      refine pcond.t rfl ?_
      repeat (first | refine kthenP.n ?_ | refine kthenP.r ?_ | refine kthenP.e ?_ | refine kblockP.n ?_ | refine kblockP.r ?_ | refine kblockP.e ?_ | refine kblockP.o rfl ?_ | refine Runs.seq ?_ | refine Runs.region ?_ | refine Runs.block ?_ | refine Runs.cond ?_ | refine Runs.skip ?_ | refine Runs.loop ?_ | refine Runs.exit ?_ | refine Runs.ret ?_)
      repeat (first | refine pops.bin rfl rfl rfl rfl rfl rfl (cbin_inc (by omega)) ?_ | refine pops.fl rfl rfl rfl rfl rfl ?_ | refine pops.skip rfl rfl rfl ?_ | refine pops.load rfl rfl rfl rfl rfl (by first | assumption | exact cload_of (by assumption) rfl) ?_ | refine pops.len rfl rfl rfl rfl rfl rfl rfl rfl (by first | exact SlA.len (by assumption) rfl | exact SlI.len (by assumption) rfl | exact SlS.len (by assumption) rfl | exact Sl.len (by assumption) rfl) ?_)
      refine pops.nil ?_
      repeat (first | refine kthenP.n ?_ | refine kthenP.r ?_ | refine kthenP.e ?_ | refine kblockP.n ?_ | refine kblockP.r ?_ | refine kblockP.e ?_ | refine kblockP.o rfl ?_ | refine Runs.seq ?_ | refine Runs.region ?_ | refine Runs.block ?_ | refine Runs.cond ?_ | refine Runs.skip ?_ | refine Runs.loop ?_ | refine Runs.exit ?_ | refine Runs.ret ?_)
      refine pleave.r rfl ?_
      refine ⟨?_, g1⟩
      rw [bad (by omega)]
    · refine PG.take (by decide +kernel) rfl rfl rfl (congrArg (fun b => some (Value.bool b)) (decide_eq_false h0)) ?_
      refine PG.take (by decide +kernel) rfl rfl rfl rfl ?_
      refine PG.take (by decide +kernel) rfl rfl rfl rfl ?_
      refine PG.take (by decide +kernel) rfl rfl rfl rfl ?_
      refine PG.take (by decide +kernel) rfl rfl rfl (hp1) ?_
      refine PG.take (by decide +kernel) rfl rfl rfl (hq1 _ (Gr.refl _)) ?_
      refine PG.take (by decide +kernel) rfl rfl rfl rfl ?_
      refine PG.load (by decide +kernel) rfl rfl rfl rfl rfl (by first | assumption | exact cload_of (by assumption) rfl) ?_
      refine PG.take (by decide +kernel) rfl rfl rfl (SlS.len (ts := 22) hcl rfl) ?_
      refine PG.take (by decide +kernel) rfl rfl rfl rfl ?_
      refine PG.take (by decide +kernel) rfl rfl rfl rfl ?_
      refine PG.nil ?_
      refine pd1.fin (by kernel_rfl) (by kernel_rfl) ?_
      repeat (first | refine kthenP.n ?_ | refine kthenP.r ?_ | refine kthenP.e ?_ | refine kblockP.n ?_ | refine kblockP.r ?_ | refine kblockP.e ?_ | refine kblockP.o rfl ?_ | refine Runs.seq ?_ | refine Runs.region ?_ | refine Runs.block ?_ | refine Runs.cond ?_ | refine Runs.skip ?_ | refine Runs.loop ?_ | refine Runs.exit ?_ | refine Runs.ret ?_)
      refine pcond.d (p := (t.classes.length : Int) ≤ q) rfl (fun hlt => ?_) (fun hge => ?_)
      · repeat (first | refine kthenP.n ?_ | refine kthenP.r ?_ | refine kthenP.e ?_ | refine kblockP.n ?_ | refine kblockP.r ?_ | refine kblockP.e ?_ | refine kblockP.o rfl ?_ | refine Runs.seq ?_ | refine Runs.region ?_ | refine Runs.block ?_ | refine Runs.cond ?_ | refine Runs.skip ?_ | refine Runs.loop ?_ | refine Runs.exit ?_ | refine Runs.ret ?_)
        repeat (first | refine pops.bin rfl rfl rfl rfl rfl rfl (cbin_inc (by omega)) ?_ | refine pops.fl rfl rfl rfl rfl rfl ?_ | refine pops.skip rfl rfl rfl ?_ | refine pops.load rfl rfl rfl rfl rfl (by first | assumption | exact cload_of (by assumption) rfl) ?_ | refine pops.len rfl rfl rfl rfl rfl rfl rfl rfl (by first | exact SlA.len (by assumption) rfl | exact SlI.len (by assumption) rfl | exact SlS.len (by assumption) rfl | exact Sl.len (by assumption) rfl) ?_)
        refine pops.nil ?_
        repeat (first | refine kthenP.n ?_ | refine kthenP.r ?_ | refine kthenP.e ?_ | refine kblockP.n ?_ | refine kblockP.r ?_ | refine kblockP.e ?_ | refine kblockP.o rfl ?_ | refine Runs.seq ?_ | refine Runs.region ?_ | refine Runs.block ?_ | refine Runs.cond ?_ | refine Runs.skip ?_ | refine Runs.loop ?_ | refine Runs.exit ?_ | refine Runs.ret ?_)
        refine pleave.r rfl ?_
        refine ⟨?_, g1⟩
        rw [bad (by omega)]
      · repeat (first | refine kthenP.n ?_ | refine kthenP.r ?_ | refine kthenP.e ?_ | refine kblockP.n ?_ | refine kblockP.r ?_ | refine kblockP.e ?_ | refine kblockP.o rfl ?_ | refine Runs.seq ?_ | refine Runs.region ?_ | refine Runs.block ?_ | refine Runs.cond ?_ | refine Runs.skip ?_ | refine Runs.loop ?_ | refine Runs.exit ?_ | refine Runs.ret ?_)
        repeat (first | refine pops.bin rfl rfl rfl rfl rfl rfl (cbin_inc (by omega)) ?_ | refine pops.fl rfl rfl rfl rfl rfl ?_ | refine pops.skip rfl rfl rfl ?_ | refine pops.load rfl rfl rfl rfl rfl (by first | assumption | exact cload_of (by assumption) rfl) ?_ | refine pops.len rfl rfl rfl rfl rfl rfl rfl rfl (by first | exact SlA.len (by assumption) rfl | exact SlI.len (by assumption) rfl | exact SlS.len (by assumption) rfl | exact Sl.len (by assumption) rfl) ?_)
        refine pops.nil ?_
        refine .n ⟨_, i + 1, rfl, ⟨rfl, rfl, rfl, rfl, trivial⟩, (by show l.length - (i + 1) < l.length - i; omega), by omega, rfl, all_next hall hq ⟨by omega, by omega⟩⟩
  · repeat (first | refine kthenP.n ?_ | refine kthenP.r ?_ | refine kthenP.e ?_ | refine kblockP.n ?_ | refine kblockP.r ?_ | refine kblockP.e ?_ | refine kblockP.o rfl ?_ | refine Runs.seq ?_ | refine Runs.region ?_ | refine Runs.block ?_ | refine Runs.cond ?_ | refine Runs.skip ?_ | refine Runs.loop ?_ | refine Runs.exit ?_ | refine Runs.ret ?_)
    have hA := all_end hall (by omega)
    refine pops.load rfl rfl rfl rfl rfl (by first | assumption | exact cload_of (by assumption) rfl) ?_
    refine pops.callG rfl rfl rfl rfl rfl fn_refvalid rfl rfl rfl (refvalid_calls hV hlen) fun h2 hwf2 g2 => ?_
    repeat (first | refine pops.bin rfl rfl rfl rfl rfl rfl (cbin_inc (by omega)) ?_ | refine pops.fl rfl rfl rfl rfl rfl ?_ | refine pops.skip rfl rfl rfl ?_ | refine pops.load rfl rfl rfl rfl rfl (by first | assumption | exact cload_of (by assumption) rfl) ?_ | refine pops.len rfl rfl rfl rfl rfl rfl rfl rfl (by first | exact SlA.len (by assumption) rfl | exact SlI.len (by assumption) rfl | exact SlS.len (by assumption) rfl | exact Sl.len (by assumption) rfl) ?_)
    refine pops.nil ?_
    repeat (first | refine kthenP.n ?_ | refine kthenP.r ?_ | refine kthenP.e ?_ | refine kblockP.n ?_ | refine kblockP.r ?_ | refine kblockP.e ?_ | refine kblockP.o rfl ?_ | refine Runs.seq ?_ | refine Runs.region ?_ | refine Runs.block ?_ | refine Runs.cond ?_ | refine Runs.skip ?_ | refine Runs.loop ?_ | refine Runs.exit ?_ | refine Runs.ret ?_)
    refine pleave.r rfl ?_
    refine ⟨?_, g1.trans g2⟩
    cases hP : tt (ValidP t) with
    | false =>
      rw [tt_f]
      intro hU
      rw [tt_t hU.1] at hP
      cases hP
    | true => rw [tt_t (p := UsableP t l) ⟨tt_iff.1 hP, hA⟩]
theorem fn_refLeft : tab.fn 9 = some Tryz.f9 := by kernel_rfl
theorem refLeft_calls {v vl : Value} {t : TabD} {l : List Int} (hv : TabV tab ks h v t) (hl : SlI tab ks.int h vl l) (hlen : TextsLt t.classes) (hll : l.length ≤ 1000) : CalF (X w) 9 [v, vl] h fun r h' => (∃ u, r = .ret u ∧ SlI tab ks.int h' u (LeftR t l)) ∧ Gr h h' := by
  refine CalF.wf fun hwf => ?_
  have hV := hv
  obtain ⟨c, a, x, y, x', y', rfl, ho, hcl, hac, hx, hy, hx', hy'⟩ := hv
  simp only [Bool.and_eq_true] at ho
  refine CalF.intro fn_refLeft rfl (Nat.le_of_ble_eq_true rfl) ?_
  repeat (first | refine kthenP.n ?_ | refine kthenP.r ?_ | refine kthenP.e ?_ | refine kblockP.n ?_ | refine kblockP.r ?_ | refine kblockP.e ?_ | refine kblockP.o rfl ?_ | refine Runs.seq ?_ | refine Runs.region ?_ | refine Runs.block ?_ | refine Runs.cond ?_ | refine Runs.skip ?_ | refine Runs.loop ?_ | refine Runs.exit ?_ | refine Runs.ret ?_)
  refine pops.box (cs := [c, a, x, y, x', y']) rfl rfl rfl rfl (by simp [ho]) rfl rfl hwf fun b h1 hb hwf1 g1 hc => ?_
  refine pops.fl rfl rfl rfl rfl rfl ?_
  refine pops.nil ?_
  repeat (first | refine kthenP.n ?_ | refine kthenP.r ?_ | refine kthenP.e ?_ | refine kblockP.n ?_ | refine kblockP.r ?_ | refine kblockP.e ?_ | refine kblockP.o rfl ?_ | refine Runs.seq ?_ | refine Runs.region ?_ | refine Runs.block ?_ | refine Runs.cond ?_ | refine Runs.skip ?_ | refine Runs.loop ?_ | refine Runs.exit ?_ | refine Runs.ret ?_)
  repeat (first | refine pops.bin rfl rfl rfl rfl rfl rfl (cbin_inc (by omega)) ?_ | refine pops.fl rfl rfl rfl rfl rfl ?_ | refine pops.skip rfl rfl rfl ?_ | refine pops.load rfl rfl rfl rfl rfl (by first | assumption | exact cload_of (by assumption) rfl) ?_ | refine pops.len rfl rfl rfl rfl rfl rfl rfl rfl (by first | exact SlA.len (by assumption) rfl | exact SlI.len (by assumption) rfl | exact SlS.len (by assumption) rfl | exact Sl.len (by assumption) rfl) ?_)
  refine pops.callG rfl rfl rfl rfl rfl fn_refusable rfl rfl rfl (refusable_calls (hV.gr hwf g1) (Sl.gr hl hwf g1) hlen) fun h2 hwf2 g2 => ?_
  have g02 := g1.trans g2
  replace hc := g2.at hwf1 hc
  replace hx := hx.gr hwf g02
  replace hl := Sl.gr hl hwf g02
  clear g1 g2 hwf1 hb h1
  unfold LeftR
  cases hU : tt (UsableP t l) with
  | false =>
    repeat (first | refine pops.bin rfl rfl rfl rfl rfl rfl (cbin_inc (by omega)) ?_ | refine pops.fl rfl rfl rfl rfl rfl ?_ | refine pops.skip rfl rfl rfl ?_ | refine pops.load rfl rfl rfl rfl rfl (by first | assumption | exact cload_of (by assumption) rfl) ?_ | refine pops.len rfl rfl rfl rfl rfl rfl rfl rfl (by first | exact SlA.len (by assumption) rfl | exact SlI.len (by assumption) rfl | exact SlS.len (by assumption) rfl | exact Sl.len (by assumption) rfl) ?_)
    refine pops.nil ?_
    repeat (first | refine kthenP.n ?_ | refine kthenP.r ?_ | refine kthenP.e ?_ | refine kblockP.n ?_ | refine kblockP.r ?_ | refine kblockP.e ?_ | refine kblockP.o rfl ?_ | refine Runs.seq ?_ | refine Runs.region ?_ | refine Runs.block ?_ | refine Runs.cond ?_ | refine Runs.skip ?_ | refine Runs.loop ?_ | refine Runs.exit ?_ | refine Runs.ret ?_)
    refine pcond.t rfl ?_
    repeat (first | refine kthenP.n ?_ | refine kthenP.r ?_ | refine kthenP.e ?_ | refine kblockP.n ?_ | refine kblockP.r ?_ | refine kblockP.e ?_ | refine kblockP.o rfl ?_ | refine Runs.seq ?_ | refine Runs.region ?_ | refine Runs.block ?_ | refine Runs.cond ?_ | refine Runs.skip ?_ | refine Runs.loop ?_ | refine Runs.exit ?_ | refine Runs.ret ?_)
    repeat (first | refine pops.bin rfl rfl rfl rfl rfl rfl (cbin_inc (by omega)) ?_ | refine pops.fl rfl rfl rfl rfl rfl ?_ | refine pops.skip rfl rfl rfl ?_ | refine pops.load rfl rfl rfl rfl rfl (by first | assumption | exact cload_of (by assumption) rfl) ?_ | refine pops.len rfl rfl rfl rfl rfl rfl rfl rfl (by first | exact SlA.len (by assumption) rfl | exact SlI.len (by assumption) rfl | exact SlS.len (by assumption) rfl | exact Sl.len (by assumption) rfl) ?_)
    refine pops.nil ?_
    repeat (first | refine kthenP.n ?_ | refine kthenP.r ?_ | refine kthenP.e ?_ | refine kblockP.n ?_ | refine kblockP.r ?_ | refine kblockP.e ?_ | refine kblockP.o rfl ?_ | refine Runs.seq ?_ | refine Runs.region ?_ | refine Runs.block ?_ | refine Runs.cond ?_ | refine Runs.skip ?_ | refine Runs.loop ?_ | refine Runs.exit ?_ | refine Runs.ret ?_)
    refine pleave.r rfl ?_
    exact ⟨⟨_, rfl, nil_ints⟩, g02⟩
  | true =>
  replace hU := tt_iff.1 hU
  repeat (first | refine pops.bin rfl rfl rfl rfl rfl rfl (cbin_inc (by omega)) ?_ | refine pops.fl rfl rfl rfl rfl rfl ?_ | refine pops.skip rfl rfl rfl ?_ | refine pops.load rfl rfl rfl rfl rfl (by first | assumption | exact cload_of (by assumption) rfl) ?_ | refine pops.len rfl rfl rfl rfl rfl rfl rfl rfl (by first | exact SlA.len (by assumption) rfl | exact SlI.len (by assumption) rfl | exact SlS.len (by assumption) rfl | exact Sl.len (by assumption) rfl) ?_)
  refine pops.nil ?_
  repeat (first | refine kthenP.n ?_ | refine kthenP.r ?_ | refine kthenP.e ?_ | refine kblockP.n ?_ | refine kblockP.r ?_ | refine kblockP.e ?_ | refine kblockP.o rfl ?_ | refine Runs.seq ?_ | refine Runs.region ?_ | refine Runs.block ?_ | refine Runs.cond ?_ | refine Runs.skip ?_ | refine Runs.loop ?_ | refine Runs.exit ?_ | refine Runs.ret ?_)
  refine pcond.f rfl ?_
  repeat (first | refine kthenP.n ?_ | refine kthenP.r ?_ | refine kthenP.e ?_ | refine kblockP.n ?_ | refine kblockP.r ?_ | refine kblockP.e ?_ | refine kblockP.o rfl ?_ | refine Runs.seq ?_ | refine Runs.region ?_ | refine Runs.block ?_ | refine Runs.cond ?_ | refine Runs.skip ?_ | refine Runs.loop ?_ | refine Runs.exit ?_ | refine Runs.ret ?_)
  refine pops.buildSlice (cs := [.int .i64 0]) rfl rfl rfl rfl rfl hwf2 fun b0 h3 hb0 hwf3 g3 hc0 => ?_
  repeat (first | refine pops.bin rfl rfl rfl rfl rfl rfl (cbin_inc (by omega)) ?_ | refine pops.fl rfl rfl rfl rfl rfl ?_ | refine pops.skip rfl rfl rfl ?_ | refine pops.load rfl rfl rfl rfl rfl (by first | assumption | exact cload_of (by assumption) rfl) ?_ | refine pops.len rfl rfl rfl rfl rfl rfl rfl rfl (by first | exact SlA.len (by assumption) rfl | exact SlI.len (by assumption) rfl | exact SlS.len (by assumption) rfl | exact Sl.len (by assumption) rfl) ?_)
  refine pops.nil ?_
  repeat (first | refine kthenP.n ?_ | refine kthenP.r ?_ | refine kthenP.e ?_ | refine kblockP.n ?_ | refine kblockP.r ?_ | refine kblockP.e ?_ | refine kblockP.o rfl ?_ | refine Runs.seq ?_ | refine Runs.region ?_ | refine Runs.block ?_ | refine Runs.cond ?_ | refine Runs.skip ?_ | refine Runs.loop ?_ | refine Runs.exit ?_ | refine Runs.ret ?_)
  repeat (first | refine pops.bin rfl rfl rfl rfl rfl rfl (cbin_inc (by omega)) ?_ | refine pops.fl rfl rfl rfl rfl rfl ?_ | refine pops.skip rfl rfl rfl ?_ | refine pops.load rfl rfl rfl rfl rfl (by first | assumption | exact cload_of (by assumption) rfl) ?_ | refine pops.len rfl rfl rfl rfl rfl rfl rfl rfl (by first | exact SlA.len (by assumption) rfl | exact SlI.len (by assumption) rfl | exact SlS.len (by assumption) rfl | exact Sl.len (by assumption) rfl) ?_)
  refine pops.nil ?_
  repeat (first | refine kthenP.n ?_ | refine kthenP.r ?_ | refine kthenP.e ?_ | refine kblockP.n ?_ | refine kblockP.r ?_ | refine kblockP.e ?_ | refine kblockP.o rfl ?_ | refine Runs.seq ?_ | refine Runs.region ?_ | refine Runs.block ?_ | refine Runs.cond ?_ | refine Runs.skip ?_ | refine Runs.loop ?_ | refine Runs.exit ?_ | refine Runs.ret ?_)
  refine Loops.ind 6 (fun s : Nat × Value => [(1, vl), (2, .pointer (some ⟨b, 0, none⟩)), (5, s.2), (6, .int .i64 (s.1 : Nat))])
    (fun s h' => s.1 ≤ l.length ∧ Gr h2 h' ∧ ∃ b', h2.n ≤ b' ∧ Own h' s.2 b' ((List.range (s.1 + 1)).map fun i => Value.int .i64 (st t.left.next l i : Int)))
    (fun s => l.length - s.1) (0, .slice (some ⟨b0, 0, none⟩) 1 1) (by decide) ⟨rfl, rfl, rfl, rfl, trivial⟩ ⟨Nat.zero_le _, g3, b0, hb0, .inr ⟨1, rfl, hc0, .inl rfl⟩⟩ ?_
  clear hc0 g3 hwf3 hb0
  rintro ⟨i, vo⟩ z h' hwf' ⟨hi, g2, b', hb', hown⟩
  simp only at hi hown
  replace hc := g2.at hwf2 hc
  replace hx := hx.gr hwf2 g2
  replace hl := Sl.gr hl hwf2 g2
  have hownS : Sl tab ks.int h' vo ((List.range (i + 1)).map fun i => Value.int .i64 (st t.left.next l i : Int)) := hown.sl rfl rfl rfl (by simp; omega)
  repeat (first | refine kthenP.n ?_ | refine kthenP.r ?_ | refine kthenP.e ?_ | refine kblockP.n ?_ | refine kblockP.r ?_ | refine kblockP.e ?_ | refine kblockP.o rfl ?_ | refine Runs.seq ?_ | refine Runs.region ?_ | refine Runs.block ?_ | refine Runs.cond ?_ | refine Runs.skip ?_ | refine Runs.loop ?_ | refine Runs.exit ?_ | refine Runs.ret ?_)
  repeat (first | refine pops.bin rfl rfl rfl rfl rfl rfl (cbin_inc (by omega)) ?_ | refine pops.fl rfl rfl rfl rfl rfl ?_ | refine pops.skip rfl rfl rfl ?_ | refine pops.load rfl rfl rfl rfl rfl (by first | assumption | exact cload_of (by assumption) rfl) ?_ | refine pops.len rfl rfl rfl rfl rfl rfl rfl rfl (by first | exact SlA.len (by assumption) rfl | exact SlI.len (by assumption) rfl | exact SlS.len (by assumption) rfl | exact Sl.len (by assumption) rfl) ?_)
  refine pops.nil ?_
  repeat (first | refine kthenP.n ?_ | refine kthenP.r ?_ | refine kthenP.e ?_ | refine kblockP.n ?_ | refine kblockP.r ?_ | refine kblockP.e ?_ | refine kblockP.o rfl ?_ | refine Runs.seq ?_ | refine Runs.region ?_ | refine Runs.block ?_ | refine Runs.cond ?_ | refine Runs.skip ?_ | refine Runs.loop ?_ | refine Runs.exit ?_ | refine Runs.ret ?_)
  refine pcond.d (p := (i : Int) < (l.length : Nat)) rfl (fun hlt => ?_) (fun hge => ?_)
  · have hlt : i < l.length := by omega
    obtain ⟨cc, hcc⟩ : ∃ c, l[i]? = some c := ⟨_, List.getElem?_eq_getElem hlt⟩
    have hcr := hU.2 cc (List.mem_of_getElem? hcc)
    obtain ⟨k, rfl⟩ : ∃ k : Nat, cc = k := Int.eq_ofNat_of_zero_le hcr.1
    have hkc : k < t.classes.length := by omega
    have hS := hU.1.2.2.2.1
    obtain ⟨h5, row, h6, h7⟩ := stepTo_ok hS (st_ok hS hU.2 i hi) hkc
    have hst : st t.left.next l (i + 1) = stepTo t.left.next (st t.left.next l i) k := by
      show stepTo _ _ (l.getD i 0).toNat = _
      rw [List.getD_eq_getElem?_getD, hcc]
      rfl
    obtain ⟨p1, hp1, hq1⟩ := hownS.readG hwf' (ts := 23) rfl (i := i) (x := .int .i64 (st t.left.next l i : Int)) (by rw [List.getElem?_map, List.getElem?_range (by omega)]; rfl) .i64
    obtain ⟨p2, u2, hp2, hu2, hq2⟩ := SlA.readG hx hwf' (ts := 24) rfl h6 .i64
    obtain ⟨p3, hp3, hq3⟩ := Sl.readM hu2 hwf' (ts := 23) rfl h7 .i64
    obtain ⟨p4, hp4, hq4⟩ := Sl.readM hl hwf' (ts := 23) rfl hcc .i64
    repeat (first | refine kthenP.n ?_ | refine kthenP.r ?_ | refine kthenP.e ?_ | refine kblockP.n ?_ | refine kblockP.r ?_ | refine kblockP.e ?_ | refine kblockP.o rfl ?_ | refine Runs.seq ?_ | refine Runs.region ?_ | refine Runs.block ?_ | refine Runs.cond ?_ | refine Runs.skip ?_ | refine Runs.loop ?_ | refine Runs.exit ?_ | refine Runs.ret ?_)
    refine PG.start _ rfl rfl ?_
    refine PG.take (by decide +kernel) rfl rfl rfl rfl ?_
    refine PG.take (by decide +kernel) rfl rfl rfl rfl ?_
    refine PG.take (by decide +kernel) rfl rfl rfl rfl ?_
    refine PG.load (by decide +kernel) rfl rfl rfl rfl rfl (by first | assumption | exact cload_of (by assumption) rfl) ?_
    refine PG.take (by decide +kernel) rfl rfl rfl rfl ?_
    refine PG.take (by decide +kernel) rfl rfl rfl rfl ?_
    refine PG.take (by decide +kernel) rfl rfl rfl (hp1) ?_
    refine PG.take (by decide +kernel) rfl rfl rfl (hq1 _ (Gr.refl _)) ?_
    refine PG.take (by decide +kernel) rfl rfl rfl (hp2) ?_
    refine PG.take (by decide +kernel) rfl rfl rfl (hq2 _ (Gr.refl _)) ?_
    refine PG.take (by decide +kernel) rfl rfl rfl rfl ?_
    refine PG.take (by decide +kernel) rfl rfl rfl rfl ?_
    refine PG.take (by decide +kernel) rfl rfl rfl (hp4) ?_
    refine PG.take (by decide +kernel) rfl rfl rfl (hq4 _ (Gr.refl _)) ?_
    refine PG.take (by decide +kernel) rfl rfl rfl (hp3) ?_
    refine PG.take (by decide +kernel) rfl rfl rfl (hq3 _ (Gr.refl _)) ?_
    repeat refine PG.skip (by decide +kernel) ?_
    refine PG.nil ?_
    refine pd1.buildSlice (cs := [.int .i64 (stepTo t.left.next (st t.left.next l i) k : Int)]) 16 rfl (by kernel_rfl) rfl rfl rfl rfl rfl hwf' fun b1 h3 hb1 hwf3 g3 hc3 => ?_
    refine ⟨_, by (repeat (first | exact Reck.nil | (apply Reck.dropI; decide +kernel) | (apply Reck.keep; rfl) | (apply Reck.load; rfl; rfl; first | assumption | exact cload_of (by assumption) rfl) | (apply Reck.same; rfl))), ?_⟩
    repeat (first | refine PG.skip (by decide +kernel) ?_ | refine PG.take (by decide +kernel) rfl rfl rfl rfl ?_ | refine PG.load (by decide +kernel) rfl rfl rfl rfl rfl (by first | assumption | exact cload_of (by assumption) rfl) ?_ | refine PG.drop (by decide +kernel) rfl rfl rfl ?_)
    refine PG.nil ?_
    refine pd1.append1 17 rfl (by kernel_rfl) rfl rfl rfl rfl rfl rfl rfl rfl rfl rfl rfl rfl rfl rfl rfl rfl rfl hwf3 (hown.gr hwf' g3) rfl hc3 (by simp; omega) fun v' b2 h4 hwf4 ch hb2 hown4 => ?_
    refine ⟨_, by (repeat (first | exact Reck.nil | (apply Reck.dropI; decide +kernel) | (apply Reck.keep; rfl) | (apply Reck.load; rfl; rfl; first | assumption | exact cload_of (by assumption) rfl) | (apply Reck.same; rfl))), ?_⟩
    repeat (first | refine PG.skip (by decide +kernel) ?_ | refine PG.take (by decide +kernel) rfl rfl rfl rfl ?_ | refine PG.load (by decide +kernel) rfl rfl rfl rfl rfl (by first | assumption | exact cload_of (by assumption) rfl) ?_ | refine PG.drop (by decide +kernel) rfl rfl rfl ?_)
    refine PG.nil ?_
    refine pd1.fin (by kernel_rfl) (by kernel_rfl) ?_
    repeat (first | refine kthenP.n ?_ | refine kthenP.r ?_ | refine kthenP.e ?_ | refine kblockP.n ?_ | refine kblockP.r ?_ | refine kblockP.e ?_ | refine kblockP.o rfl ?_ | refine Runs.seq ?_ | refine Runs.region ?_ | refine Runs.block ?_ | refine Runs.cond ?_ | refine Runs.skip ?_ | refine Runs.loop ?_ | refine Runs.exit ?_ | refine Runs.ret ?_)
    repeat (first | refine pops.bin rfl rfl rfl rfl rfl rfl (cbin_inc (by omega)) ?_ | refine pops.fl rfl rfl rfl rfl rfl ?_ | refine pops.skip rfl rfl rfl ?_ | refine pops.load rfl rfl rfl rfl rfl (by first | assumption | exact cload_of (by assumption) rfl) ?_ | refine pops.len rfl rfl rfl rfl rfl rfl rfl rfl (by first | exact SlA.len (by assumption) rfl | exact SlI.len (by assumption) rfl | exact SlS.len (by assumption) rfl | exact Sl.len (by assumption) rfl) ?_)
    refine pops.nil ?_
    refine .n ⟨_, (i + 1, v'), rfl, ⟨rfl, rfl, rfl, rfl, trivial⟩, (by show l.length - (i + 1) < l.length - i; omega), (by show i + 1 ≤ l.length; omega), (g2.trans g3).chg hb' ch, b2, Nat.le_trans g2.n (Nat.le_trans g3.n hb2), ?_⟩
    show Own h4 v' b2 ((List.range (i + 1 + 1)).map _)
    rw [List.range_succ, List.map_append]
    rw [← hst] at hown4
    exact hown4
  · repeat (first | refine kthenP.n ?_ | refine kthenP.r ?_ | refine kthenP.e ?_ | refine kblockP.n ?_ | refine kblockP.r ?_ | refine kblockP.e ?_ | refine kblockP.o rfl ?_ | refine Runs.seq ?_ | refine Runs.region ?_ | refine Runs.block ?_ | refine Runs.cond ?_ | refine Runs.skip ?_ | refine Runs.loop ?_ | refine Runs.exit ?_ | refine Runs.ret ?_)
    have hi' : i = l.length := by omega
    subst hi'
    repeat (first | refine pops.bin rfl rfl rfl rfl rfl rfl (cbin_inc (by omega)) ?_ | refine pops.fl rfl rfl rfl rfl rfl ?_ | refine pops.skip rfl rfl rfl ?_ | refine pops.load rfl rfl rfl rfl rfl (by first | assumption | exact cload_of (by assumption) rfl) ?_ | refine pops.len rfl rfl rfl rfl rfl rfl rfl rfl (by first | exact SlA.len (by assumption) rfl | exact SlI.len (by assumption) rfl | exact SlS.len (by assumption) rfl | exact Sl.len (by assumption) rfl) ?_)
    refine pops.nil ?_
    repeat (first | refine kthenP.n ?_ | refine kthenP.r ?_ | refine kthenP.e ?_ | refine kblockP.n ?_ | refine kblockP.r ?_ | refine kblockP.e ?_ | refine kblockP.o rfl ?_ | refine Runs.seq ?_ | refine Runs.region ?_ | refine Runs.block ?_ | refine Runs.cond ?_ | refine Runs.skip ?_ | refine Runs.loop ?_ | refine Runs.exit ?_ | refine Runs.ret ?_)
    refine pleave.r rfl ?_
    refine ⟨⟨vo, rfl, ?_⟩, g02.trans g2⟩
    unfold leftS
    show Sl _ _ _ _ (List.map _ (List.map _ _))
    rw [List.map_map]
    exact hownS
theorem fn_refRight : tab.fn 11 = some Tryz.f11 := by kernel_rfl
theorem refRight_calls {v vl : Value} {t : TabD} {l : List Int} (hv : TabV tab ks h v t) (hl : SlI tab ks.int h vl l) (hlen : TextsLt t.classes) (hll : l.length ≤ 1000) : CalF (X w) 11 [v, vl] h fun r h' => (∃ u, r = .ret u ∧ SlI tab ks.int h' u (RightR t l)) ∧ Gr h h' := by
  refine CalF.wf fun hwf => ?_
  have hV := hv
  obtain ⟨c, a, x, y, x', y', rfl, ho, hcl, hac, hx, hy, hx', hy'⟩ := hv
  simp only [Bool.and_eq_true] at ho
  refine CalF.intro fn_refRight rfl (Nat.le_of_ble_eq_true rfl) ?_
  repeat (first | refine kthenP.n ?_ | refine kthenP.r ?_ | refine kthenP.e ?_ | refine kblockP.n ?_ | refine kblockP.r ?_ | refine kblockP.e ?_ | refine kblockP.o rfl ?_ | refine Runs.seq ?_ | refine Runs.region ?_ | refine Runs.block ?_ | refine Runs.cond ?_ | refine Runs.skip ?_ | refine Runs.loop ?_ | refine Runs.exit ?_ | refine Runs.ret ?_)
  refine pops.box (cs := [c, a, x, y, x', y']) rfl rfl rfl rfl (by simp [ho]) rfl rfl hwf fun b h1 hb hwf1 g1 hc => ?_
  refine pops.fl rfl rfl rfl rfl rfl ?_
  refine pops.nil ?_
  repeat (first | refine kthenP.n ?_ | refine kthenP.r ?_ | refine kthenP.e ?_ | refine kblockP.n ?_ | refine kblockP.r ?_ | refine kblockP.e ?_ | refine kblockP.o rfl ?_ | refine Runs.seq ?_ | refine Runs.region ?_ | refine Runs.block ?_ | refine Runs.cond ?_ | refine Runs.skip ?_ | refine Runs.loop ?_ | refine Runs.exit ?_ | refine Runs.ret ?_)
  repeat (first | refine pops.bin rfl rfl rfl rfl rfl rfl (cbin_inc (by omega)) ?_ | refine pops.fl rfl rfl rfl rfl rfl ?_ | refine pops.skip rfl rfl rfl ?_ | refine pops.load rfl rfl rfl rfl rfl (by first | assumption | exact cload_of (by assumption) rfl) ?_ | refine pops.len rfl rfl rfl rfl rfl rfl rfl rfl (by first | exact SlA.len (by assumption) rfl | exact SlI.len (by assumption) rfl | exact SlS.len (by assumption) rfl | exact Sl.len (by assumption) rfl) ?_)
  refine pops.callG rfl rfl rfl rfl rfl fn_refusable rfl rfl rfl (refusable_calls (hV.gr hwf g1) (Sl.gr hl hwf g1) hlen) fun h2 hwf2 g2 => ?_
  have g02 := g1.trans g2
  replace hc := g2.at hwf1 hc
  replace hx' := hx'.gr hwf g02
  replace hl := Sl.gr hl hwf g02
  clear g1 g2 hwf1 hb h1
  unfold RightR
  cases hU : tt (UsableP t l) with
  | false =>
    repeat (first | refine pops.bin rfl rfl rfl rfl rfl rfl (cbin_inc (by omega)) ?_ | refine pops.fl rfl rfl rfl rfl rfl ?_ | refine pops.skip rfl rfl rfl ?_ | refine pops.load rfl rfl rfl rfl rfl (by first | assumption | exact cload_of (by assumption) rfl) ?_ | refine pops.len rfl rfl rfl rfl rfl rfl rfl rfl (by first | exact SlA.len (by assumption) rfl | exact SlI.len (by assumption) rfl | exact SlS.len (by assumption) rfl | exact Sl.len (by assumption) rfl) ?_)
    refine pops.nil ?_
    repeat (first | refine kthenP.n ?_ | refine kthenP.r ?_ | refine kthenP.e ?_ | refine kblockP.n ?_ | refine kblockP.r ?_ | refine kblockP.e ?_ | refine kblockP.o rfl ?_ | refine Runs.seq ?_ | refine Runs.region ?_ | refine Runs.block ?_ | refine Runs.cond ?_ | refine Runs.skip ?_ | refine Runs.loop ?_ | refine Runs.exit ?_ | refine Runs.ret ?_)
    refine pcond.t rfl ?_
    repeat (first | refine kthenP.n ?_ | refine kthenP.r ?_ | refine kthenP.e ?_ | refine kblockP.n ?_ | refine kblockP.r ?_ | refine kblockP.e ?_ | refine kblockP.o rfl ?_ | refine Runs.seq ?_ | refine Runs.region ?_ | refine Runs.block ?_ | refine Runs.cond ?_ | refine Runs.skip ?_ | refine Runs.loop ?_ | refine Runs.exit ?_ | refine Runs.ret ?_)
    repeat (first | refine pops.bin rfl rfl rfl rfl rfl rfl (cbin_inc (by omega)) ?_ | refine pops.fl rfl rfl rfl rfl rfl ?_ | refine pops.skip rfl rfl rfl ?_ | refine pops.load rfl rfl rfl rfl rfl (by first | assumption | exact cload_of (by assumption) rfl) ?_ | refine pops.len rfl rfl rfl rfl rfl rfl rfl rfl (by first | exact SlA.len (by assumption) rfl | exact SlI.len (by assumption) rfl | exact SlS.len (by assumption) rfl | exact Sl.len (by assumption) rfl) ?_)
    refine pops.nil ?_
    repeat (first | refine kthenP.n ?_ | refine kthenP.r ?_ | refine kthenP.e ?_ | refine kblockP.n ?_ | refine kblockP.r ?_ | refine kblockP.e ?_ | refine kblockP.o rfl ?_ | refine Runs.seq ?_ | refine Runs.region ?_ | refine Runs.block ?_ | refine Runs.cond ?_ | refine Runs.skip ?_ | refine Runs.loop ?_ | refine Runs.exit ?_ | refine Runs.ret ?_)
    refine pleave.r rfl ?_
    exact ⟨⟨_, rfl, nil_ints⟩, g02⟩
  | true =>
  replace hU := tt_iff.1 hU
  repeat (first | refine pops.bin rfl rfl rfl rfl rfl rfl (cbin_inc (by omega)) ?_ | refine pops.fl rfl rfl rfl rfl rfl ?_ | refine pops.skip rfl rfl rfl ?_ | refine pops.load rfl rfl rfl rfl rfl (by first | assumption | exact cload_of (by assumption) rfl) ?_ | refine pops.len rfl rfl rfl rfl rfl rfl rfl rfl (by first | exact SlA.len (by assumption) rfl | exact SlI.len (by assumption) rfl | exact SlS.len (by assumption) rfl | exact Sl.len (by assumption) rfl) ?_)
  refine pops.nil ?_
  repeat (first | refine kthenP.n ?_ | refine kthenP.r ?_ | refine kthenP.e ?_ | refine kblockP.n ?_ | refine kblockP.r ?_ | refine kblockP.e ?_ | refine kblockP.o rfl ?_ | refine Runs.seq ?_ | refine Runs.region ?_ | refine Runs.block ?_ | refine Runs.cond ?_ | refine Runs.skip ?_ | refine Runs.loop ?_ | refine Runs.exit ?_ | refine Runs.ret ?_)
  refine pcond.f rfl ?_
  repeat (first | refine kthenP.n ?_ | refine kthenP.r ?_ | refine kthenP.e ?_ | refine kblockP.n ?_ | refine kblockP.r ?_ | refine kblockP.e ?_ | refine kblockP.o rfl ?_ | refine Runs.seq ?_ | refine Runs.region ?_ | refine Runs.block ?_ | refine Runs.cond ?_ | refine Runs.skip ?_ | refine Runs.loop ?_ | refine Runs.exit ?_ | refine Runs.ret ?_)
  repeat (first | refine pops.bin rfl rfl rfl rfl rfl rfl (cbin_inc (by omega)) ?_ | refine pops.fl rfl rfl rfl rfl rfl ?_ | refine pops.skip rfl rfl rfl ?_ | refine pops.load rfl rfl rfl rfl rfl (by first | assumption | exact cload_of (by assumption) rfl) ?_ | refine pops.len rfl rfl rfl rfl rfl rfl rfl rfl (by first | exact SlA.len (by assumption) rfl | exact SlI.len (by assumption) rfl | exact SlS.len (by assumption) rfl | exact Sl.len (by assumption) rfl) ?_)
  refine pops.makeSlice (z := .int .i64 0) (m := l.length + 1) rfl rfl rfl rfl rfl rfl rfl rfl rfl rfl rfl (by omega) hwf2 fun bs h3 hbs hwf3 g3 hcs => ?_
  repeat (first | refine pops.bin rfl rfl rfl rfl rfl rfl (cbin_inc (by omega)) ?_ | refine pops.fl rfl rfl rfl rfl rfl ?_ | refine pops.skip rfl rfl rfl ?_ | refine pops.load rfl rfl rfl rfl rfl (by first | assumption | exact cload_of (by assumption) rfl) ?_ | refine pops.len rfl rfl rfl rfl rfl rfl rfl rfl (by first | exact SlA.len (by assumption) rfl | exact SlI.len (by assumption) rfl | exact SlS.len (by assumption) rfl | exact Sl.len (by assumption) rfl) ?_)
  refine pops.nil ?_
  repeat (first | refine kthenP.n ?_ | refine kthenP.r ?_ | refine kthenP.e ?_ | refine kblockP.n ?_ | refine kblockP.r ?_ | refine kblockP.e ?_ | refine kblockP.o rfl ?_ | refine Runs.seq ?_ | refine Runs.region ?_ | refine Runs.block ?_ | refine Runs.cond ?_ | refine Runs.skip ?_ | refine Runs.loop ?_ | refine Runs.exit ?_ | refine Runs.ret ?_)
  refine pops.fl rfl rfl rfl rfl rfl ?_
  refine pops.len rfl rfl rfl rfl rfl rfl rfl rfl (SlI.len (Sl.gr hl hwf2 g3) rfl) ?_
  refine pops.bin rfl rfl rfl rfl rfl rfl (cbin_dec1 (by omega)) ?_
  repeat (first | refine pops.bin rfl rfl rfl rfl rfl rfl (cbin_inc (by omega)) ?_ | refine pops.fl rfl rfl rfl rfl rfl ?_ | refine pops.skip rfl rfl rfl ?_ | refine pops.load rfl rfl rfl rfl rfl (by first | assumption | exact cload_of (by assumption) rfl) ?_ | refine pops.len rfl rfl rfl rfl rfl rfl rfl rfl (by first | exact SlA.len (by assumption) rfl | exact SlI.len (by assumption) rfl | exact SlS.len (by assumption) rfl | exact Sl.len (by assumption) rfl) ?_)
  refine pops.nil ?_
  repeat (first | refine kthenP.n ?_ | refine kthenP.r ?_ | refine kthenP.e ?_ | refine kblockP.n ?_ | refine kblockP.r ?_ | refine kblockP.e ?_ | refine kblockP.o rfl ?_ | refine Runs.seq ?_ | refine Runs.region ?_ | refine Runs.block ?_ | refine Runs.cond ?_ | refine Runs.skip ?_ | refine Runs.loop ?_ | refine Runs.exit ?_ | refine Runs.ret ?_)
  refine Loops.ind 6 (fun m : Nat => [(1, vl), (2, .pointer (some ⟨b, 0, none⟩)), (5, .slice (some ⟨bs, 0, none⟩) (l.length + 1) (l.length + 1)), (6, .int .i64 ((m : Int) - 1))])
    (fun m h' => m ≤ l.length ∧ Gr h2 h' ∧ h'.get bs = some (.cells (rowM (rst t.right.next l) l.length m) false false))
    (fun m => m) l.length (by decide) ⟨rfl, rfl, rfl, rfl, trivial⟩ ⟨Nat.le_refl _, g3, by rw [rowM_init _ _ rfl]; exact hcs⟩ ?_
  clear hcs g3 hwf3
  rintro m z h' hwf' ⟨hm, g2, hcs⟩
  replace hc := g2.at hwf2 hc
  replace hx' := hx'.gr hwf2 g2
  replace hl := Sl.gr hl hwf2 g2
  repeat (first | refine kthenP.n ?_ | refine kthenP.r ?_ | refine kthenP.e ?_ | refine kblockP.n ?_ | refine kblockP.r ?_ | refine kblockP.e ?_ | refine kblockP.o rfl ?_ | refine Runs.seq ?_ | refine Runs.region ?_ | refine Runs.block ?_ | refine Runs.cond ?_ | refine Runs.skip ?_ | refine Runs.loop ?_ | refine Runs.exit ?_ | refine Runs.ret ?_)
  repeat (first | refine pops.bin rfl rfl rfl rfl rfl rfl (cbin_inc (by omega)) ?_ | refine pops.fl rfl rfl rfl rfl rfl ?_ | refine pops.skip rfl rfl rfl ?_ | refine pops.load rfl rfl rfl rfl rfl (by first | assumption | exact cload_of (by assumption) rfl) ?_ | refine pops.len rfl rfl rfl rfl rfl rfl rfl rfl (by first | exact SlA.len (by assumption) rfl | exact SlI.len (by assumption) rfl | exact SlS.len (by assumption) rfl | exact Sl.len (by assumption) rfl) ?_)
  refine pops.nil ?_
  repeat (first | refine kthenP.n ?_ | refine kthenP.r ?_ | refine kthenP.e ?_ | refine kblockP.n ?_ | refine kblockP.r ?_ | refine kblockP.e ?_ | refine kblockP.o rfl ?_ | refine Runs.seq ?_ | refine Runs.region ?_ | refine Runs.block ?_ | refine Runs.cond ?_ | refine Runs.skip ?_ | refine Runs.loop ?_ | refine Runs.exit ?_ | refine Runs.ret ?_)
  refine pcond.d (p := (0 : Int) ≤ (m : Int) - 1) rfl (fun hlt => ?_) (fun hge => ?_)
  · obtain ⟨j, rfl⟩ : ∃ j, m = j + 1 := ⟨m - 1, by omega⟩
    have e : (((j + 1 : Nat) : Int) - 1) = (j : Int) := by omega
    rw [e]
    obtain ⟨xx, hxx⟩ : ∃ x, l[j]? = some x := ⟨_, List.getElem?_eq_getElem (by omega)⟩
    have hcr := hU.2 xx (List.mem_of_getElem? hxx)
    obtain ⟨k, rfl⟩ : ∃ k : Nat, xx = k := Int.eq_ofNat_of_zero_le hcr.1
    have hkc : k < t.classes.length := by omega
    have hS := hU.1.2.2.2.2
    obtain ⟨h6, row, h7, h8⟩ := stepTo_ok hS (rst_ok hS hU.2 (l.length - (j + 1)) (by omega)) hkc
    have hst : rst t.right.next l (l.length - j) = stepTo t.right.next (rst t.right.next l (l.length - (j + 1))) k := by
      rw [show l.length - j = (l.length - (j + 1)) + 1 by omega]
      show stepTo _ _ (l.getD (l.length - 1 - (l.length - (j + 1))) 0).toNat = _
      rw [show l.length - 1 - (l.length - (j + 1)) = j by omega, List.getD_eq_getElem?_getD, hxx]
      rfl
    have hS1 : Sl tab ks.int h' (.slice (some ⟨bs, 0, none⟩) (l.length + 1) (l.length + 1)) (rowM (rst t.right.next l) l.length (j + 1)) := Sl.one hcs rfl rfl rfl (by rw [rowM_length]; omega) (rowM_length _ _ _)
    obtain ⟨p1, hp1, hq1⟩ := hS1.readG hwf' (ts := 23) rfl (rowM_get (rst t.right.next l) l.length (j + 1) (j + 1) hm (Nat.le_refl _)) .i64
    obtain ⟨p2, u2, hp2, hu2, hq2⟩ := SlA.readG hx' hwf' (ts := 24) rfl h7 .i64
    obtain ⟨p3, hp3, hq3⟩ := Sl.readM hu2 hwf' (ts := 23) rfl h8 .i64
    obtain ⟨p4, hp4, hq4⟩ := Sl.readM hl hwf' (ts := 23) rfl hxx .i64
    repeat (first | refine kthenP.n ?_ | refine kthenP.r ?_ | refine kthenP.e ?_ | refine kblockP.n ?_ | refine kblockP.r ?_ | refine kblockP.e ?_ | refine kblockP.o rfl ?_ | refine Runs.seq ?_ | refine Runs.region ?_ | refine Runs.block ?_ | refine Runs.cond ?_ | refine Runs.skip ?_ | refine Runs.loop ?_ | refine Runs.exit ?_ | refine Runs.ret ?_)
    refine PG.start _ rfl rfl ?_
    refine PG.take (by decide +kernel) rfl rfl rfl rfl ?_
    refine PG.take (by decide +kernel) rfl rfl rfl rfl ?_
    refine PG.take (by decide +kernel) rfl rfl rfl rfl ?_
    refine PG.take (by decide +kernel) rfl rfl rfl rfl ?_
    refine PG.load (by decide +kernel) rfl rfl rfl rfl rfl (by first | assumption | exact cload_of (by assumption) rfl) ?_
    refine PG.take (by decide +kernel) rfl rfl rfl rfl ?_
    refine PG.take (by decide +kernel) rfl rfl rfl rfl ?_
    refine PG.take (by decide +kernel) rfl rfl rfl (cbin_inc (T := tab) (h := h') (t := 3) (xo := .tmp 28) (yo := .const (.int .i64 1)) (by omega)) ?_
    refine PG.take (by decide +kernel) rfl rfl rfl (hp1) ?_
    refine PG.take (by decide +kernel) rfl rfl rfl (hq1 _ (Gr.refl _)) ?_
    refine PG.take (by decide +kernel) rfl rfl rfl (hp2) ?_
    refine PG.take (by decide +kernel) rfl rfl rfl (hq2 _ (Gr.refl _)) ?_
    refine PG.take (by decide +kernel) rfl rfl rfl rfl ?_
    refine PG.take (by decide +kernel) rfl rfl rfl rfl ?_
    refine PG.take (by decide +kernel) rfl rfl rfl (hp4) ?_
    refine PG.take (by decide +kernel) rfl rfl rfl (hq4 _ (Gr.refl _)) ?_
    refine PG.take (by decide +kernel) rfl rfl rfl (hp3) ?_
    refine PG.take (by decide +kernel) rfl rfl rfl (hq3 _ (Gr.refl _)) ?_
    refine PG.take (by decide +kernel) rfl rfl rfl (indexAddr_one (T := tab) (t := 23) (el := 3) (k := .i64) (i := j) (len := l.length + 1) (b := bs) (o := 0) (c := l.length + 1) rfl rfl (show j < l.length + 1 by omega)) ?_
    repeat refine PG.skip (by decide +kernel) ?_
    refine PG.nil ?_
    refine pd1.store (cs' := (rowM (rst t.right.next l) l.length (j + 1)).set j (.int .i64 (stepTo t.right.next (rst t.right.next l (l.length - (j + 1))) k : Int))) 19 rfl (by kernel_rfl) rfl rfl rfl rfl rfl hcs rfl rfl rfl (by rw [Nat.zero_add]; exact lsplice_one _ _ _ (by rw [rowM_length]; omega)) hwf' fun h9 hwf9 u9 hc9 => ?_
    refine ⟨_, by (repeat (first | exact Reck.nil | (apply Reck.dropI; decide +kernel) | (apply Reck.keep; rfl) | (apply Reck.load; rfl; rfl; first | assumption | exact cload_of (by assumption) rfl) | (apply Reck.same; rfl))), ?_⟩
    repeat (first | refine PG.skip (by decide +kernel) ?_ | refine PG.take (by decide +kernel) rfl rfl rfl rfl ?_ | refine PG.load (by decide +kernel) rfl rfl rfl rfl rfl (by first | assumption | exact cload_of (by assumption) rfl) ?_ | refine PG.drop (by decide +kernel) rfl rfl rfl ?_)
    refine PG.nil ?_
    refine pd1.fin (by kernel_rfl) (by kernel_rfl) ?_
    rw [← hst, rowM_step _ _ _ (by omega)] at hc9
    repeat (first | refine kthenP.n ?_ | refine kthenP.r ?_ | refine kthenP.e ?_ | refine kblockP.n ?_ | refine kblockP.r ?_ | refine kblockP.e ?_ | refine kblockP.o rfl ?_ | refine Runs.seq ?_ | refine Runs.region ?_ | refine Runs.block ?_ | refine Runs.cond ?_ | refine Runs.skip ?_ | refine Runs.loop ?_ | refine Runs.exit ?_ | refine Runs.ret ?_)
    refine pops.fl rfl rfl rfl rfl rfl ?_
    refine pops.bin rfl rfl rfl rfl rfl rfl (cbin_dec1 (by omega)) ?_
    refine pops.fl rfl rfl rfl rfl rfl ?_
    refine pops.nil ?_
    exact .n ⟨_, j, rfl, ⟨rfl, rfl, rfl, rfl, trivial⟩, Nat.lt_succ_self j, by omega, g2.upd hbs u9, hc9⟩
  · have : m = 0 := by omega
    subst this
    repeat (first | refine kthenP.n ?_ | refine kthenP.r ?_ | refine kthenP.e ?_ | refine kblockP.n ?_ | refine kblockP.r ?_ | refine kblockP.e ?_ | refine kblockP.o rfl ?_ | refine Runs.seq ?_ | refine Runs.region ?_ | refine Runs.block ?_ | refine Runs.cond ?_ | refine Runs.skip ?_ | refine Runs.loop ?_ | refine Runs.exit ?_ | refine Runs.ret ?_)
    repeat (first | refine pops.bin rfl rfl rfl rfl rfl rfl (cbin_inc (by omega)) ?_ | refine pops.fl rfl rfl rfl rfl rfl ?_ | refine pops.skip rfl rfl rfl ?_ | refine pops.load rfl rfl rfl rfl rfl (by first | assumption | exact cload_of (by assumption) rfl) ?_ | refine pops.len rfl rfl rfl rfl rfl rfl rfl rfl (by first | exact SlA.len (by assumption) rfl | exact SlI.len (by assumption) rfl | exact SlS.len (by assumption) rfl | exact Sl.len (by assumption) rfl) ?_)
    refine pops.nil ?_
    repeat (first | refine kthenP.n ?_ | refine kthenP.r ?_ | refine kthenP.e ?_ | refine kblockP.n ?_ | refine kblockP.r ?_ | refine kblockP.e ?_ | refine kblockP.o rfl ?_ | refine Runs.seq ?_ | refine Runs.region ?_ | refine Runs.block ?_ | refine Runs.cond ?_ | refine Runs.skip ?_ | refine Runs.loop ?_ | refine Runs.exit ?_ | refine Runs.ret ?_)
    refine pleave.r rfl ?_
    refine ⟨⟨_, rfl, ?_⟩, g02.trans g2⟩
    rw [rightS_row] at hcs
    exact Sl.one hcs rfl rfl rfl (by simp [rightS]; omega) (by simp [rightS])
end Go.Proofs.YtcenphnkcifbhaaGreatDoor

set_option maxRecDepth 100000
set_option linter.unusedVariables false
set_option linter.unusedSimpArgs false
namespace Go.Proofs.YtcenphnkcifbhaaGreatDoor
open Go.Cx
variable {w : World} {h : CH}
theorem fn_refDecide : tab.fn 13 = some Tryz.f13 := by kernel_rfl
theorem refDecide_calls {v vl : Value} {t : TabD} {l : List Int} (q : Int) (hv : TabV tab ks h v t) (hl : SlI tab ks.int h vl l) (hlen : TextsLt t.classes) (hll : l.length ≤ 1000) : CalF (X w) 13 [v, vl, .int .i64 q] h fun r h' => r = .ret (.tuple #[.int .i64 (DecideR t l q).1, .int .i64 (DecideR t l q).2]) ∧ Gr h h' := by
  refine CalF.wf fun hwf => ?_
  have hV := hv
  obtain ⟨c, a, x, y, x', y', rfl, ho, hcl, hac, hx, hy, hx', hy'⟩ := hv
  simp only [Bool.and_eq_true] at ho
  clear hcl hx hx'
  have llt := hl.lt
  have out : ¬ (0 ≤ q ∧ q ≤ (l.length : Int) ∧ UsableP t l) → DecideR t l q = (2, -1) := fun hn => by unfold DecideR; rw [tt_f hn]; rfl
  refine CalF.intro fn_refDecide rfl (Nat.le_of_ble_eq_true rfl) ?_
  repeat (first | refine kthenP.n ?_ | refine kthenP.r ?_ | refine kthenP.e ?_ | refine kblockP.n ?_ | refine kblockP.r ?_ | refine kblockP.e ?_ | refine kblockP.o rfl ?_ | refine Runs.seq ?_ | refine Runs.region ?_ | refine Runs.block ?_ | refine Runs.cond ?_ | refine Runs.skip ?_ | refine Runs.loop ?_ | refine Runs.exit ?_ | refine Runs.ret ?_)
  refine pops.box (cs := [c, a, x, y, x', y']) rfl rfl rfl rfl (by simp [ho]) rfl rfl hwf fun b h1 hb hwf1 g1 hc => ?_
  replace hV := hV.gr hwf g1
  replace hl := Sl.gr hl hwf g1
  refine pops.fl rfl rfl rfl rfl rfl ?_
  refine pops.fl rfl rfl rfl rfl rfl ?_
  refine pops.nil ?_
  repeat (first | refine kthenP.n ?_ | refine kthenP.r ?_ | refine kthenP.e ?_ | refine kblockP.n ?_ | refine kblockP.r ?_ | refine kblockP.e ?_ | refine kblockP.o rfl ?_ | refine Runs.seq ?_ | refine Runs.region ?_ | refine Runs.block ?_ | refine Runs.cond ?_ | refine Runs.skip ?_ | refine Runs.loop ?_ | refine Runs.exit ?_ | refine Runs.ret ?_)
  repeat (first | refine pops.bin rfl rfl rfl rfl rfl rfl (cbin_inc (by omega)) ?_ | refine pops.fl rfl rfl rfl rfl rfl ?_ | refine pops.skip rfl rfl rfl ?_ | refine pops.load rfl rfl rfl rfl rfl (by first | assumption | exact cload_of (by assumption) rfl) ?_ | refine pops.len rfl rfl rfl rfl rfl rfl rfl rfl (by first | exact SlA.len (by assumption) rfl | exact SlI.len (by assumption) rfl | exact SlS.len (by assumption) rfl | exact Sl.len (by assumption) rfl) ?_)
  refine pops.callG rfl rfl rfl rfl rfl fn_refusable rfl rfl rfl (refusable_calls hV hl hlen) fun h2 hwf2 g2 => ?_
  replace hc := g2.at hwf1 hc
  replace hV := hV.gr hwf1 g2
  replace hl := Sl.gr hl hwf1 g2
  have g02 := g1.trans g2
  cases hU : tt (UsableP t l) with
  | false =>
    repeat (first | refine pops.bin rfl rfl rfl rfl rfl rfl (cbin_inc (by omega)) ?_ | refine pops.fl rfl rfl rfl rfl rfl ?_ | refine pops.skip rfl rfl rfl ?_ | refine pops.load rfl rfl rfl rfl rfl (by first | assumption | exact cload_of (by assumption) rfl) ?_ | refine pops.len rfl rfl rfl rfl rfl rfl rfl rfl (by first | exact SlA.len (by assumption) rfl | exact SlI.len (by assumption) rfl | exact SlS.len (by assumption) rfl | exact Sl.len (by assumption) rfl) ?_)
    refine pops.nil ?_
    repeat (first | refine kthenP.n ?_ | refine kthenP.r ?_ | refine kthenP.e ?_ | refine kblockP.n ?_ | refine kblockP.r ?_ | refine kblockP.e ?_ | refine kblockP.o rfl ?_ | refine Runs.seq ?_ | refine Runs.region ?_ | refine Runs.block ?_ | refine Runs.cond ?_ | refine Runs.skip ?_ | refine Runs.loop ?_ | refine Runs.exit ?_ | refine Runs.ret ?_)
    refine pcond.t rfl ?_
    repeat (first | refine kthenP.n ?_ | refine kthenP.r ?_ | refine kthenP.e ?_ | refine kblockP.n ?_ | refine kblockP.r ?_ | refine kblockP.e ?_ | refine kblockP.o rfl ?_ | refine Runs.seq ?_ | refine Runs.region ?_ | refine Runs.block ?_ | refine Runs.cond ?_ | refine Runs.skip ?_ | refine Runs.loop ?_ | refine Runs.exit ?_ | refine Runs.ret ?_)
    repeat (first | refine pops.bin rfl rfl rfl rfl rfl rfl (cbin_inc (by omega)) ?_ | refine pops.fl rfl rfl rfl rfl rfl ?_ | refine pops.skip rfl rfl rfl ?_ | refine pops.load rfl rfl rfl rfl rfl (by first | assumption | exact cload_of (by assumption) rfl) ?_ | refine pops.len rfl rfl rfl rfl rfl rfl rfl rfl (by first | exact SlA.len (by assumption) rfl | exact SlI.len (by assumption) rfl | exact SlS.len (by assumption) rfl | exact Sl.len (by assumption) rfl) ?_)
    refine pops.nil ?_
    repeat (first | refine kthenP.n ?_ | refine kthenP.r ?_ | refine kthenP.e ?_ | refine kblockP.n ?_ | refine kblockP.r ?_ | refine kblockP.e ?_ | refine kblockP.o rfl ?_ | refine Runs.seq ?_ | refine Runs.region ?_ | refine Runs.block ?_ | refine Runs.cond ?_ | refine Runs.skip ?_ | refine Runs.loop ?_ | refine Runs.exit ?_ | refine Runs.ret ?_)
    refine pleave.r rfl ?_
    rw [out (fun hh => by rw [tt_t hh.2.2] at hU; cases hU)]
    exact ⟨rfl, g02⟩
  | true =>
  replace hU := tt_iff.1 hU
  repeat (first | refine pops.bin rfl rfl rfl rfl rfl rfl (cbin_inc (by omega)) ?_ | refine pops.fd rfl rfl rfl rfl rfl rfl ?_ | refine pops.skip rfl rfl rfl ?_ | refine pops.load rfl rfl rfl rfl rfl (by first | assumption | exact cload_of (by assumption) rfl) ?_ | refine pops.len rfl rfl rfl rfl rfl rfl rfl rfl (by first | exact SlA.len (by assumption) rfl | exact SlI.len (by assumption) rfl | exact SlS.len (by assumption) rfl | exact Sl.len (by assumption) rfl) ?_)
  refine pops.cmp rfl rfl rfl rfl rfl (fun q1 => ?_) (fun q1 => ?_)
  · repeat (first | refine pops.bin rfl rfl rfl rfl rfl rfl (cbin_inc (by omega)) ?_ | refine pops.fl rfl rfl rfl rfl rfl ?_ | refine pops.skip rfl rfl rfl ?_ | refine pops.load rfl rfl rfl rfl rfl (by first | assumption | exact cload_of (by assumption) rfl) ?_ | refine pops.len rfl rfl rfl rfl rfl rfl rfl rfl (by first | exact SlA.len (by assumption) rfl | exact SlI.len (by assumption) rfl | exact SlS.len (by assumption) rfl | exact Sl.len (by assumption) rfl) ?_)
    refine pops.nil ?_
    repeat (first | refine kthenP.n ?_ | refine kthenP.r ?_ | refine kthenP.e ?_ | refine kblockP.n ?_ | refine kblockP.r ?_ | refine kblockP.e ?_ | refine kblockP.o rfl ?_ | refine Runs.seq ?_ | refine Runs.region ?_ | refine Runs.block ?_ | refine Runs.cond ?_ | refine Runs.skip ?_ | refine Runs.loop ?_ | refine Runs.exit ?_ | refine Runs.ret ?_)
    refine pcond.t rfl ?_
    repeat (first | refine kthenP.n ?_ | refine kthenP.r ?_ | refine kthenP.e ?_ | refine kblockP.n ?_ | refine kblockP.r ?_ | refine kblockP.e ?_ | refine kblockP.o rfl ?_ | refine Runs.seq ?_ | refine Runs.region ?_ | refine Runs.block ?_ | refine Runs.cond ?_ | refine Runs.skip ?_ | refine Runs.loop ?_ | refine Runs.exit ?_ | refine Runs.ret ?_)
    repeat (first | refine pops.bin rfl rfl rfl rfl rfl rfl (cbin_inc (by omega)) ?_ | refine pops.fl rfl rfl rfl rfl rfl ?_ | refine pops.skip rfl rfl rfl ?_ | refine pops.load rfl rfl rfl rfl rfl (by first | assumption | exact cload_of (by assumption) rfl) ?_ | refine pops.len rfl rfl rfl rfl rfl rfl rfl rfl (by first | exact SlA.len (by assumption) rfl | exact SlI.len (by assumption) rfl | exact SlS.len (by assumption) rfl | exact Sl.len (by assumption) rfl) ?_)
    refine pops.nil ?_
    repeat (first | refine kthenP.n ?_ | refine kthenP.r ?_ | refine kthenP.e ?_ | refine kblockP.n ?_ | refine kblockP.r ?_ | refine kblockP.e ?_ | refine kblockP.o rfl ?_ | refine Runs.seq ?_ | refine Runs.region ?_ | refine Runs.block ?_ | refine Runs.cond ?_ | refine Runs.skip ?_ | refine Runs.loop ?_ | refine Runs.exit ?_ | refine Runs.ret ?_)
    refine pleave.r rfl ?_
    simp at q1
    rw [out (by omega)]
    exact ⟨rfl, g02⟩
  repeat (first | refine pops.bin rfl rfl rfl rfl rfl rfl (cbin_inc (by omega)) ?_ | refine pops.fd rfl rfl rfl rfl rfl rfl ?_ | refine pops.skip rfl rfl rfl ?_ | refine pops.load rfl rfl rfl rfl rfl (by first | assumption | exact cload_of (by assumption) rfl) ?_ | refine pops.len rfl rfl rfl rfl rfl rfl rfl rfl (by first | exact SlA.len (by assumption) rfl | exact SlI.len (by assumption) rfl | exact SlS.len (by assumption) rfl | exact Sl.len (by assumption) rfl) ?_)
  refine pops.cmp rfl rfl rfl rfl rfl (fun q2 => ?_) (fun q2 => ?_)
  · repeat (first | refine pops.bin rfl rfl rfl rfl rfl rfl (cbin_inc (by omega)) ?_ | refine pops.fl rfl rfl rfl rfl rfl ?_ | refine pops.skip rfl rfl rfl ?_ | refine pops.load rfl rfl rfl rfl rfl (by first | assumption | exact cload_of (by assumption) rfl) ?_ | refine pops.len rfl rfl rfl rfl rfl rfl rfl rfl (by first | exact SlA.len (by assumption) rfl | exact SlI.len (by assumption) rfl | exact SlS.len (by assumption) rfl | exact Sl.len (by assumption) rfl) ?_)
    refine pops.nil ?_
    repeat (first | refine kthenP.n ?_ | refine kthenP.r ?_ | refine kthenP.e ?_ | refine kblockP.n ?_ | refine kblockP.r ?_ | refine kblockP.e ?_ | refine kblockP.o rfl ?_ | refine Runs.seq ?_ | refine Runs.region ?_ | refine Runs.block ?_ | refine Runs.cond ?_ | refine Runs.skip ?_ | refine Runs.loop ?_ | refine Runs.exit ?_ | refine Runs.ret ?_)
    refine pcond.t rfl ?_
    repeat (first | refine kthenP.n ?_ | refine kthenP.r ?_ | refine kthenP.e ?_ | refine kblockP.n ?_ | refine kblockP.r ?_ | refine kblockP.e ?_ | refine kblockP.o rfl ?_ | refine Runs.seq ?_ | refine Runs.region ?_ | refine Runs.block ?_ | refine Runs.cond ?_ | refine Runs.skip ?_ | refine Runs.loop ?_ | refine Runs.exit ?_ | refine Runs.ret ?_)
    repeat (first | refine pops.bin rfl rfl rfl rfl rfl rfl (cbin_inc (by omega)) ?_ | refine pops.fl rfl rfl rfl rfl rfl ?_ | refine pops.skip rfl rfl rfl ?_ | refine pops.load rfl rfl rfl rfl rfl (by first | assumption | exact cload_of (by assumption) rfl) ?_ | refine pops.len rfl rfl rfl rfl rfl rfl rfl rfl (by first | exact SlA.len (by assumption) rfl | exact SlI.len (by assumption) rfl | exact SlS.len (by assumption) rfl | exact Sl.len (by assumption) rfl) ?_)
    refine pops.nil ?_
    repeat (first | refine kthenP.n ?_ | refine kthenP.r ?_ | refine kthenP.e ?_ | refine kblockP.n ?_ | refine kblockP.r ?_ | refine kblockP.e ?_ | refine kblockP.o rfl ?_ | refine Runs.seq ?_ | refine Runs.region ?_ | refine Runs.block ?_ | refine Runs.cond ?_ | refine Runs.skip ?_ | refine Runs.loop ?_ | refine Runs.exit ?_ | refine Runs.ret ?_)
    refine pleave.r rfl ?_
    simp at q2
    rw [out (by omega)]
    exact ⟨rfl, g02⟩
  simp at q1 q2
  obtain ⟨k, rfl⟩ : ∃ k : Nat, q = k := Int.eq_ofNat_of_zero_le q1
  have hk : k ≤ l.length := by omega
  have hres : DecideR t l k = decS t (st t.left.next l k) (rst t.right.next l (l.length - k)) := by
    unfold DecideR
    rw [tt_t (by exact ⟨by omega, by omega, hU⟩)]
    rfl
  have hs := st_ok hU.1.2.2.2.1 hU.2 k hk
  have hu := rst_ok hU.1.2.2.2.2 hU.2 (l.length - k) (by omega)
  obtain ⟨m, hm1, hm2, hm3⟩ := mark_ok hU.1.2.2.2.1 hs
  obtain ⟨rm, hr1, hr2, hr3⟩ := mark_ok hU.1.2.2.2.2 hu
  replace hy := hy.gr hwf g02
  replace hy' := hy'.gr hwf g02
  replace hac := Sl.gr hac hwf g02
  repeat (first | refine pops.bin rfl rfl rfl rfl rfl rfl (cbin_inc (by omega)) ?_ | refine pops.fl rfl rfl rfl rfl rfl ?_ | refine pops.skip rfl rfl rfl ?_ | refine pops.load rfl rfl rfl rfl rfl (by first | assumption | exact cload_of (by assumption) rfl) ?_ | refine pops.len rfl rfl rfl rfl rfl rfl rfl rfl (by first | exact SlA.len (by assumption) rfl | exact SlI.len (by assumption) rfl | exact SlS.len (by assumption) rfl | exact Sl.len (by assumption) rfl) ?_)
  refine pops.nil ?_
  repeat (first | refine kthenP.n ?_ | refine kthenP.r ?_ | refine kthenP.e ?_ | refine kblockP.n ?_ | refine kblockP.r ?_ | refine kblockP.e ?_ | refine kblockP.o rfl ?_ | refine Runs.seq ?_ | refine Runs.region ?_ | refine Runs.block ?_ | refine Runs.cond ?_ | refine Runs.skip ?_ | refine Runs.loop ?_ | refine Runs.exit ?_ | refine Runs.ret ?_)
  refine pcond.f rfl ?_
  repeat (first | refine kthenP.n ?_ | refine kthenP.r ?_ | refine kthenP.e ?_ | refine kblockP.n ?_ | refine kblockP.r ?_ | refine kblockP.e ?_ | refine kblockP.o rfl ?_ | refine Runs.seq ?_ | refine Runs.region ?_ | refine Runs.block ?_ | refine Runs.cond ?_ | refine Runs.skip ?_ | refine Runs.loop ?_ | refine Runs.exit ?_ | refine Runs.ret ?_)
  refine PG.startA 24 16777215 _ rfl rfl rfl rfl ?_
  repeat (first | refine PG.skip (by decide +kernel) ?_ | refine PG.take (by decide +kernel) rfl rfl rfl rfl ?_ | refine PG.load (by decide +kernel) rfl rfl rfl rfl rfl (by first | assumption | exact cload_of (by assumption) rfl) ?_ | refine PG.drop (by decide +kernel) rfl rfl rfl ?_)
  refine PG.nil ?_
  refine pd1.callR 5 rfl (by kernel_rfl) rfl rfl rfl rfl rfl fn_refLeft rfl rfl rfl ((refLeft_calls hV hl hlen hll).monoW fun r h3 hwf3 hh => ?_)
  obtain ⟨⟨u1, rfl, hu1⟩, g3⟩ := hh
  unfold LeftR at hu1
  rw [tt_t hU] at hu1
  simp only [cond_true] at hu1
  replace hc := g3.at hwf2 hc
  replace hV := hV.gr hwf2 g3
  replace hl := Sl.gr hl hwf2 g3
  replace hy := hy.gr hwf2 g3
  replace hy' := hy'.gr hwf2 g3
  replace hac := Sl.gr hac hwf2 g3
  refine ⟨u1, rfl, _, by (repeat (first | exact Reck.nil | (apply Reck.dropI; decide +kernel) | (apply Reck.keep; rfl) | (apply Reck.load; rfl; rfl; first | assumption | exact cload_of (by assumption) rfl) | (apply Reck.same; rfl))), ?_⟩
  obtain ⟨p1, hp1, hq1⟩ := Sl.readM hu1 hwf3 (ts := 23) rfl (leftS_get hk) .i64
  obtain ⟨p2, um, hp2, hum, hq2⟩ := SlA.readG hy hwf3 (ts := 24) rfl hm1 .i64
  have hq1' : cload (X w).T h3 3 p1 = some (.int .i64 (st t.left.next l k : Int)) := hq1 _ (Gr.refl _)
  have hq2' : cload (X w).T h3 23 p2 = some um := hq2 _ (Gr.refl _)
  repeat refine PG.skip (by decide +kernel) ?_
  refine PG.take (by decide +kernel) rfl rfl rfl (hp1) ?_
  refine PG.load (by decide +kernel) rfl rfl rfl rfl rfl (by first | assumption | exact cload_of (by assumption) rfl) ?_
  refine PG.take (by decide +kernel) rfl rfl rfl (hp2) ?_
  refine PG.load (by decide +kernel) rfl rfl rfl rfl rfl (by first | assumption | exact cload_of (by assumption) rfl) ?_
  repeat (first | refine PG.skip (by decide +kernel) ?_ | refine PG.take (by decide +kernel) rfl rfl rfl rfl ?_ | refine PG.load (by decide +kernel) rfl rfl rfl rfl rfl (by first | assumption | exact cload_of (by assumption) rfl) ?_ | refine PG.drop (by decide +kernel) rfl rfl rfl ?_)
  refine PG.nil ?_
  refine pd1.callR 16 rfl (by kernel_rfl) rfl rfl rfl rfl rfl fn_refRight rfl rfl rfl ((refRight_calls hV hl hlen hll).monoW fun r h4 hwf4 hh => ?_)
  obtain ⟨⟨u2, rfl, hu2⟩, g4⟩ := hh
  unfold RightR at hu2
  rw [tt_t hU] at hu2
  simp only [cond_true] at hu2
  replace hc := g4.at hwf3 hc
  replace hy' := hy'.gr hwf3 g4
  replace hac := Sl.gr hac hwf3 g4
  replace hum := Sl.gr hum hwf3 g4
  have hq1' : cload (X w).T h4 3 p1 = some (.int .i64 (st t.left.next l k : Int)) := hq1 _ g4
  have hq2' : cload (X w).T h4 23 p2 = some um := hq2 _ g4
  refine ⟨u2, rfl, _, by (repeat (first | exact Reck.nil | (apply Reck.dropI; decide +kernel) | (apply Reck.keep; rfl) | (apply Reck.load; rfl; rfl; first | assumption | exact cload_of (by assumption) rfl) | (apply Reck.same; rfl))), ?_⟩
  obtain ⟨p3, hp3, hq3⟩ := Sl.readM hu2 hwf4 (ts := 23) rfl (rightS_get hk) .i64
  obtain ⟨p4, urm, hp4, hurm, hq4⟩ := SlA.readG hy' hwf4 (ts := 24) rfl hr1 .i64
  have hq3' : cload (X w).T h4 3 p3 = some (.int .i64 (rst t.right.next l (l.length - k) : Int)) := hq3 _ (Gr.refl _)
  have hq4' : cload (X w).T h4 23 p4 = some urm := hq4 _ (Gr.refl _)
  repeat refine PG.skip (by decide +kernel) ?_
  refine PG.take (by decide +kernel) rfl rfl rfl (hp3) ?_
  refine PG.load (by decide +kernel) rfl rfl rfl rfl rfl (by first | assumption | exact cload_of (by assumption) rfl) ?_
  refine PG.take (by decide +kernel) rfl rfl rfl (hp4) ?_
  refine PG.load (by decide +kernel) rfl rfl rfl rfl rfl (by first | assumption | exact cload_of (by assumption) rfl) ?_
  repeat (first | refine PG.skip (by decide +kernel) ?_ | refine PG.take (by decide +kernel) rfl rfl rfl rfl ?_ | refine PG.load (by decide +kernel) rfl rfl rfl rfl rfl (by first | assumption | exact cload_of (by assumption) rfl) ?_ | refine PG.drop (by decide +kernel) rfl rfl rfl ?_)
  refine PG.nil ?_
  refine pd1.finA (by kernel_rfl) (by decide +kernel) ?_
  clear hq1' hq2' hq3' hq4'
  have g04 := (g02.trans g3).trans g4
  have lm := hum.1
  rw [List.length_map] at lm
  have lrm := hurm.lt
  repeat (first | refine kthenP.n ?_ | refine kthenP.r ?_ | refine kthenP.e ?_ | refine kblockP.n ?_ | refine kblockP.r ?_ | refine kblockP.e ?_ | refine kblockP.o rfl ?_ | refine Runs.seq ?_ | refine Runs.region ?_ | refine Runs.block ?_ | refine Runs.cond ?_ | refine Runs.skip ?_ | refine Runs.loop ?_ | refine Runs.exit ?_ | refine Runs.ret ?_)
  repeat (first | refine pops.bin rfl rfl rfl rfl rfl rfl (cbin_inc (by omega)) ?_ | refine pops.fl rfl rfl rfl rfl rfl ?_ | refine pops.skip rfl rfl rfl ?_ | refine pops.load rfl rfl rfl rfl rfl (by first | assumption | exact cload_of (by assumption) rfl) ?_ | refine pops.len rfl rfl rfl rfl rfl rfl rfl rfl (by first | exact SlA.len (by assumption) rfl | exact SlI.len (by assumption) rfl | exact SlS.len (by assumption) rfl | exact Sl.len (by assumption) rfl) ?_)
  refine pops.nil ?_
  repeat (first | refine kthenP.n ?_ | refine kthenP.r ?_ | refine kthenP.e ?_ | refine kblockP.n ?_ | refine kblockP.r ?_ | refine kblockP.e ?_ | refine kblockP.o rfl ?_ | refine Runs.seq ?_ | refine Runs.region ?_ | refine Runs.block ?_ | refine Runs.cond ?_ | refine Runs.skip ?_ | refine Runs.loop ?_ | refine Runs.exit ?_ | refine Runs.ret ?_)
  refine Loops.ind 7 (fun i : Nat => [(3, .pointer (some ⟨b, 0, none⟩)), (8, um), (9, urm), (10, .int .i64 (i : Nat))]) (fun i h' => i ≤ m.length ∧ h' = h4 ∧ ∀ (j : Nat) z, j < i → m[j]? = some z → decide (z ∈ rm) = false) (fun i => m.length - i) 0 (by decide) ⟨rfl, rfl, rfl, rfl, trivial⟩ ⟨Nat.zero_le _, rfl, all_none⟩ ?_
  rintro i z h' hwf' ⟨hi, rfl, hall⟩
  repeat (first | refine kthenP.n ?_ | refine kthenP.r ?_ | refine kthenP.e ?_ | refine kblockP.n ?_ | refine kblockP.r ?_ | refine kblockP.e ?_ | refine kblockP.o rfl ?_ | refine Runs.seq ?_ | refine Runs.region ?_ | refine Runs.block ?_ | refine Runs.cond ?_ | refine Runs.skip ?_ | refine Runs.loop ?_ | refine Runs.exit ?_ | refine Runs.ret ?_)
  refine pops.fl rfl rfl rfl rfl rfl ?_
  refine pops.fl rfl rfl rfl rfl rfl ?_
  refine pops.len rfl rfl rfl rfl rfl rfl rfl rfl (Sl.map hum rfl) ?_
  refine pops.fl rfl rfl rfl rfl rfl ?_
  refine pops.nil ?_
  repeat (first | refine kthenP.n ?_ | refine kthenP.r ?_ | refine kthenP.e ?_ | refine kblockP.n ?_ | refine kblockP.r ?_ | refine kblockP.e ?_ | refine kblockP.o rfl ?_ | refine Runs.seq ?_ | refine Runs.region ?_ | refine Runs.block ?_ | refine Runs.cond ?_ | refine Runs.skip ?_ | refine Runs.loop ?_ | refine Runs.exit ?_ | refine Runs.ret ?_)
  refine pcond.d (p := (i : Int) < (m.length : Nat)) rfl (fun hlt => ?_) (fun hge => ?_)
  · obtain ⟨x0, hx0⟩ : ∃ q, m[i]? = some q := ⟨_, List.getElem?_eq_getElem (by omega)⟩
    obtain ⟨hx1, hx2⟩ := hm3 x0 (List.mem_of_getElem? hx0)
    obtain ⟨p5, hp5, hq5⟩ := Sl.readM hum hwf' (ts := 23) rfl hx0 .i64
    have hq5' : cload (X w).T h' 3 p5 = some (.int .i64 x0) := hq5 _ (Gr.refl _)
    repeat (first | refine kthenP.n ?_ | refine kthenP.r ?_ | refine kthenP.e ?_ | refine kblockP.n ?_ | refine kblockP.r ?_ | refine kblockP.e ?_ | refine kblockP.o rfl ?_ | refine Runs.seq ?_ | refine Runs.region ?_ | refine Runs.block ?_ | refine Runs.cond ?_ | refine Runs.skip ?_ | refine Runs.loop ?_ | refine Runs.exit ?_ | refine Runs.ret ?_)
    repeat (first | refine pops.bin rfl rfl rfl rfl rfl rfl (cbin_inc (by omega)) ?_ | refine pops.fl rfl rfl rfl rfl rfl ?_ | refine pops.skip rfl rfl rfl ?_ | refine pops.load rfl rfl rfl rfl rfl (by first | assumption | exact cload_of (by assumption) rfl) ?_ | refine pops.len rfl rfl rfl rfl rfl rfl rfl rfl (by first | exact SlA.len (by assumption) rfl | exact SlI.len (by assumption) rfl | exact SlS.len (by assumption) rfl | exact Sl.len (by assumption) rfl) ?_)
    refine pops.nil ?_
    repeat (first | refine kthenP.n ?_ | refine kthenP.r ?_ | refine kthenP.e ?_ | refine kblockP.n ?_ | refine kblockP.r ?_ | refine kblockP.e ?_ | refine kblockP.o rfl ?_ | refine Runs.seq ?_ | refine Runs.region ?_ | refine Runs.block ?_ | refine Runs.cond ?_ | refine Runs.skip ?_ | refine Runs.loop ?_ | refine Runs.exit ?_ | refine Runs.ret ?_)
    refine Loops.ind 7 (fun k : Nat => [(3, .pointer (some ⟨b, 0, none⟩)), (8, um), (9, urm), (10, .int .i64 (i : Nat)), (11, .int .i64 (k : Nat))]) (fun k h'' => k ≤ rm.length ∧ h'' = h' ∧ ∀ (j : Nat) z, j < k → rm[j]? = some z → x0 ≠ z) (fun k => rm.length - k) 0 (by decide) ⟨rfl, rfl, rfl, rfl, rfl, trivial⟩ ⟨Nat.zero_le _, rfl, all_none⟩ ?_
    rintro k2 z2 h'' hwf'' ⟨hk2, rfl, hkall⟩
    repeat (first | refine kthenP.n ?_ | refine kthenP.r ?_ | refine kthenP.e ?_ | refine kblockP.n ?_ | refine kblockP.r ?_ | refine kblockP.e ?_ | refine kblockP.o rfl ?_ | refine Runs.seq ?_ | refine Runs.region ?_ | refine Runs.block ?_ | refine Runs.cond ?_ | refine Runs.skip ?_ | refine Runs.loop ?_ | refine Runs.exit ?_ | refine Runs.ret ?_)
    repeat (first | refine pops.bin rfl rfl rfl rfl rfl rfl (cbin_inc (by omega)) ?_ | refine pops.fl rfl rfl rfl rfl rfl ?_ | refine pops.skip rfl rfl rfl ?_ | refine pops.load rfl rfl rfl rfl rfl (by first | assumption | exact cload_of (by assumption) rfl) ?_ | refine pops.len rfl rfl rfl rfl rfl rfl rfl rfl (by first | exact SlA.len (by assumption) rfl | exact SlI.len (by assumption) rfl | exact SlS.len (by assumption) rfl | exact Sl.len (by assumption) rfl) ?_)
    refine pops.nil ?_
    repeat (first | refine kthenP.n ?_ | refine kthenP.r ?_ | refine kthenP.e ?_ | refine kblockP.n ?_ | refine kblockP.r ?_ | refine kblockP.e ?_ | refine kblockP.o rfl ?_ | refine Runs.seq ?_ | refine Runs.region ?_ | refine Runs.block ?_ | refine Runs.cond ?_ | refine Runs.skip ?_ | refine Runs.loop ?_ | refine Runs.exit ?_ | refine Runs.ret ?_)
    refine pcond.d (p := (k2 : Int) < (rm.length : Nat)) rfl (fun hlt2 => ?_) (fun hge2 => ?_)
    · obtain ⟨y0, hy0⟩ : ∃ q, rm[k2]? = some q := ⟨_, List.getElem?_eq_getElem (by omega)⟩
      obtain ⟨p6, hp6, hq6⟩ := Sl.readM hurm hwf'' (ts := 23) rfl hy0 .i64
      have hq6' : cload (X w).T h'' 3 p6 = some (.int .i64 y0) := hq6 _ (Gr.refl _)
      repeat (first | refine kthenP.n ?_ | refine kthenP.r ?_ | refine kthenP.e ?_ | refine kblockP.n ?_ | refine kblockP.r ?_ | refine kblockP.e ?_ | refine kblockP.o rfl ?_ | refine Runs.seq ?_ | refine Runs.region ?_ | refine Runs.block ?_ | refine Runs.cond ?_ | refine Runs.skip ?_ | refine Runs.loop ?_ | refine Runs.exit ?_ | refine Runs.ret ?_)
      refine PG.start _ rfl rfl ?_
      refine PG.take (by decide +kernel) rfl rfl rfl rfl ?_
      refine PG.take (by decide +kernel) rfl rfl rfl rfl ?_
      refine PG.take (by decide +kernel) rfl rfl rfl (hp5) ?_
      refine PG.load (by decide +kernel) rfl rfl rfl rfl rfl (by first | assumption | exact cload_of (by assumption) rfl) ?_
      refine PG.take (by decide +kernel) rfl rfl rfl rfl ?_
      refine PG.take (by decide +kernel) rfl rfl rfl rfl ?_
      refine PG.take (by decide +kernel) rfl rfl rfl (hp6) ?_
      refine PG.load (by decide +kernel) rfl rfl rfl rfl rfl (by first | assumption | exact cload_of (by assumption) rfl) ?_
      by_cases hxy : x0 = y0
      · subst hxy
        have hmem : decide (x0 ∈ rm) = true := decide_eq_true (List.mem_of_getElem? hy0)
        refine PG.take (by decide +kernel) rfl rfl rfl (congrArg (fun b => some (Value.bool b)) (decide_eq_true (rfl : x0 = x0))) ?_
        refine PG.nil (pd1.finA (by kernel_rfl) (by decide +kernel) ?_)
        obtain ⟨k3, rfl⟩ : ∃ k : Nat, x0 = k := Int.eq_ofNat_of_zero_le hx1
        obtain ⟨p7, hp7, hq7⟩ := Sl.readM hac hwf'' (ts := 23) rfl (i := k3) (by have := act_ok hx1 hx2; simpa using this) .i64
        have hq7' : cload (X w).T h'' 3 p7 = some (.int .i64 (actOf t k3)) := hq7 _ (Gr.refl _)
        repeat (first | refine kthenP.n ?_ | refine kthenP.r ?_ | refine kthenP.e ?_ | refine kblockP.n ?_ | refine kblockP.r ?_ | refine kblockP.e ?_ | refine kblockP.o rfl ?_ | refine Runs.seq ?_ | refine Runs.region ?_ | refine Runs.block ?_ | refine Runs.cond ?_ | refine Runs.skip ?_ | refine Runs.loop ?_ | refine Runs.exit ?_ | refine Runs.ret ?_)
        refine pcond.t rfl ?_
        repeat (first | refine kthenP.n ?_ | refine kthenP.r ?_ | refine kthenP.e ?_ | refine kblockP.n ?_ | refine kblockP.r ?_ | refine kblockP.e ?_ | refine kblockP.o rfl ?_ | refine Runs.seq ?_ | refine Runs.region ?_ | refine Runs.block ?_ | refine Runs.cond ?_ | refine Runs.skip ?_ | refine Runs.loop ?_ | refine Runs.exit ?_ | refine Runs.ret ?_)
        refine PG.start _ rfl rfl ?_
        refine PG.take (by decide +kernel) rfl rfl rfl rfl ?_
        refine PG.load (by decide +kernel) rfl rfl rfl rfl rfl (by first | assumption | exact cload_of (by assumption) rfl) ?_
        refine PG.take (by decide +kernel) rfl rfl rfl rfl ?_
        refine PG.take (by decide +kernel) rfl rfl rfl rfl ?_
        refine PG.take (by decide +kernel) rfl rfl rfl (hp5) ?_
        refine PG.load (by decide +kernel) rfl rfl rfl rfl rfl (by first | assumption | exact cload_of (by assumption) rfl) ?_
        refine PG.take (by decide +kernel) rfl rfl rfl (hp7) ?_
        refine PG.load (by decide +kernel) rfl rfl rfl rfl rfl (by first | assumption | exact cload_of (by assumption) rfl) ?_
        refine PG.take (by decide +kernel) rfl rfl rfl rfl ?_
        refine PG.take (by decide +kernel) rfl rfl rfl rfl ?_
        refine PG.take (by decide +kernel) rfl rfl rfl (hp5) ?_
        refine PG.load (by decide +kernel) rfl rfl rfl rfl rfl (by first | assumption | exact cload_of (by assumption) rfl) ?_
        repeat (first | refine PG.skip (by decide +kernel) ?_ | refine PG.take (by decide +kernel) rfl rfl rfl rfl ?_ | refine PG.load (by decide +kernel) rfl rfl rfl rfl rfl (by first | assumption | exact cload_of (by assumption) rfl) ?_ | refine PG.drop (by decide +kernel) rfl rfl rfl ?_)
        refine PG.nil ?_
        refine pd1.finA (by kernel_rfl) (by decide +kernel) ?_
        repeat (first | refine kthenP.n ?_ | refine kthenP.r ?_ | refine kthenP.e ?_ | refine kblockP.n ?_ | refine kblockP.r ?_ | refine kblockP.e ?_ | refine kblockP.o rfl ?_ | refine Runs.seq ?_ | refine Runs.region ?_ | refine Runs.block ?_ | refine Runs.cond ?_ | refine Runs.skip ?_ | refine Runs.loop ?_ | refine Runs.exit ?_ | refine Runs.ret ?_)
        refine pleave.r rfl ?_
        refine ⟨?_, g04⟩
        have : decS t (st t.left.next l k) (rst t.right.next l (l.length - k)) = (actOf t k3, (k3 : Int)) := by
          unfold decS
          rw [hm2, hr2, find_first hall hx0 hmem]
        rw [hres, this]
      · refine PG.take (by decide +kernel) rfl rfl rfl (congrArg (fun b => some (Value.bool b)) (decide_eq_false hxy)) ?_
        refine PG.nil (pd1.finA (by kernel_rfl) (by decide +kernel) ?_)
        repeat (first | refine kthenP.n ?_ | refine kthenP.r ?_ | refine kthenP.e ?_ | refine kblockP.n ?_ | refine kblockP.r ?_ | refine kblockP.e ?_ | refine kblockP.o rfl ?_ | refine Runs.seq ?_ | refine Runs.region ?_ | refine Runs.block ?_ | refine Runs.cond ?_ | refine Runs.skip ?_ | refine Runs.loop ?_ | refine Runs.exit ?_ | refine Runs.ret ?_)
        refine pcond.f rfl ?_
        repeat (first | refine kthenP.n ?_ | refine kthenP.r ?_ | refine kthenP.e ?_ | refine kblockP.n ?_ | refine kblockP.r ?_ | refine kblockP.e ?_ | refine kblockP.o rfl ?_ | refine Runs.seq ?_ | refine Runs.region ?_ | refine Runs.block ?_ | refine Runs.cond ?_ | refine Runs.skip ?_ | refine Runs.loop ?_ | refine Runs.exit ?_ | refine Runs.ret ?_)
        repeat (first | refine pops.bin rfl rfl rfl rfl rfl rfl (cbin_inc (by omega)) ?_ | refine pops.fl rfl rfl rfl rfl rfl ?_ | refine pops.skip rfl rfl rfl ?_ | refine pops.load rfl rfl rfl rfl rfl (by first | assumption | exact cload_of (by assumption) rfl) ?_ | refine pops.len rfl rfl rfl rfl rfl rfl rfl rfl (by first | exact SlA.len (by assumption) rfl | exact SlI.len (by assumption) rfl | exact SlS.len (by assumption) rfl | exact Sl.len (by assumption) rfl) ?_)
        refine pops.nil ?_
        refine .n ⟨_, k2 + 1, rfl, ⟨rfl, rfl, rfl, rfl, rfl, trivial⟩, (by show rm.length - (k2 + 1) < rm.length - k2; omega), by omega, rfl, all_next hkall hy0 hxy⟩
    · repeat (first | refine kthenP.n ?_ | refine kthenP.r ?_ | refine kthenP.e ?_ | refine kblockP.n ?_ | refine kblockP.r ?_ | refine kblockP.e ?_ | refine kblockP.o rfl ?_ | refine Runs.seq ?_ | refine Runs.region ?_ | refine Runs.block ?_ | refine Runs.cond ?_ | refine Runs.skip ?_ | refine Runs.loop ?_ | refine Runs.exit ?_ | refine Runs.ret ?_)
      repeat (first | refine pops.bin rfl rfl rfl rfl rfl rfl (cbin_inc (by omega)) ?_ | refine pops.fl rfl rfl rfl rfl rfl ?_ | refine pops.skip rfl rfl rfl ?_ | refine pops.load rfl rfl rfl rfl rfl (by first | assumption | exact cload_of (by assumption) rfl) ?_ | refine pops.len rfl rfl rfl rfl rfl rfl rfl rfl (by first | exact SlA.len (by assumption) rfl | exact SlI.len (by assumption) rfl | exact SlS.len (by assumption) rfl | exact Sl.len (by assumption) rfl) ?_)
      refine pops.nil ?_
      refine .n ⟨_, i + 1, rfl, ⟨rfl, rfl, rfl, rfl, trivial⟩, (by show m.length - (i + 1) < m.length - i; omega), by omega, rfl, all_next hall hx0 (decide_eq_false fun hmem => all_end hkall (by omega) x0 hmem rfl)⟩
  · repeat (first | refine kthenP.n ?_ | refine kthenP.r ?_ | refine kthenP.e ?_ | refine kblockP.n ?_ | refine kblockP.r ?_ | refine kblockP.e ?_ | refine kblockP.o rfl ?_ | refine Runs.seq ?_ | refine Runs.region ?_ | refine Runs.block ?_ | refine Runs.cond ?_ | refine Runs.skip ?_ | refine Runs.loop ?_ | refine Runs.exit ?_ | refine Runs.ret ?_)
    repeat (first | refine pops.bin rfl rfl rfl rfl rfl rfl (cbin_inc (by omega)) ?_ | refine pops.fl rfl rfl rfl rfl rfl ?_ | refine pops.skip rfl rfl rfl ?_ | refine pops.load rfl rfl rfl rfl rfl (by first | assumption | exact cload_of (by assumption) rfl) ?_ | refine pops.len rfl rfl rfl rfl rfl rfl rfl rfl (by first | exact SlA.len (by assumption) rfl | exact SlI.len (by assumption) rfl | exact SlS.len (by assumption) rfl | exact Sl.len (by assumption) rfl) ?_)
    refine pops.nil ?_
    repeat (first | refine kthenP.n ?_ | refine kthenP.r ?_ | refine kthenP.e ?_ | refine kblockP.n ?_ | refine kblockP.r ?_ | refine kblockP.e ?_ | refine kblockP.o rfl ?_ | refine Runs.seq ?_ | refine Runs.region ?_ | refine Runs.block ?_ | refine Runs.cond ?_ | refine Runs.skip ?_ | refine Runs.loop ?_ | refine Runs.exit ?_ | refine Runs.ret ?_)
    refine pleave.r rfl ?_
    refine ⟨?_, g04⟩
    have : decS t (st t.left.next l k) (rst t.right.next l (l.length - k)) = (2, -1) := by
      unfold decS
      rw [hm2, hr2, find_no (all_end hall (by omega))]
    rw [hres, this]
end Go.Proofs.YtcenphnkcifbhaaGreatDoor

set_option maxRecDepth 100000
set_option linter.unusedVariables false
set_option linter.unusedSimpArgs false
namespace Go.Proofs.YtcenphnkcifbhaaGreatDoor
open Go.Cx
variable {w : World} {h : CH}
theorem fn_refActions : tab.fn 15 = some Tryz.f15 := by kernel_rfl
theorem refActions_calls {v vl : Value} {t : TabD} {l : List Int} (hv : TabV tab ks h v t) (hl : SlI tab ks.int h vl l) (hlen : TextsLt t.classes) (hll : l.length ≤ 1000) : CalF (X w) 15 [v, vl] h fun r h' => (∃ u, r = .ret u ∧ SlI tab ks.int h' u (ActionsR t l)) ∧ Gr h h' := by
  refine CalF.wf fun hwf => ?_
  have hV := hv
  obtain ⟨c, a, x, y, x', y', rfl, ho, hcl, hac, hx, hy, hx', hy'⟩ := hv
  simp only [Bool.and_eq_true] at ho
  clear hcl hac hx hy hx' hy'
  refine CalF.intro fn_refActions rfl (Nat.le_of_ble_eq_true rfl) ?_
  repeat (first | refine kthenP.n ?_ | refine kthenP.r ?_ | refine kthenP.e ?_ | refine kblockP.n ?_ | refine kblockP.r ?_ | refine kblockP.e ?_ | refine kblockP.o rfl ?_ | refine Runs.seq ?_ | refine Runs.region ?_ | refine Runs.block ?_ | refine Runs.cond ?_ | refine Runs.skip ?_ | refine Runs.loop ?_ | refine Runs.exit ?_ | refine Runs.ret ?_)
  refine pops.box (cs := [c, a, x, y, x', y']) rfl rfl rfl rfl (by simp [ho]) rfl rfl hwf fun b h1 hb hwf1 g1 hc => ?_
  replace hV := hV.gr hwf g1
  replace hl := Sl.gr hl hwf g1
  refine pops.fl rfl rfl rfl rfl rfl ?_
  refine pops.nil ?_
  repeat (first | refine kthenP.n ?_ | refine kthenP.r ?_ | refine kthenP.e ?_ | refine kblockP.n ?_ | refine kblockP.r ?_ | refine kblockP.e ?_ | refine kblockP.o rfl ?_ | refine Runs.seq ?_ | refine Runs.region ?_ | refine Runs.block ?_ | refine Runs.cond ?_ | refine Runs.skip ?_ | refine Runs.loop ?_ | refine Runs.exit ?_ | refine Runs.ret ?_)
  repeat (first | refine pops.bin rfl rfl rfl rfl rfl rfl (cbin_inc (by omega)) ?_ | refine pops.fl rfl rfl rfl rfl rfl ?_ | refine pops.skip rfl rfl rfl ?_ | refine pops.load rfl rfl rfl rfl rfl (by first | assumption | exact cload_of (by assumption) rfl) ?_ | refine pops.len rfl rfl rfl rfl rfl rfl rfl rfl (by first | exact SlA.len (by assumption) rfl | exact SlI.len (by assumption) rfl | exact SlS.len (by assumption) rfl | exact Sl.len (by assumption) rfl) ?_)
  refine pops.callG rfl rfl rfl rfl rfl fn_refusable rfl rfl rfl (refusable_calls hV hl hlen) fun h2 hwf2 g2 => ?_
  replace hc := g2.at hwf1 hc
  replace hV := hV.gr hwf1 g2
  replace hl := Sl.gr hl hwf1 g2
  have g02 := g1.trans g2
  unfold ActionsR
  cases hU : tt (UsableP t l) with
  | false =>
    repeat (first | refine pops.bin rfl rfl rfl rfl rfl rfl (cbin_inc (by omega)) ?_ | refine pops.fl rfl rfl rfl rfl rfl ?_ | refine pops.skip rfl rfl rfl ?_ | refine pops.load rfl rfl rfl rfl rfl (by first | assumption | exact cload_of (by assumption) rfl) ?_ | refine pops.len rfl rfl rfl rfl rfl rfl rfl rfl (by first | exact SlA.len (by assumption) rfl | exact SlI.len (by assumption) rfl | exact SlS.len (by assumption) rfl | exact Sl.len (by assumption) rfl) ?_)
    refine pops.nil ?_
    repeat (first | refine kthenP.n ?_ | refine kthenP.r ?_ | refine kthenP.e ?_ | refine kblockP.n ?_ | refine kblockP.r ?_ | refine kblockP.e ?_ | refine kblockP.o rfl ?_ | refine Runs.seq ?_ | refine Runs.region ?_ | refine Runs.block ?_ | refine Runs.cond ?_ | refine Runs.skip ?_ | refine Runs.loop ?_ | refine Runs.exit ?_ | refine Runs.ret ?_)
    refine pcond.t rfl ?_
    repeat (first | refine kthenP.n ?_ | refine kthenP.r ?_ | refine kthenP.e ?_ | refine kblockP.n ?_ | refine kblockP.r ?_ | refine kblockP.e ?_ | refine kblockP.o rfl ?_ | refine Runs.seq ?_ | refine Runs.region ?_ | refine Runs.block ?_ | refine Runs.cond ?_ | refine Runs.skip ?_ | refine Runs.loop ?_ | refine Runs.exit ?_ | refine Runs.ret ?_)
    repeat (first | refine pops.bin rfl rfl rfl rfl rfl rfl (cbin_inc (by omega)) ?_ | refine pops.fl rfl rfl rfl rfl rfl ?_ | refine pops.skip rfl rfl rfl ?_ | refine pops.load rfl rfl rfl rfl rfl (by first | assumption | exact cload_of (by assumption) rfl) ?_ | refine pops.len rfl rfl rfl rfl rfl rfl rfl rfl (by first | exact SlA.len (by assumption) rfl | exact SlI.len (by assumption) rfl | exact SlS.len (by assumption) rfl | exact Sl.len (by assumption) rfl) ?_)
    refine pops.nil ?_
    repeat (first | refine kthenP.n ?_ | refine kthenP.r ?_ | refine kthenP.e ?_ | refine kblockP.n ?_ | refine kblockP.r ?_ | refine kblockP.e ?_ | refine kblockP.o rfl ?_ | refine Runs.seq ?_ | refine Runs.region ?_ | refine Runs.block ?_ | refine Runs.cond ?_ | refine Runs.skip ?_ | refine Runs.loop ?_ | refine Runs.exit ?_ | refine Runs.ret ?_)
    refine pleave.r rfl ?_
    exact ⟨⟨_, rfl, nil_ints⟩, g02⟩
  | true =>
  replace hU := tt_iff.1 hU
  repeat (first | refine pops.bin rfl rfl rfl rfl rfl rfl (cbin_inc (by omega)) ?_ | refine pops.fl rfl rfl rfl rfl rfl ?_ | refine pops.skip rfl rfl rfl ?_ | refine pops.load rfl rfl rfl rfl rfl (by first | assumption | exact cload_of (by assumption) rfl) ?_ | refine pops.len rfl rfl rfl rfl rfl rfl rfl rfl (by first | exact SlA.len (by assumption) rfl | exact SlI.len (by assumption) rfl | exact SlS.len (by assumption) rfl | exact Sl.len (by assumption) rfl) ?_)
  refine pops.nil ?_
  repeat (first | refine kthenP.n ?_ | refine kthenP.r ?_ | refine kthenP.e ?_ | refine kblockP.n ?_ | refine kblockP.r ?_ | refine kblockP.e ?_ | refine kblockP.o rfl ?_ | refine Runs.seq ?_ | refine Runs.region ?_ | refine Runs.block ?_ | refine Runs.cond ?_ | refine Runs.skip ?_ | refine Runs.loop ?_ | refine Runs.exit ?_ | refine Runs.ret ?_)
  refine pcond.f rfl ?_
  repeat (first | refine kthenP.n ?_ | refine kthenP.r ?_ | refine kthenP.e ?_ | refine kblockP.n ?_ | refine kblockP.r ?_ | refine kblockP.e ?_ | refine kblockP.o rfl ?_ | refine Runs.seq ?_ | refine Runs.region ?_ | refine Runs.block ?_ | refine Runs.cond ?_ | refine Runs.skip ?_ | refine Runs.loop ?_ | refine Runs.exit ?_ | refine Runs.ret ?_)
  repeat (first | refine pops.bin rfl rfl rfl rfl rfl rfl (cbin_inc (by omega)) ?_ | refine pops.fl rfl rfl rfl rfl rfl ?_ | refine pops.skip rfl rfl rfl ?_ | refine pops.load rfl rfl rfl rfl rfl (by first | assumption | exact cload_of (by assumption) rfl) ?_ | refine pops.len rfl rfl rfl rfl rfl rfl rfl rfl (by first | exact SlA.len (by assumption) rfl | exact SlI.len (by assumption) rfl | exact SlS.len (by assumption) rfl | exact Sl.len (by assumption) rfl) ?_)
  refine pops.nil ?_
  repeat (first | refine kthenP.n ?_ | refine kthenP.r ?_ | refine kthenP.e ?_ | refine kblockP.n ?_ | refine kblockP.r ?_ | refine kblockP.e ?_ | refine kblockP.o rfl ?_ | refine Runs.seq ?_ | refine Runs.region ?_ | refine Runs.block ?_ | refine Runs.cond ?_ | refine Runs.skip ?_ | refine Runs.loop ?_ | refine Runs.exit ?_ | refine Runs.ret ?_)
  repeat (first | refine pops.bin rfl rfl rfl rfl rfl rfl (cbin_inc (by omega)) ?_ | refine pops.fl rfl rfl rfl rfl rfl ?_ | refine pops.skip rfl rfl rfl ?_ | refine pops.load rfl rfl rfl rfl rfl (by first | assumption | exact cload_of (by assumption) rfl) ?_ | refine pops.len rfl rfl rfl rfl rfl rfl rfl rfl (by first | exact SlA.len (by assumption) rfl | exact SlI.len (by assumption) rfl | exact SlS.len (by assumption) rfl | exact Sl.len (by assumption) rfl) ?_)
  refine pops.nil ?_
  repeat (first | refine kthenP.n ?_ | refine kthenP.r ?_ | refine kthenP.e ?_ | refine kblockP.n ?_ | refine kblockP.r ?_ | refine kblockP.e ?_ | refine kblockP.o rfl ?_ | refine Runs.seq ?_ | refine Runs.region ?_ | refine Runs.block ?_ | refine Runs.cond ?_ | refine Runs.skip ?_ | refine Runs.loop ?_ | refine Runs.exit ?_ | refine Runs.ret ?_)
  refine Loops.ind 6 (fun s : Nat × Value => [(1, vl), (2, .pointer (some ⟨b, 0, none⟩)), (5, s.2), (6, .int .i64 (s.1 : Nat))])
    (fun s h' => s.1 ≤ l.length + 1 ∧ Gr h2 h' ∧ ∃ b', h2.n ≤ b' ∧ Own h' s.2 b' ((List.range s.1).map fun i => Value.int .i64 (decS t (st t.left.next l i) (rst t.right.next l (l.length - i))).1))
    (fun s => l.length + 1 - s.1) (0, .slice none 0 0) (by decide) ⟨rfl, rfl, rfl, rfl, trivial⟩ ⟨Nat.zero_le _, Gr.refl _, h2.n, Nat.le_refl _, .inl ⟨rfl, rfl⟩⟩ ?_
  rintro ⟨i, vo⟩ z h' hwf' ⟨hi, g3, b', hb', hown⟩
  simp only at hi hown hb'
  replace hc := g3.at hwf2 hc
  replace hV := hV.gr hwf2 g3
  replace hl := Sl.gr hl hwf2 g3
  repeat (first | refine kthenP.n ?_ | refine kthenP.r ?_ | refine kthenP.e ?_ | refine kblockP.n ?_ | refine kblockP.r ?_ | refine kblockP.e ?_ | refine kblockP.o rfl ?_ | refine Runs.seq ?_ | refine Runs.region ?_ | refine Runs.block ?_ | refine Runs.cond ?_ | refine Runs.skip ?_ | refine Runs.loop ?_ | refine Runs.exit ?_ | refine Runs.ret ?_)
  repeat (first | refine pops.bin rfl rfl rfl rfl rfl rfl (cbin_inc (by omega)) ?_ | refine pops.fl rfl rfl rfl rfl rfl ?_ | refine pops.skip rfl rfl rfl ?_ | refine pops.load rfl rfl rfl rfl rfl (by first | assumption | exact cload_of (by assumption) rfl) ?_ | refine pops.len rfl rfl rfl rfl rfl rfl rfl rfl (by first | exact SlA.len (by assumption) rfl | exact SlI.len (by assumption) rfl | exact SlS.len (by assumption) rfl | exact Sl.len (by assumption) rfl) ?_)
  refine pops.nil ?_
  repeat (first | refine kthenP.n ?_ | refine kthenP.r ?_ | refine kthenP.e ?_ | refine kblockP.n ?_ | refine kblockP.r ?_ | refine kblockP.e ?_ | refine kblockP.o rfl ?_ | refine Runs.seq ?_ | refine Runs.region ?_ | refine Runs.block ?_ | refine Runs.cond ?_ | refine Runs.skip ?_ | refine Runs.loop ?_ | refine Runs.exit ?_ | refine Runs.ret ?_)
  refine pcond.d (p := (i : Int) ≤ (l.length : Nat)) rfl (fun hlt => ?_) (fun hge => ?_)
  · have hil : i ≤ l.length := by omega
    have hD : DecideR t l (i : Int) = decS t (st t.left.next l i) (rst t.right.next l (l.length - i)) := by
      unfold DecideR
      rw [tt_t (by exact ⟨by omega, by omega, hU⟩)]
      rfl
    repeat (first | refine kthenP.n ?_ | refine kthenP.r ?_ | refine kthenP.e ?_ | refine kblockP.n ?_ | refine kblockP.r ?_ | refine kblockP.e ?_ | refine kblockP.o rfl ?_ | refine Runs.seq ?_ | refine Runs.region ?_ | refine Runs.block ?_ | refine Runs.cond ?_ | refine Runs.skip ?_ | refine Runs.loop ?_ | refine Runs.exit ?_ | refine Runs.ret ?_)
    repeat (first | refine pops.bin rfl rfl rfl rfl rfl rfl (cbin_inc (by omega)) ?_ | refine pops.fl rfl rfl rfl rfl rfl ?_ | refine pops.skip rfl rfl rfl ?_ | refine pops.load rfl rfl rfl rfl rfl (by first | assumption | exact cload_of (by assumption) rfl) ?_ | refine pops.len rfl rfl rfl rfl rfl rfl rfl rfl (by first | exact SlA.len (by assumption) rfl | exact SlI.len (by assumption) rfl | exact SlS.len (by assumption) rfl | exact Sl.len (by assumption) rfl) ?_)
    refine pops.callG rfl rfl rfl rfl rfl fn_refDecide rfl rfl rfl (refDecide_calls (i : Int) hV hl hlen hll) fun h5 hwf5 g5 => ?_
    rw [hD]
    replace hc := g5.at hwf' hc
    repeat (first | refine pops.bin rfl rfl rfl rfl rfl rfl (cbin_inc (by omega)) ?_ | refine pops.fl rfl rfl rfl rfl rfl ?_ | refine pops.skip rfl rfl rfl ?_ | refine pops.load rfl rfl rfl rfl rfl (by first | assumption | exact cload_of (by assumption) rfl) ?_ | refine pops.len rfl rfl rfl rfl rfl rfl rfl rfl (by first | exact SlA.len (by assumption) rfl | exact SlI.len (by assumption) rfl | exact SlS.len (by assumption) rfl | exact Sl.len (by assumption) rfl) ?_)
    refine pops.nil ?_
    repeat (first | refine kthenP.n ?_ | refine kthenP.r ?_ | refine kthenP.e ?_ | refine kblockP.n ?_ | refine kblockP.r ?_ | refine kblockP.e ?_ | refine kblockP.o rfl ?_ | refine Runs.seq ?_ | refine Runs.region ?_ | refine Runs.block ?_ | refine Runs.cond ?_ | refine Runs.skip ?_ | refine Runs.loop ?_ | refine Runs.exit ?_ | refine Runs.ret ?_)
    refine pops.fl rfl rfl rfl rfl rfl ?_
    refine pops.fl rfl rfl rfl rfl rfl ?_
    refine pops.buildSlice (cs := [.int .i64 (decS t (st t.left.next l i) (rst t.right.next l (l.length - i))).1]) rfl rfl rfl rfl rfl hwf5 fun b1 h6 hb1 hwf6 g6 hc6 => ?_
    refine pops.append1 rfl rfl rfl rfl rfl rfl rfl rfl rfl rfl rfl rfl rfl rfl rfl rfl rfl hwf6 (hown.gr hwf' (g5.trans g6)) rfl hc6 (by simp; omega) fun v' b2 h7 hwf7 ch hb2 hown7 => ?_
    have g7 : Gr h2 h7 := ((g3.trans g5).trans g6).chg hb' ch
    repeat (first | refine pops.bin rfl rfl rfl rfl rfl rfl (cbin_inc (by omega)) ?_ | refine pops.fl rfl rfl rfl rfl rfl ?_ | refine pops.skip rfl rfl rfl ?_ | refine pops.load rfl rfl rfl rfl rfl (by first | assumption | exact cload_of (by assumption) rfl) ?_ | refine pops.len rfl rfl rfl rfl rfl rfl rfl rfl (by first | exact SlA.len (by assumption) rfl | exact SlI.len (by assumption) rfl | exact SlS.len (by assumption) rfl | exact Sl.len (by assumption) rfl) ?_)
    refine pops.nil ?_
    repeat (first | refine kthenP.n ?_ | refine kthenP.r ?_ | refine kthenP.e ?_ | refine kblockP.n ?_ | refine kblockP.r ?_ | refine kblockP.e ?_ | refine kblockP.o rfl ?_ | refine Runs.seq ?_ | refine Runs.region ?_ | refine Runs.block ?_ | refine Runs.cond ?_ | refine Runs.skip ?_ | refine Runs.loop ?_ | refine Runs.exit ?_ | refine Runs.ret ?_)
    repeat (first | refine pops.bin rfl rfl rfl rfl rfl rfl (cbin_inc (by omega)) ?_ | refine pops.fl rfl rfl rfl rfl rfl ?_ | refine pops.skip rfl rfl rfl ?_ | refine pops.load rfl rfl rfl rfl rfl (by first | assumption | exact cload_of (by assumption) rfl) ?_ | refine pops.len rfl rfl rfl rfl rfl rfl rfl rfl (by first | exact SlA.len (by assumption) rfl | exact SlI.len (by assumption) rfl | exact SlS.len (by assumption) rfl | exact Sl.len (by assumption) rfl) ?_)
    refine pops.nil ?_
    refine .n ⟨_, (i + 1, v'), rfl, ⟨rfl, rfl, rfl, rfl, trivial⟩, (by show l.length + 1 - (i + 1) < l.length + 1 - i; omega), (by show i + 1 ≤ l.length + 1; omega), g7, b2, Nat.le_trans ((g3.trans g5).trans g6).n hb2, ?_⟩
    show Own h7 v' b2 ((List.range (i + 1)).map _)
    rw [List.range_succ, List.map_append]
    exact hown7
  · repeat (first | refine kthenP.n ?_ | refine kthenP.r ?_ | refine kthenP.e ?_ | refine kblockP.n ?_ | refine kblockP.r ?_ | refine kblockP.e ?_ | refine kblockP.o rfl ?_ | refine Runs.seq ?_ | refine Runs.region ?_ | refine Runs.block ?_ | refine Runs.cond ?_ | refine Runs.skip ?_ | refine Runs.loop ?_ | refine Runs.exit ?_ | refine Runs.ret ?_)
    have hi' : i = l.length + 1 := by omega
    subst hi'
    repeat (first | refine pops.bin rfl rfl rfl rfl rfl rfl (cbin_inc (by omega)) ?_ | refine pops.fl rfl rfl rfl rfl rfl ?_ | refine pops.skip rfl rfl rfl ?_ | refine pops.load rfl rfl rfl rfl rfl (by first | assumption | exact cload_of (by assumption) rfl) ?_ | refine pops.len rfl rfl rfl rfl rfl rfl rfl rfl (by first | exact SlA.len (by assumption) rfl | exact SlI.len (by assumption) rfl | exact SlS.len (by assumption) rfl | exact Sl.len (by assumption) rfl) ?_)
    refine pops.nil ?_
    repeat (first | refine kthenP.n ?_ | refine kthenP.r ?_ | refine kthenP.e ?_ | refine kblockP.n ?_ | refine kblockP.r ?_ | refine kblockP.e ?_ | refine kblockP.o rfl ?_ | refine Runs.seq ?_ | refine Runs.region ?_ | refine Runs.block ?_ | refine Runs.cond ?_ | refine Runs.skip ?_ | refine Runs.loop ?_ | refine Runs.exit ?_ | refine Runs.ret ?_)
    refine pleave.r rfl ?_
    refine ⟨⟨vo, rfl, ?_⟩, g02.trans g3⟩
    show Sl _ _ _ _ (List.map _ (List.map _ _))
    rw [List.map_map]
    exact hown.sl rfl rfl rfl (by simp; omega)
theorem fn_lawDecides : tab.fn 4 = some Tryz.f4 := by kernel_rfl
theorem lawDecides_calls {v vl : Value} {t : TabD} {l : List Int} (q : Int) (hv : TabV tab ks h v t) (hl : SlI tab ks.int h vl l) (hlen : TextsLt t.classes) : CalF (X w) 4 [v, vl, .int .i64 q] h fun r h' => r = .ret (.bool true) := by
  refine CalF.wf fun hwf => ?_
  have hV := hv
  obtain ⟨c, a, x, y, x', y', rfl, ho, hcl, hac, hx, hy, hx', hy'⟩ := hv
  clear hcl hac hx hy hx' hy'
  simp only [Bool.and_eq_true] at ho
  refine CalF.intro fn_lawDecides rfl (Nat.le_of_ble_eq_true rfl) ?_
  repeat (first | refine kthenP.n ?_ | refine kthenP.r ?_ | refine kthenP.e ?_ | refine kblockP.n ?_ | refine kblockP.r ?_ | refine kblockP.e ?_ | refine kblockP.o rfl ?_ | refine Runs.seq ?_ | refine Runs.region ?_ | refine Runs.block ?_ | refine Runs.cond ?_ | refine Runs.skip ?_ | refine Runs.loop ?_ | refine Runs.exit ?_ | refine Runs.ret ?_)
  refine pops.box (cs := [c, a, x, y, x', y']) rfl rfl rfl rfl (by simp [ho]) rfl rfl hwf fun b h1 hb hwf1 g1 hc => ?_
  replace hV := hV.gr hwf g1
  replace hl := Sl.gr hl hwf g1
  refine pops.fl rfl rfl rfl rfl rfl ?_
  refine pops.nil ?_
  repeat (first | refine kthenP.n ?_ | refine kthenP.r ?_ | refine kthenP.e ?_ | refine kblockP.n ?_ | refine kblockP.r ?_ | refine kblockP.e ?_ | refine kblockP.o rfl ?_ | refine Runs.seq ?_ | refine Runs.region ?_ | refine Runs.block ?_ | refine Runs.cond ?_ | refine Runs.skip ?_ | refine Runs.loop ?_ | refine Runs.exit ?_ | refine Runs.ret ?_)
  repeat (first | refine pops.bin rfl rfl rfl rfl rfl rfl (cbin_inc (by omega)) ?_ | refine pops.fl rfl rfl rfl rfl rfl ?_ | refine pops.skip rfl rfl rfl ?_ | refine pops.load rfl rfl rfl rfl rfl (by first | assumption | exact cload_of (by assumption) rfl) ?_ | refine pops.len rfl rfl rfl rfl rfl rfl rfl rfl (by first | exact SlA.len (by assumption) rfl | exact SlI.len (by assumption) rfl | exact SlS.len (by assumption) rfl | exact Sl.len (by assumption) rfl) ?_)
  refine pops.callG rfl rfl rfl rfl rfl fn_few rfl rfl rfl (few_calls hV hl) fun h2 hwf2 g2 => ?_
  replace hc := g2.at hwf1 hc
  replace hV := hV.gr hwf1 g2
  replace hl := Sl.gr hl hwf1 g2
  cases hf : fewB t l with
  | false =>
    repeat (first | refine pops.bin rfl rfl rfl rfl rfl rfl (cbin_inc (by omega)) ?_ | refine pops.fl rfl rfl rfl rfl rfl ?_ | refine pops.skip rfl rfl rfl ?_ | refine pops.load rfl rfl rfl rfl rfl (by first | assumption | exact cload_of (by assumption) rfl) ?_ | refine pops.len rfl rfl rfl rfl rfl rfl rfl rfl (by first | exact SlA.len (by assumption) rfl | exact SlI.len (by assumption) rfl | exact SlS.len (by assumption) rfl | exact Sl.len (by assumption) rfl) ?_)
    refine pops.nil ?_
    repeat (first | refine kthenP.n ?_ | refine kthenP.r ?_ | refine kthenP.e ?_ | refine kblockP.n ?_ | refine kblockP.r ?_ | refine kblockP.e ?_ | refine kblockP.o rfl ?_ | refine Runs.seq ?_ | refine Runs.region ?_ | refine Runs.block ?_ | refine Runs.cond ?_ | refine Runs.skip ?_ | refine Runs.loop ?_ | refine Runs.exit ?_ | refine Runs.ret ?_)
    refine pcond.t rfl ?_
    repeat (first | refine kthenP.n ?_ | refine kthenP.r ?_ | refine kthenP.e ?_ | refine kblockP.n ?_ | refine kblockP.r ?_ | refine kblockP.e ?_ | refine kblockP.o rfl ?_ | refine Runs.seq ?_ | refine Runs.region ?_ | refine Runs.block ?_ | refine Runs.cond ?_ | refine Runs.skip ?_ | refine Runs.loop ?_ | refine Runs.exit ?_ | refine Runs.ret ?_)
    refine pops.callG rfl rfl rfl rfl rfl fn_alive rfl rfl rfl alive_calls fun h3 hwf3 g3 => ?_
    repeat (first | refine pops.bin rfl rfl rfl rfl rfl rfl (cbin_inc (by omega)) ?_ | refine pops.fl rfl rfl rfl rfl rfl ?_ | refine pops.skip rfl rfl rfl ?_ | refine pops.load rfl rfl rfl rfl rfl (by first | assumption | exact cload_of (by assumption) rfl) ?_ | refine pops.len rfl rfl rfl rfl rfl rfl rfl rfl (by first | exact SlA.len (by assumption) rfl | exact SlI.len (by assumption) rfl | exact SlS.len (by assumption) rfl | exact Sl.len (by assumption) rfl) ?_)
    refine pops.nil ?_
    repeat (first | refine kthenP.n ?_ | refine kthenP.r ?_ | refine kthenP.e ?_ | refine kblockP.n ?_ | refine kblockP.r ?_ | refine kblockP.e ?_ | refine kblockP.o rfl ?_ | refine Runs.seq ?_ | refine Runs.region ?_ | refine Runs.block ?_ | refine Runs.cond ?_ | refine Runs.skip ?_ | refine Runs.loop ?_ | refine Runs.exit ?_ | refine Runs.ret ?_)
    refine pleave.r rfl ?_
    rfl
  | true =>
  have hll : l.length ≤ 1000 := by
    unfold fewB at hf
    simp at hf
    omega
  repeat (first | refine pops.bin rfl rfl rfl rfl rfl rfl (cbin_inc (by omega)) ?_ | refine pops.fl rfl rfl rfl rfl rfl ?_ | refine pops.skip rfl rfl rfl ?_ | refine pops.load rfl rfl rfl rfl rfl (by first | assumption | exact cload_of (by assumption) rfl) ?_ | refine pops.len rfl rfl rfl rfl rfl rfl rfl rfl (by first | exact SlA.len (by assumption) rfl | exact SlI.len (by assumption) rfl | exact SlS.len (by assumption) rfl | exact Sl.len (by assumption) rfl) ?_)
  refine pops.nil ?_
  repeat (first | refine kthenP.n ?_ | refine kthenP.r ?_ | refine kthenP.e ?_ | refine kblockP.n ?_ | refine kblockP.r ?_ | refine kblockP.e ?_ | refine kblockP.o rfl ?_ | refine Runs.seq ?_ | refine Runs.region ?_ | refine Runs.block ?_ | refine Runs.cond ?_ | refine Runs.skip ?_ | refine Runs.loop ?_ | refine Runs.exit ?_ | refine Runs.ret ?_)
  refine pcond.f rfl ?_
  repeat (first | refine kthenP.n ?_ | refine kthenP.r ?_ | refine kthenP.e ?_ | refine kblockP.n ?_ | refine kblockP.r ?_ | refine kblockP.e ?_ | refine kblockP.o rfl ?_ | refine Runs.seq ?_ | refine Runs.region ?_ | refine Runs.block ?_ | refine Runs.cond ?_ | refine Runs.skip ?_ | refine Runs.loop ?_ | refine Runs.exit ?_ | refine Runs.ret ?_)
  repeat (first | refine pops.bin rfl rfl rfl rfl rfl rfl (cbin_inc (by omega)) ?_ | refine pops.fl rfl rfl rfl rfl rfl ?_ | refine pops.skip rfl rfl rfl ?_ | refine pops.load rfl rfl rfl rfl rfl (by first | assumption | exact cload_of (by assumption) rfl) ?_ | refine pops.len rfl rfl rfl rfl rfl rfl rfl rfl (by first | exact SlA.len (by assumption) rfl | exact SlI.len (by assumption) rfl | exact SlS.len (by assumption) rfl | exact Sl.len (by assumption) rfl) ?_)
  refine pops.callG rfl rfl rfl rfl rfl fn_Decide rfl rfl rfl (Decide_calls q hV hl hlen hll) fun h3 hwf3 g3 => ?_
  replace hc := g3.at hwf2 hc
  replace hV := hV.gr hwf2 g3
  replace hl := Sl.gr hl hwf2 g3
  repeat (first | refine pops.bin rfl rfl rfl rfl rfl rfl (cbin_inc (by omega)) ?_ | refine pops.fl rfl rfl rfl rfl rfl ?_ | refine pops.skip rfl rfl rfl ?_ | refine pops.load rfl rfl rfl rfl rfl (by first | assumption | exact cload_of (by assumption) rfl) ?_ | refine pops.len rfl rfl rfl rfl rfl rfl rfl rfl (by first | exact SlA.len (by assumption) rfl | exact SlI.len (by assumption) rfl | exact SlS.len (by assumption) rfl | exact Sl.len (by assumption) rfl) ?_)
  refine pops.nil ?_
  repeat (first | refine kthenP.n ?_ | refine kthenP.r ?_ | refine kthenP.e ?_ | refine kblockP.n ?_ | refine kblockP.r ?_ | refine kblockP.e ?_ | refine kblockP.o rfl ?_ | refine Runs.seq ?_ | refine Runs.region ?_ | refine Runs.block ?_ | refine Runs.cond ?_ | refine Runs.skip ?_ | refine Runs.loop ?_ | refine Runs.exit ?_ | refine Runs.ret ?_)
  repeat (first | refine pops.bin rfl rfl rfl rfl rfl rfl (cbin_inc (by omega)) ?_ | refine pops.fl rfl rfl rfl rfl rfl ?_ | refine pops.skip rfl rfl rfl ?_ | refine pops.load rfl rfl rfl rfl rfl (by first | assumption | exact cload_of (by assumption) rfl) ?_ | refine pops.len rfl rfl rfl rfl rfl rfl rfl rfl (by first | exact SlA.len (by assumption) rfl | exact SlI.len (by assumption) rfl | exact SlS.len (by assumption) rfl | exact Sl.len (by assumption) rfl) ?_)
  refine pops.callG rfl rfl rfl rfl rfl fn_refDecide rfl rfl rfl (refDecide_calls q hV hl hlen hll) fun h4 hwf4 g4 => ?_
  replace hc := g4.at hwf3 hc
  replace hV := hV.gr hwf3 g4
  replace hl := Sl.gr hl hwf3 g4
  repeat (first | refine pops.bin rfl rfl rfl rfl rfl rfl (cbin_inc (by omega)) ?_ | refine pops.fl rfl rfl rfl rfl rfl ?_ | refine pops.skip rfl rfl rfl ?_ | refine pops.load rfl rfl rfl rfl rfl (by first | assumption | exact cload_of (by assumption) rfl) ?_ | refine pops.len rfl rfl rfl rfl rfl rfl rfl rfl (by first | exact SlA.len (by assumption) rfl | exact SlI.len (by assumption) rfl | exact SlS.len (by assumption) rfl | exact Sl.len (by assumption) rfl) ?_)
  refine pops.nil ?_
  repeat (first | refine kthenP.n ?_ | refine kthenP.r ?_ | refine kthenP.e ?_ | refine kblockP.n ?_ | refine kblockP.r ?_ | refine kblockP.e ?_ | refine kblockP.o rfl ?_ | refine Runs.seq ?_ | refine Runs.region ?_ | refine Runs.block ?_ | refine Runs.cond ?_ | refine Runs.skip ?_ | refine Runs.loop ?_ | refine Runs.exit ?_ | refine Runs.ret ?_)
  refine PG.startA 21 2097151 _ rfl rfl rfl rfl ?_
  refine PG.take (by decide +kernel) rfl rfl rfl rfl ?_
  refine PG.take (by decide +kernel) rfl rfl rfl rfl ?_
  refine PG.take (by decide +kernel) rfl rfl rfl (congrArg (fun b => some (Value.bool b)) (decide_eq_true (rfl : (DecideR t l q).1 = (DecideR t l q).1))) ?_
  refine PG.take (by decide +kernel) rfl rfl rfl rfl ?_
  refine PG.take (by decide +kernel) rfl rfl rfl rfl ?_
  refine PG.take (by decide +kernel) rfl rfl rfl rfl ?_
  refine PG.take (by decide +kernel) rfl rfl rfl (congrArg (fun b => some (Value.bool b)) (decide_eq_true (rfl : (DecideR t l q).2 = (DecideR t l q).2))) ?_
  repeat (first | refine PG.skip (by decide +kernel) ?_ | refine PG.take (by decide +kernel) rfl rfl rfl rfl ?_ | refine PG.load (by decide +kernel) rfl rfl rfl rfl rfl (by first | assumption | exact cload_of (by assumption) rfl) ?_ | refine PG.drop (by decide +kernel) rfl rfl rfl ?_)
  refine PG.nil ?_
  refine pd1.callR 11 rfl (by kernel_rfl) rfl rfl rfl rfl rfl fn_Actions rfl rfl rfl ((Actions_calls hV hl hlen hll).monoW fun r h5 hwf5 hh => ?_)
  obtain ⟨⟨u1, rfl, hu1⟩, g5⟩ := hh
  replace hc := g5.at hwf4 hc
  replace hV := hV.gr hwf4 g5
  replace hl := Sl.gr hl hwf4 g5
  refine ⟨u1, rfl, _, by (repeat (first | exact Reck.nil | (apply Reck.dropI; decide +kernel) | (apply Reck.keep; rfl) | (apply Reck.load; rfl; rfl; first | assumption | exact cload_of (by assumption) rfl) | (apply Reck.same; rfl))), ?_⟩
  repeat (first | refine PG.skip (by decide +kernel) ?_ | refine PG.take (by decide +kernel) rfl rfl rfl rfl ?_ | refine PG.load (by decide +kernel) rfl rfl rfl rfl rfl (by first | assumption | exact cload_of (by assumption) rfl) ?_ | refine PG.drop (by decide +kernel) rfl rfl rfl ?_)
  refine PG.nil ?_
  refine pd1.callR 14 rfl (by kernel_rfl) rfl rfl rfl rfl rfl fn_refActions rfl rfl rfl ((refActions_calls hV hl hlen hll).monoW fun r h6 hwf6 hh => ?_)
  obtain ⟨⟨u2, rfl, hu2⟩, g6⟩ := hh
  replace hc := g6.at hwf5 hc
  refine ⟨u2, rfl, _, by (repeat (first | exact Reck.nil | (apply Reck.dropI; decide +kernel) | (apply Reck.keep; rfl) | (apply Reck.load; rfl; rfl; first | assumption | exact cload_of (by assumption) rfl) | (apply Reck.same; rfl))), ?_⟩
  repeat (first | refine PG.skip (by decide +kernel) ?_ | refine PG.take (by decide +kernel) rfl rfl rfl rfl ?_ | refine PG.load (by decide +kernel) rfl rfl rfl rfl rfl (by first | assumption | exact cload_of (by assumption) rfl) ?_ | refine PG.drop (by decide +kernel) rfl rfl rfl ?_)
  refine PG.nil ?_
  refine pd1.callG 15 rfl (by kernel_rfl) rfl rfl rfl rfl rfl fn_equal rfl rfl rfl (equal_calls (Sl.gr hu1 hwf5 g6) hu2) fun h7 hwf7 g7 => ?_
  rw [decide_eq_true rfl]
  replace hc := g7.at hwf6 hc
  refine ⟨_, by (repeat (first | exact Reck.nil | (apply Reck.dropI; decide +kernel) | (apply Reck.keep; rfl) | (apply Reck.load; rfl; rfl; first | assumption | exact cload_of (by assumption) rfl) | (apply Reck.same; rfl))), ?_⟩
  repeat (first | refine PG.skip (by decide +kernel) ?_ | refine PG.take (by decide +kernel) rfl rfl rfl rfl ?_ | refine PG.load (by decide +kernel) rfl rfl rfl rfl rfl (by first | assumption | exact cload_of (by assumption) rfl) ?_ | refine PG.drop (by decide +kernel) rfl rfl rfl ?_)
  refine PG.nil ?_
  refine pd1.callG 18 rfl (by kernel_rfl) rfl rfl rfl rfl rfl fn_alive rfl rfl rfl alive_calls fun h8 hwf8 g8 => ?_
  replace hc := g8.at hwf7 hc
  refine ⟨_, by (repeat (first | exact Reck.nil | (apply Reck.dropI; decide +kernel) | (apply Reck.keep; rfl) | (apply Reck.load; rfl; rfl; first | assumption | exact cload_of (by assumption) rfl) | (apply Reck.same; rfl))), ?_⟩
  repeat (first | refine PG.skip (by decide +kernel) ?_ | refine PG.take (by decide +kernel) rfl rfl rfl rfl ?_ | refine PG.load (by decide +kernel) rfl rfl rfl rfl rfl (by first | assumption | exact cload_of (by assumption) rfl) ?_ | refine PG.drop (by decide +kernel) rfl rfl rfl ?_)
  refine PG.nil ?_
  refine pd1.finA (by kernel_rfl) (by decide +kernel) ?_
  repeat (first | refine kthenP.n ?_ | refine kthenP.r ?_ | refine kthenP.e ?_ | refine kblockP.n ?_ | refine kblockP.r ?_ | refine kblockP.e ?_ | refine kblockP.o rfl ?_ | refine Runs.seq ?_ | refine Runs.region ?_ | refine Runs.block ?_ | refine Runs.cond ?_ | refine Runs.skip ?_ | refine Runs.loop ?_ | refine Runs.exit ?_ | refine Runs.ret ?_)
  refine pleave.r rfl ?_
  rfl
end Go.Proofs.YtcenphnkcifbhaaGreatDoor

set_option maxRecDepth 100000
set_option linter.unusedVariables false
set_option linter.unusedSimpArgs false
namespace Go.Proofs.YtcenphnkcifbhaaGreatDoor
open Go.Cx
open Go.ChangeShapes Go.WideShapes Go.ChangeAt Go.RowKit
namespace of_BreakautoDecides
theorem own : ownKnob Tryz.prog.godebug = none := by kernel_rfl
theorem kids : Kids Tryz.prog (· < Tryz.prog.types.size) := kids_rows (by kernel_rfl) (by kernel_rfl)
theorem full : ∀ t e, t < Tryz.prog.types.size → Tryz.prog.underlying t = some (.slice e) → 0 < Tryz.prog.cellsOf e := slices_full_of Tryz.prog (by kernel_rfl)
theorem tys : TabTys tab ks 28 26 22 24 :=
  ⟨⟨_, rfl, rfl⟩, ⟨_, rfl, rfl⟩, rfl, rfl, rfl, rfl, rfl, rfl, rfl, rfl⟩
/-- Cells of a list of numbers. -/
def cellsD : DataW Unit → Array Value
  | .agg l => (l.map fun x => match x with
    | .lit (.int k n) => Value.int k n
    | _ => Value.nilFunc).toArray
  | _ => #[]
def layCells (d : DataW Unit) : Obj → Obj
  | .cells _ t frozen => .cells (cellsD d) t frozen
  | o => o
/-- A world in which the listed variables hold what their text lays. -/
noncomputable def laidWorld (os : Os) : World :=
  { World.holding Tryz.prog os ⟨#[], #[], []⟩ with heap := (((World.holding Tryz.prog os ⟨#[], #[], []⟩).heap.modify 0 (layCells Rows.laid_internal_strconv_uint64pow10)).modify 1 (layCells Rows.laid_math_bits_deBruijn32tab)).modify 2 (layCells Rows.laid_math_bits_deBruijn64tab) }
def nilTable : Value := .agg #[.slice none 0 0, .slice none 0 0, .slice none 0 0, .slice none 0 0, .slice none 0 0, .slice none 0 0]
def nilTableD {H : Type} : DataW H := .agg [.nil, .nil, .agg [.nil, .nil], .agg [.nil, .nil]]
theorem typed : ∀ t ∈ Tryz.f4.params.toList, tyOk tab 6 t = true := by
  rw [Tryz.params4]
  intro t ht
  have : t ∈ ([28, 23, 3] : List Nat) := ht
  simp only [List.mem_cons, List.not_mem_nil, or_false] at this
  rcases this with rfl | rfl | rfl
  · exact (show tyOk tab 6 28 = true by kernel_rfl)
  · exact (show tyOk tab 6 23 = true by kernel_rfl)
  · exact (show tyOk tab 6 3 = true by kernel_rfl)
theorem contract (H : Type) (enc : TypeId × Value → H) (W : World) (base : Nat) (args : Array Value) (ds gs : List (DataW H)) (before : List MemPlace)
    (hval : ∀ (j : Nat) t v, Tryz.f4.params[j]? = some t → args[j]? = some v → Value.okWide Tryz.prog W .any base t v)
    (hW : DataW.Whole enc Tryz.prog Tryz.f4.params.toList Rows.breakautoDecidesSpec.vars false W args.toList ds gs before) :
    Calls Tryz.prog 4 args W fun e W' => ∃ v, e = .returned v ∧ Rows.breakautoDecidesSpec.post enc Tryz.prog Tryz.f4 false true false false W args v W' := by
  have hW' := hW
  obtain ⟨p, q, hA, hV, rfl, hfz, hnd⟩ := hW
  have hA1 : DataW.TrodAll enc Tryz.prog W 0 (fun _ => true) true [28, 23, 3] args.toList ds p := by
    have := hA
    rw [Tryz.params4] at this
    exact this
  obtain ⟨v0, vs0, d0, ds0, p0, q0, hargs0, rfl, rfl, h0, r0⟩ := trodAll_cons hA1
  obtain ⟨v1, vs1, d1, ds1, p1, q1, hargs1, rfl, rfl, h1, r1⟩ := trodAll_cons r0
  obtain ⟨v2, vs2, d2, ds2, p2, q2, hargs2, rfl, rfl, h2, r2⟩ := trodAll_cons r1
  obtain ⟨rfl, rfl, rfl⟩ := trodAll_nil r2
  rw [Tryz.params4] at hval
  have hargs : args = #[v0, v1, v2] := by cases args; simp_all
  subst hargs
  refine (law_calls (f := 4) tab_ok typed hA fun h cvs hh => ?_).mono fun e W' ⟨he, hb⟩ => ⟨_, he, post_law hW' rfl rfl rfl Tryz.underlying4 kids full (by rw [Tryz.params4]; decide) hb⟩
  rw [Tryz.params4] at hh
  match cvs, hh with
  | [c0, c1, c2], ⟨⟨e0, n0⟩, ⟨⟨e1, n1⟩, ⟨⟨e2, n2⟩, _⟩⟩⟩ =>
    obtain ⟨t, ht, hlen⟩ := tab_of tys e0
    obtain ⟨l, hl⟩ := ints_arg (t := 23) (el := 3) rfl rfl rfl (n1 (notAgg_slice Tryz.underlying23 (hval 1 _ _ rfl rfl))) e1
    obtain ⟨q, rfl⟩ := int_arg (t := 3) rfl (n2 (notAgg_int Tryz.underlying3 (hval 2 _ _ rfl rfl))) e2
    exact lawDecides_calls q ht hl hlen
theorem laid_met (os : Os) : laidMet Tryz.prog Rows.breakautoDecidesRow.laid ((laidWorld os).forCall (fun _ _ => 0) ⟨#[], #[nilTable, .slice none 0 0, .int .i64 0], []⟩).memory :=
  laidMet_of_run' 8 (by kernel_rfl) (by kernel_rfl)
theorem reads (os : Os) {H : Type} (enc : TypeId × Value → H) : ∃ places, DataW.whole enc Tryz.prog ((laidWorld os).forCall (fun _ _ => 0) ⟨#[], #[nilTable, .slice none 0 0, .int .i64 0], []⟩).memory Tryz.f4.params.toList Rows.breakautoDecidesSpec.vars false (#[nilTable, .slice none 0 0, .int .i64 0] : Array Value).toList 8 = some ([nilTableD, .nil, .lit (.int .i64 0)], [], places) :=
  ⟨[], by kernel_rfl⟩
theorem lifted (os : Os) (started : os.Started) (H : Type) (enc : TypeId × Value → H) (F : Stop.Interp) :
    ReturnsInHanded {} Tryz.checked os 4 .any ((OpenSpec.ofChange Rows.breakautoDecidesSpec).preRow enc Tryz.prog Tryz.f4 Rows.breakautoDecidesRow.domain false Rows.breakautoDecidesRow.laid) (((OpenSpec.ofChange Rows.breakautoDecidesSpec).at F).post enc Tryz.prog Tryz.f4 false true false false) := by
  obtain ⟨places, hx⟩ := reads os enc
  refine returnsInHanded_of_row (C := Tryz.checked) (s := OpenSpec.ofChange Rows.breakautoDecidesSpec) own started (by kernel_rfl) Tryz.func4
    (witness_row_at (enc := enc) (C := Tryz.checked) false (laidWorld os) #[nilTable, .slice none 0 0, .int .i64 0] rfl (by kernel_rfl) (by kernel_rfl) (by kernel_rfl)
      (OpenSpec.preRow_of_cond 8 hx (by kernel_rfl) (fun k hk => by cases hk) (by kernel_rfl) (laid_met os))) ?_
  intro W base args ds gs before hval hW _ _ _ hL _ _
  exact contract H enc W base args ds gs before hval hW
theorem said : Rows.BreakautoDecidesSaid :=
  OpenClaim.holds_of_cond 4 Tryz.f4 rfl rfl rfl rfl rfl rfl rfl ⟨rfl, rfl, rfl, rfl, rfl⟩ rfl rfl rfl rfl rfl (by kernel_rfl) Tryz.func4 (by kernel_rfl)
    (of_decide_eq_true (by kernel_rfl)) (by unfold Func.isWrapper; first | (rw [if_pos (by decide +kernel)]; kernel_rfl) | (rw [if_neg (by decide +kernel)]; exact ⟨rfl, rfl⟩))
    (fun os started H enc _ F => by rw [OpenClaim.pre_eq_preRow]; exact lifted os started H enc F)
theorem plain (f : FuncId) (fn : Func) (hf : Tryz.pinned.checked.prog.funcNamed "unicodetext/unicodetextlaw29.BreakautoDecides" = some f) (hfn : Tryz.pinned.checked.prog.funcs[f]? = some fn) :
    false = Tryz.pinned.checked.prog.looks [] ∧ ∀ (j : Nat) t, fn.params[j]? = some t → Tryz.pinned.checked.prog.wantsStandIn t = false := by
  obtain rfl : f = 4 := Option.some.inj ((show Tryz.prog.funcNamed "unicodetext/unicodetextlaw29.BreakautoDecides" = some 4 by kernel_rfl).symm.trans hf) |>.symm
  obtain rfl : fn = Tryz.f4 := (Option.some.inj (Tryz.func4.symm.trans hfn)).symm
  refine ⟨by kernel_rfl, fun j t ht => ?_⟩
  have hm : t ∈ ([28, 23, 3] : List Nat) := by
    have := Array.mem_of_getElem? ht
    rw [Tryz.params4] at this
    simpa using this
  simp only [List.mem_cons, List.not_mem_nil, or_false] at hm
  rcases hm with rfl | rfl | rfl
  · exact (show Tryz.prog.wantsStandIn 28 = false by kernel_rfl)
  · exact (show Tryz.prog.wantsStandIn 23 = false by kernel_rfl)
  · exact (show Tryz.prog.wantsStandIn 3 = false by kernel_rfl)
end of_BreakautoDecides
/-- THE CARD of 'BreakautoDecides'. -/
theorem breakautoDecides_card : Rows.BreakautoDecidesCardSaid :=
  Claim7.holds_tied_plain_at .later [] _ _ _ _ of_BreakautoDecides.said (fun _ h => by cases h) (by kernel_rfl) (fun _ h => by cases h) breakautoDecides_row_tie rfl ⟨rfl, rfl⟩ (by kernel_rfl) rfl of_BreakautoDecides.plain (by kernel_rfl)
end Go.Proofs.YtcenphnkcifbhaaGreatDoor
