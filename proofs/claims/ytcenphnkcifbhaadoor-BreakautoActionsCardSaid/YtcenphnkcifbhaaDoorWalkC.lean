/- Walks through the functions that the statement reaches, and the statement. Conditions: none. -/
import Derived.Test.YtcenphnkcifbhaaDoorWalkB
import Derived.Test.YtcenphnkcifbhaaDoorCxE
import Derived.Test.YtcenphnkcifbhaaDoorCards
import Derived.Test.YtcenphnkcifbhaaDoorTie
import Derived.WalkKit
import Derived.ProofKit
import Derived.OpenShut
import Derived.Deep.DeepHandedRow
set_option maxRecDepth 100000
set_option linter.unusedVariables false
set_option linter.unusedSimpArgs false
namespace Go.Proofs.YtcenphnkcifbhaaDoor
open Go.Cx
variable {w : World} {h : CH}
theorem fn_index : tab.fn 54 = some Tryd.f54 := by kernel_rfl
theorem index_calls {v : Value} {l : List Int} (q : Int) (hv : SlI tab ks.int h v l) :
    CalF (X w) 54 [v, .int .i64 q] h fun r h' => (∃ i : Nat, r = .ret (.int .i64 (i : Int)) ∧ q ∈ l ∨ r = .ret (.int .i64 (-1)) ∧ q ∉ l) ∧ Gr h h' := by
  refine CalF.wf fun hwf => ?_
  have hlt := hv.lt
  refine CalF.intro fn_index rfl (Nat.le_of_ble_eq_true rfl) ?_
  repeat (first | refine kthenP.n ?_ | refine kthenP.r ?_ | refine kthenP.e ?_ | refine kblockP.n ?_ | refine kblockP.r ?_ | refine kblockP.e ?_ | refine kblockP.o rfl ?_ | refine Runs.seq ?_ | refine Runs.region ?_ | refine Runs.block ?_ | refine Runs.cond ?_ | refine Runs.skip ?_ | refine Runs.loop ?_ | refine Runs.exit ?_ | refine Runs.ret ?_)
  repeat (first | refine pops.bin rfl rfl rfl rfl rfl rfl (cbin_inc (by omega)) ?_ | refine pops.fl rfl rfl rfl rfl rfl ?_ | refine pops.skip rfl rfl rfl ?_ | refine pops.load rfl rfl rfl rfl rfl (by first | assumption | exact cload_of (by assumption) rfl) ?_ | refine pops.len rfl rfl rfl rfl rfl rfl rfl rfl (by first | exact SlA.len (by assumption) rfl | exact SlI.len (by assumption) rfl | exact SlS.len (by assumption) rfl | exact Sl.len (by assumption) rfl) ?_)
  refine pops.nil ?_
  repeat (first | refine kthenP.n ?_ | refine kthenP.r ?_ | refine kthenP.e ?_ | refine kblockP.n ?_ | refine kblockP.r ?_ | refine kblockP.e ?_ | refine kblockP.o rfl ?_ | refine Runs.seq ?_ | refine Runs.region ?_ | refine Runs.block ?_ | refine Runs.cond ?_ | refine Runs.skip ?_ | refine Runs.loop ?_ | refine Runs.exit ?_ | refine Runs.ret ?_)
  repeat (first | refine pops.bin rfl rfl rfl rfl rfl rfl (cbin_inc (by omega)) ?_ | refine pops.fl rfl rfl rfl rfl rfl ?_ | refine pops.skip rfl rfl rfl ?_ | refine pops.load rfl rfl rfl rfl rfl (by first | assumption | exact cload_of (by assumption) rfl) ?_ | refine pops.len rfl rfl rfl rfl rfl rfl rfl rfl (by first | exact SlA.len (by assumption) rfl | exact SlI.len (by assumption) rfl | exact SlS.len (by assumption) rfl | exact Sl.len (by assumption) rfl) ?_)
  refine pops.nil ?_
  repeat (first | refine kthenP.n ?_ | refine kthenP.r ?_ | refine kthenP.e ?_ | refine kblockP.n ?_ | refine kblockP.r ?_ | refine kblockP.e ?_ | refine kblockP.o rfl ?_ | refine Runs.seq ?_ | refine Runs.region ?_ | refine Runs.block ?_ | refine Runs.cond ?_ | refine Runs.skip ?_ | refine Runs.loop ?_ | refine Runs.exit ?_ | refine Runs.ret ?_)
  refine Loops.ind 5 (fun i : Nat => [(0, v), (1, .int .i64 q), (4, .int .i64 0), (7, .int .i64 (l.length : Nat)), (8, .int .i64 (i : Nat))]) (fun i h' => i ≤ l.length ∧ h' = h ∧ ∀ (j : Nat) x, j < i → l[j]? = some x → x ≠ q) (fun i => l.length - i) 0 (by decide) ⟨rfl, rfl, rfl, rfl, rfl, trivial⟩ ⟨Nat.zero_le _, rfl, all_none⟩ ?_
  rintro i z h' hwf' ⟨hi, rfl, hall⟩
  repeat (first | refine kthenP.n ?_ | refine kthenP.r ?_ | refine kthenP.e ?_ | refine kblockP.n ?_ | refine kblockP.r ?_ | refine kblockP.e ?_ | refine kblockP.o rfl ?_ | refine Runs.seq ?_ | refine Runs.region ?_ | refine Runs.block ?_ | refine Runs.cond ?_ | refine Runs.skip ?_ | refine Runs.loop ?_ | refine Runs.exit ?_ | refine Runs.ret ?_)
  refine pops.fl rfl rfl rfl rfl rfl ?_
  refine pops.nil ?_
  repeat (first | refine kthenP.n ?_ | refine kthenP.r ?_ | refine kthenP.e ?_ | refine kblockP.n ?_ | refine kblockP.r ?_ | refine kblockP.e ?_ | refine kblockP.o rfl ?_ | refine Runs.seq ?_ | refine Runs.region ?_ | refine Runs.block ?_ | refine Runs.cond ?_ | refine Runs.skip ?_ | refine Runs.loop ?_ | refine Runs.exit ?_ | refine Runs.ret ?_)
  refine pcond.d (p := (i : Int) < (l.length : Nat)) rfl (fun hlt' => ?_) (fun hge => ?_)
  · have hlt' : i < l.length := by omega
    obtain ⟨x, hx⟩ : ∃ x, l[i]? = some x := ⟨_, List.getElem?_eq_getElem hlt'⟩
    repeat (first | refine kthenP.n ?_ | refine kthenP.r ?_ | refine kthenP.e ?_ | refine kblockP.n ?_ | refine kblockP.r ?_ | refine kblockP.e ?_ | refine kblockP.o rfl ?_ | refine Runs.seq ?_ | refine Runs.region ?_ | refine Runs.block ?_ | refine Runs.cond ?_ | refine Runs.skip ?_ | refine Runs.loop ?_ | refine Runs.exit ?_ | refine Runs.ret ?_)
    repeat (first | refine pops.bin rfl rfl rfl rfl rfl rfl (cbin_inc (by omega)) ?_ | refine pops.fl rfl rfl rfl rfl rfl ?_ | refine pops.skip rfl rfl rfl ?_ | refine pops.load rfl rfl rfl rfl rfl (by first | assumption | exact cload_of (by assumption) rfl) ?_ | refine pops.len rfl rfl rfl rfl rfl rfl rfl rfl (by first | exact SlA.len (by assumption) rfl | exact SlI.len (by assumption) rfl | exact SlS.len (by assumption) rfl | exact Sl.len (by assumption) rfl) ?_)
    refine pops.nil ?_
    repeat (first | refine kthenP.n ?_ | refine kthenP.r ?_ | refine kthenP.e ?_ | refine kblockP.n ?_ | refine kblockP.r ?_ | refine kblockP.e ?_ | refine kblockP.o rfl ?_ | refine Runs.seq ?_ | refine Runs.region ?_ | refine Runs.block ?_ | refine Runs.cond ?_ | refine Runs.skip ?_ | refine Runs.loop ?_ | refine Runs.exit ?_ | refine Runs.ret ?_)
    repeat (first | refine pops.bin rfl rfl rfl rfl rfl rfl (cbin_inc (by omega)) ?_ | refine pops.fl rfl rfl rfl rfl rfl ?_ | refine pops.skip rfl rfl rfl ?_ | refine pops.load rfl rfl rfl rfl rfl (by first | assumption | exact cload_of (by assumption) rfl) ?_ | refine pops.len rfl rfl rfl rfl rfl rfl rfl rfl (by first | exact SlA.len (by assumption) rfl | exact SlI.len (by assumption) rfl | exact SlS.len (by assumption) rfl | exact Sl.len (by assumption) rfl) ?_)
    refine pops.atI (f := Value.int .i64) rfl rfl rfl rfl rfl rfl rfl hv hx fun p hp => ?_
    refine pops.load rfl rfl rfl rfl rfl (by first | assumption | exact cload_of (by assumption) rfl) ?_
    refine pops.cmp rfl rfl rfl rfl rfl (fun e => ?_) (fun e => ?_)
    · refine pops.nil ?_
      repeat (first | refine kthenP.n ?_ | refine kthenP.r ?_ | refine kthenP.e ?_ | refine kblockP.n ?_ | refine kblockP.r ?_ | refine kblockP.e ?_ | refine kblockP.o rfl ?_ | refine Runs.seq ?_ | refine Runs.region ?_ | refine Runs.block ?_ | refine Runs.cond ?_ | refine Runs.skip ?_ | refine Runs.loop ?_ | refine Runs.exit ?_ | refine Runs.ret ?_)
      refine pcond.t rfl ?_
      repeat (first | refine kthenP.n ?_ | refine kthenP.r ?_ | refine kthenP.e ?_ | refine kblockP.n ?_ | refine kblockP.r ?_ | refine kblockP.e ?_ | refine kblockP.o rfl ?_ | refine Runs.seq ?_ | refine Runs.region ?_ | refine Runs.block ?_ | refine Runs.cond ?_ | refine Runs.skip ?_ | refine Runs.loop ?_ | refine Runs.exit ?_ | refine Runs.ret ?_)
      repeat (first | refine pops.bin rfl rfl rfl rfl rfl rfl (cbin_inc (by omega)) ?_ | refine pops.fl rfl rfl rfl rfl rfl ?_ | refine pops.skip rfl rfl rfl ?_ | refine pops.load rfl rfl rfl rfl rfl (by first | assumption | exact cload_of (by assumption) rfl) ?_ | refine pops.len rfl rfl rfl rfl rfl rfl rfl rfl (by first | exact SlA.len (by assumption) rfl | exact SlI.len (by assumption) rfl | exact SlS.len (by assumption) rfl | exact Sl.len (by assumption) rfl) ?_)
      refine pops.nil ?_
      repeat (first | refine kthenP.n ?_ | refine kthenP.r ?_ | refine kthenP.e ?_ | refine kblockP.n ?_ | refine kblockP.r ?_ | refine kblockP.e ?_ | refine kblockP.o rfl ?_ | refine Runs.seq ?_ | refine Runs.region ?_ | refine Runs.block ?_ | refine Runs.cond ?_ | refine Runs.skip ?_ | refine Runs.loop ?_ | refine Runs.exit ?_ | refine Runs.ret ?_)
      refine pleave.r rfl ?_
      refine ⟨⟨i, .inl ⟨rfl, ?_⟩⟩, Gr.refl _⟩
      have : q = x := by simpa using e
      rw [this]
      exact List.mem_of_getElem? hx
    · refine pops.nil ?_
      repeat (first | refine kthenP.n ?_ | refine kthenP.r ?_ | refine kthenP.e ?_ | refine kblockP.n ?_ | refine kblockP.r ?_ | refine kblockP.e ?_ | refine kblockP.o rfl ?_ | refine Runs.seq ?_ | refine Runs.region ?_ | refine Runs.block ?_ | refine Runs.cond ?_ | refine Runs.skip ?_ | refine Runs.loop ?_ | refine Runs.exit ?_ | refine Runs.ret ?_)
      refine pcond.f rfl ?_
      repeat (first | refine kthenP.n ?_ | refine kthenP.r ?_ | refine kthenP.e ?_ | refine kblockP.n ?_ | refine kblockP.r ?_ | refine kblockP.e ?_ | refine kblockP.o rfl ?_ | refine Runs.seq ?_ | refine Runs.region ?_ | refine Runs.block ?_ | refine Runs.cond ?_ | refine Runs.skip ?_ | refine Runs.loop ?_ | refine Runs.exit ?_ | refine Runs.ret ?_)
      repeat (first | refine pops.bin rfl rfl rfl rfl rfl rfl (cbin_inc (by omega)) ?_ | refine pops.fl rfl rfl rfl rfl rfl ?_ | refine pops.skip rfl rfl rfl ?_ | refine pops.load rfl rfl rfl rfl rfl (by first | assumption | exact cload_of (by assumption) rfl) ?_ | refine pops.len rfl rfl rfl rfl rfl rfl rfl rfl (by first | exact SlA.len (by assumption) rfl | exact SlI.len (by assumption) rfl | exact SlS.len (by assumption) rfl | exact Sl.len (by assumption) rfl) ?_)
      refine pops.nil ?_
      refine .n ⟨_, i + 1, rfl, ⟨rfl, rfl, rfl, rfl, rfl, trivial⟩, (by show l.length - (i + 1) < l.length - i; omega), by omega, rfl, all_next hall hx (fun hh => by subst hh; simp at e)⟩
  · repeat (first | refine kthenP.n ?_ | refine kthenP.r ?_ | refine kthenP.e ?_ | refine kblockP.n ?_ | refine kblockP.r ?_ | refine kblockP.e ?_ | refine kblockP.o rfl ?_ | refine Runs.seq ?_ | refine Runs.region ?_ | refine Runs.block ?_ | refine Runs.cond ?_ | refine Runs.skip ?_ | refine Runs.loop ?_ | refine Runs.exit ?_ | refine Runs.ret ?_)
    repeat (first | refine pops.bin rfl rfl rfl rfl rfl rfl (cbin_inc (by omega)) ?_ | refine pops.fl rfl rfl rfl rfl rfl ?_ | refine pops.skip rfl rfl rfl ?_ | refine pops.load rfl rfl rfl rfl rfl (by first | assumption | exact cload_of (by assumption) rfl) ?_ | refine pops.len rfl rfl rfl rfl rfl rfl rfl rfl (by first | exact SlA.len (by assumption) rfl | exact SlI.len (by assumption) rfl | exact SlS.len (by assumption) rfl | exact Sl.len (by assumption) rfl) ?_)
    refine pops.nil ?_
    repeat (first | refine kthenP.n ?_ | refine kthenP.r ?_ | refine kthenP.e ?_ | refine kblockP.n ?_ | refine kblockP.r ?_ | refine kblockP.e ?_ | refine kblockP.o rfl ?_ | refine Runs.seq ?_ | refine Runs.region ?_ | refine Runs.block ?_ | refine Runs.cond ?_ | refine Runs.skip ?_ | refine Runs.loop ?_ | refine Runs.exit ?_ | refine Runs.ret ?_)
    refine pleave.r rfl ?_
    exact ⟨⟨0, .inr ⟨rfl, fun hm => all_end hall (by omega) q hm rfl⟩⟩, Gr.refl _⟩
theorem fn_contains : tab.fn 43 = some Tryd.f43 := by kernel_rfl
theorem contains_calls {v : Value} {l : List Int} (q : Int) (hv : SlI tab ks.int h v l) : CalF (X w) 43 [v, .int .i64 q] h fun r h' => r = .ret (.bool (decide (q ∈ l))) ∧ Gr h h' := by
  refine CalF.intro fn_contains rfl (Nat.le_of_ble_eq_true rfl) ?_
  repeat (first | refine kthenP.n ?_ | refine kthenP.r ?_ | refine kthenP.e ?_ | refine kblockP.n ?_ | refine kblockP.r ?_ | refine kblockP.e ?_ | refine kblockP.o rfl ?_ | refine Runs.seq ?_ | refine Runs.region ?_ | refine Runs.block ?_ | refine Runs.cond ?_ | refine Runs.skip ?_ | refine Runs.loop ?_ | refine Runs.exit ?_ | refine Runs.ret ?_)
  repeat (first | refine pops.bin rfl rfl rfl rfl rfl rfl (cbin_inc (by omega)) ?_ | refine pops.fl rfl rfl rfl rfl rfl ?_ | refine pops.skip rfl rfl rfl ?_ | refine pops.load rfl rfl rfl rfl rfl (by first | assumption | exact cload_of (by assumption) rfl) ?_ | refine pops.len rfl rfl rfl rfl rfl rfl rfl rfl (by first | exact SlA.len (by assumption) rfl | exact SlI.len (by assumption) rfl | exact SlS.len (by assumption) rfl | exact Sl.len (by assumption) rfl) ?_)
  refine pops.nil ?_
  repeat (first | refine kthenP.n ?_ | refine kthenP.r ?_ | refine kthenP.e ?_ | refine kblockP.n ?_ | refine kblockP.r ?_ | refine kblockP.e ?_ | refine kblockP.o rfl ?_ | refine Runs.seq ?_ | refine Runs.region ?_ | refine Runs.block ?_ | refine Runs.cond ?_ | refine Runs.skip ?_ | refine Runs.loop ?_ | refine Runs.exit ?_ | refine Runs.ret ?_)
  repeat (first | refine pops.bin rfl rfl rfl rfl rfl rfl (cbin_inc (by omega)) ?_ | refine pops.fl rfl rfl rfl rfl rfl ?_ | refine pops.skip rfl rfl rfl ?_ | refine pops.load rfl rfl rfl rfl rfl (by first | assumption | exact cload_of (by assumption) rfl) ?_ | refine pops.len rfl rfl rfl rfl rfl rfl rfl rfl (by first | exact SlA.len (by assumption) rfl | exact SlI.len (by assumption) rfl | exact SlS.len (by assumption) rfl | exact Sl.len (by assumption) rfl) ?_)
  refine pops.callV rfl rfl rfl rfl rfl fn_index rfl rfl ((index_calls q hv).mono fun r h2 hh => ?_)
  obtain ⟨⟨i, ⟨rfl, hr⟩ | ⟨rfl, hr⟩⟩, g⟩ := hh
  · refine ⟨_, rfl, ?_⟩
    repeat (first | refine pops.bin rfl rfl rfl rfl rfl rfl (cbin_inc (by omega)) ?_ | refine pops.fl rfl rfl rfl rfl rfl ?_ | refine pops.skip rfl rfl rfl ?_ | refine pops.load rfl rfl rfl rfl rfl (by first | assumption | exact cload_of (by assumption) rfl) ?_ | refine pops.len rfl rfl rfl rfl rfl rfl rfl rfl (by first | exact SlA.len (by assumption) rfl | exact SlI.len (by assumption) rfl | exact SlS.len (by assumption) rfl | exact Sl.len (by assumption) rfl) ?_)
    refine pops.nil ?_
    repeat (first | refine kthenP.n ?_ | refine kthenP.r ?_ | refine kthenP.e ?_ | refine kblockP.n ?_ | refine kblockP.r ?_ | refine kblockP.e ?_ | refine kblockP.o rfl ?_ | refine Runs.seq ?_ | refine Runs.region ?_ | refine Runs.block ?_ | refine Runs.cond ?_ | refine Runs.skip ?_ | refine Runs.loop ?_ | refine Runs.exit ?_ | refine Runs.ret ?_)
    refine pleave.r rfl ?_
    rw [decide_eq_true hr]
    exact ⟨by simp, g⟩
  · refine ⟨_, rfl, ?_⟩
    repeat (first | refine pops.bin rfl rfl rfl rfl rfl rfl (cbin_inc (by omega)) ?_ | refine pops.fl rfl rfl rfl rfl rfl ?_ | refine pops.skip rfl rfl rfl ?_ | refine pops.load rfl rfl rfl rfl rfl (by first | assumption | exact cload_of (by assumption) rfl) ?_ | refine pops.len rfl rfl rfl rfl rfl rfl rfl rfl (by first | exact SlA.len (by assumption) rfl | exact SlI.len (by assumption) rfl | exact SlS.len (by assumption) rfl | exact Sl.len (by assumption) rfl) ?_)
    refine pops.nil ?_
    repeat (first | refine kthenP.n ?_ | refine kthenP.r ?_ | refine kthenP.e ?_ | refine kblockP.n ?_ | refine kblockP.r ?_ | refine kblockP.e ?_ | refine kblockP.o rfl ?_ | refine Runs.seq ?_ | refine Runs.region ?_ | refine Runs.block ?_ | refine Runs.cond ?_ | refine Runs.skip ?_ | refine Runs.loop ?_ | refine Runs.exit ?_ | refine Runs.ret ?_)
    refine pleave.r rfl ?_
    rw [decide_eq_false hr]
    exact ⟨by simp, g⟩
theorem fn_decided : tab.fn 28 = some Tryd.f28 := by kernel_rfl
theorem decided_calls {v : Value} {t : TabD} {s u : Nat} (hv : TabV tab ks h v t) (hP : ValidP t) (hs : s < t.left.next.length) (hu : u < t.right.next.length) :
    CalF (X w) 28 [v, .int .i64 (s : Int), .int .i64 (u : Int)] h fun r h' => r = .ret (.tuple #[.int .i64 (decS t s u).1, .int .i64 (decS t s u).2]) ∧ Gr h h' := by
  refine CalF.wf fun hwf => ?_
  obtain ⟨c, a, x, y, x', y', rfl, ho, hcl, hac, hx, hy, hx', hy'⟩ := hv
  simp only [Bool.and_eq_true] at ho
  obtain ⟨m, hm1, hm2, hm3⟩ := mark_ok hP.2.2.2.1 hs
  obtain ⟨rm, hr1, hr2, hr3⟩ := mark_ok hP.2.2.2.2 hu
  refine CalF.intro fn_decided rfl (Nat.le_of_ble_eq_true rfl) ?_
  repeat (first | refine kthenP.n ?_ | refine kthenP.r ?_ | refine kthenP.e ?_ | refine kblockP.n ?_ | refine kblockP.r ?_ | refine kblockP.e ?_ | refine kblockP.o rfl ?_ | refine Runs.seq ?_ | refine Runs.region ?_ | refine Runs.block ?_ | refine Runs.cond ?_ | refine Runs.skip ?_ | refine Runs.loop ?_ | refine Runs.exit ?_ | refine Runs.ret ?_)
  refine pops.box (cs := [c, a, x, y, x', y']) rfl rfl rfl rfl (by simp [ho]) rfl rfl hwf fun b h1 hb hwf1 g1 hc => ?_
  replace hy := hy.gr hwf g1
  replace hy' := hy'.gr hwf g1
  replace hac := Sl.gr hac hwf g1
  repeat (first | refine pops.bin rfl rfl rfl rfl rfl rfl (cbin_inc (by omega)) ?_ | refine pops.fl rfl rfl rfl rfl rfl ?_ | refine pops.skip rfl rfl rfl ?_ | refine pops.load rfl rfl rfl rfl rfl (by first | assumption | exact cload_of (by assumption) rfl) ?_ | refine pops.len rfl rfl rfl rfl rfl rfl rfl rfl (by first | exact SlA.len (by assumption) rfl | exact SlI.len (by assumption) rfl | exact SlS.len (by assumption) rfl | exact Sl.len (by assumption) rfl) ?_)
  refine pops.nil ?_
  repeat (first | refine kthenP.n ?_ | refine kthenP.r ?_ | refine kthenP.e ?_ | refine kblockP.n ?_ | refine kblockP.r ?_ | refine kblockP.e ?_ | refine kblockP.o rfl ?_ | refine Runs.seq ?_ | refine Runs.region ?_ | refine Runs.block ?_ | refine Runs.cond ?_ | refine Runs.skip ?_ | refine Runs.loop ?_ | refine Runs.exit ?_ | refine Runs.ret ?_)
  repeat (first | refine pops.bin rfl rfl rfl rfl rfl rfl (cbin_inc (by omega)) ?_ | refine pops.fl rfl rfl rfl rfl rfl ?_ | refine pops.skip rfl rfl rfl ?_ | refine pops.load rfl rfl rfl rfl rfl (by first | assumption | exact cload_of (by assumption) rfl) ?_ | refine pops.len rfl rfl rfl rfl rfl rfl rfl rfl (by first | exact SlA.len (by assumption) rfl | exact SlI.len (by assumption) rfl | exact SlS.len (by assumption) rfl | exact Sl.len (by assumption) rfl) ?_)
  refine pops.atA rfl rfl rfl rfl rfl rfl rfl hy hm1 fun p um hp hum => ?_
  have lm := hum.lt
  repeat (first | refine pops.bin rfl rfl rfl rfl rfl rfl (cbin_inc (by omega)) ?_ | refine pops.fl rfl rfl rfl rfl rfl ?_ | refine pops.skip rfl rfl rfl ?_ | refine pops.load rfl rfl rfl rfl rfl (by first | assumption | exact cload_of (by assumption) rfl) ?_ | refine pops.len rfl rfl rfl rfl rfl rfl rfl rfl (by first | exact SlA.len (by assumption) rfl | exact SlI.len (by assumption) rfl | exact SlS.len (by assumption) rfl | exact Sl.len (by assumption) rfl) ?_)
  refine pops.nil ?_
  repeat (first | refine kthenP.n ?_ | refine kthenP.r ?_ | refine kthenP.e ?_ | refine kblockP.n ?_ | refine kblockP.r ?_ | refine kblockP.e ?_ | refine kblockP.o rfl ?_ | refine Runs.seq ?_ | refine Runs.region ?_ | refine Runs.block ?_ | refine Runs.cond ?_ | refine Runs.skip ?_ | refine Runs.loop ?_ | refine Runs.exit ?_ | refine Runs.ret ?_)
  refine Loops.ind 6 (fun i : Nat => [(2, .int .i64 (u : Int)), (3, .pointer (some ⟨b, 0, none⟩)), (15, um), (16, .int .i64 (m.length : Nat)), (17, .int .i64 (i : Nat))]) (fun i h' => i ≤ m.length ∧ Gr h1 h' ∧ ∀ (j : Nat) z, j < i → m[j]? = some z → decide (z ∈ rm) = false) (fun i => m.length - i) 0 (by decide) ⟨rfl, rfl, rfl, rfl, rfl, trivial⟩ ⟨Nat.zero_le _, Gr.refl _, all_none⟩ ?_
  clear hp
  rintro i z h' hwf' ⟨hi, g2, hall⟩
  replace hy' := hy'.gr hwf1 g2
  replace hac := Sl.gr hac hwf1 g2
  replace hum := Sl.gr hum hwf1 g2
  replace hc := g2.at hwf1 hc
  repeat (first | refine kthenP.n ?_ | refine kthenP.r ?_ | refine kthenP.e ?_ | refine kblockP.n ?_ | refine kblockP.r ?_ | refine kblockP.e ?_ | refine kblockP.o rfl ?_ | refine Runs.seq ?_ | refine Runs.region ?_ | refine Runs.block ?_ | refine Runs.cond ?_ | refine Runs.skip ?_ | refine Runs.loop ?_ | refine Runs.exit ?_ | refine Runs.ret ?_)
  repeat (first | refine pops.bin rfl rfl rfl rfl rfl rfl (cbin_inc (by omega)) ?_ | refine pops.fl rfl rfl rfl rfl rfl ?_ | refine pops.skip rfl rfl rfl ?_ | refine pops.load rfl rfl rfl rfl rfl (by first | assumption | exact cload_of (by assumption) rfl) ?_ | refine pops.len rfl rfl rfl rfl rfl rfl rfl rfl (by first | exact SlA.len (by assumption) rfl | exact SlI.len (by assumption) rfl | exact SlS.len (by assumption) rfl | exact Sl.len (by assumption) rfl) ?_)
  refine pops.nil ?_
  repeat (first | refine kthenP.n ?_ | refine kthenP.r ?_ | refine kthenP.e ?_ | refine kblockP.n ?_ | refine kblockP.r ?_ | refine kblockP.e ?_ | refine kblockP.o rfl ?_ | refine Runs.seq ?_ | refine Runs.region ?_ | refine Runs.block ?_ | refine Runs.cond ?_ | refine Runs.skip ?_ | refine Runs.loop ?_ | refine Runs.exit ?_ | refine Runs.ret ?_)
  refine pcond.d (p := (i : Int) < (m.length : Nat)) rfl (fun hlt => ?_) (fun hge => ?_)
  · obtain ⟨q, hq⟩ : ∃ q, m[i]? = some q := ⟨_, List.getElem?_eq_getElem (by omega)⟩
    obtain ⟨hq0, hq1⟩ := hm3 q (List.mem_of_getElem? hq)
    repeat (first | refine kthenP.n ?_ | refine kthenP.r ?_ | refine kthenP.e ?_ | refine kblockP.n ?_ | refine kblockP.r ?_ | refine kblockP.e ?_ | refine kblockP.o rfl ?_ | refine Runs.seq ?_ | refine Runs.region ?_ | refine Runs.block ?_ | refine Runs.cond ?_ | refine Runs.skip ?_ | refine Runs.loop ?_ | refine Runs.exit ?_ | refine Runs.ret ?_)
    refine pops.atI (f := Value.int .i64) rfl rfl rfl rfl rfl rfl rfl hum hq fun p hp => ?_
    repeat (first | refine pops.bin rfl rfl rfl rfl rfl rfl (cbin_inc (by omega)) ?_ | refine pops.fl rfl rfl rfl rfl rfl ?_ | refine pops.skip rfl rfl rfl ?_ | refine pops.load rfl rfl rfl rfl rfl (by first | assumption | exact cload_of (by assumption) rfl) ?_ | refine pops.len rfl rfl rfl rfl rfl rfl rfl rfl (by first | exact SlA.len (by assumption) rfl | exact SlI.len (by assumption) rfl | exact SlS.len (by assumption) rfl | exact Sl.len (by assumption) rfl) ?_)
    refine pops.nil ?_
    repeat (first | refine kthenP.n ?_ | refine kthenP.r ?_ | refine kthenP.e ?_ | refine kblockP.n ?_ | refine kblockP.r ?_ | refine kblockP.e ?_ | refine kblockP.o rfl ?_ | refine Runs.seq ?_ | refine Runs.region ?_ | refine Runs.block ?_ | refine Runs.cond ?_ | refine Runs.skip ?_ | refine Runs.loop ?_ | refine Runs.exit ?_ | refine Runs.ret ?_)
    repeat (first | refine pops.bin rfl rfl rfl rfl rfl rfl (cbin_inc (by omega)) ?_ | refine pops.fl rfl rfl rfl rfl rfl ?_ | refine pops.skip rfl rfl rfl ?_ | refine pops.load rfl rfl rfl rfl rfl (by first | assumption | exact cload_of (by assumption) rfl) ?_ | refine pops.len rfl rfl rfl rfl rfl rfl rfl rfl (by first | exact SlA.len (by assumption) rfl | exact SlI.len (by assumption) rfl | exact SlS.len (by assumption) rfl | exact Sl.len (by assumption) rfl) ?_)
    refine pops.atA rfl rfl rfl rfl rfl rfl rfl hy' hr1 fun p2 ur hp2 hur => ?_
    refine pops.load rfl rfl rfl rfl rfl (by first | assumption | exact cload_of (by assumption) rfl) ?_
    refine pops.fl rfl rfl rfl rfl rfl ?_
    refine pops.callG rfl rfl rfl rfl rfl fn_contains rfl rfl rfl (contains_calls q hur) fun h3 hwf3 g3 => ?_
    replace hc := g3.at hwf' hc
    replace hac := Sl.gr hac hwf' g3
    cases hd : decide (q ∈ rm) with
    | true =>
      obtain ⟨k, rfl⟩ : ∃ k : Nat, q = k := Int.eq_ofNat_of_zero_le hq0
      have hact := act_ok hq0 hq1
      refine pops.nil ?_
      repeat (first | refine kthenP.n ?_ | refine kthenP.r ?_ | refine kthenP.e ?_ | refine kblockP.n ?_ | refine kblockP.r ?_ | refine kblockP.e ?_ | refine kblockP.o rfl ?_ | refine Runs.seq ?_ | refine Runs.region ?_ | refine Runs.block ?_ | refine Runs.cond ?_ | refine Runs.skip ?_ | refine Runs.loop ?_ | refine Runs.exit ?_ | refine Runs.ret ?_)
      refine pcond.t rfl ?_
      repeat (first | refine kthenP.n ?_ | refine kthenP.r ?_ | refine kthenP.e ?_ | refine kblockP.n ?_ | refine kblockP.r ?_ | refine kblockP.e ?_ | refine kblockP.o rfl ?_ | refine Runs.seq ?_ | refine Runs.region ?_ | refine Runs.block ?_ | refine Runs.cond ?_ | refine Runs.skip ?_ | refine Runs.loop ?_ | refine Runs.exit ?_ | refine Runs.ret ?_)
      repeat (first | refine pops.bin rfl rfl rfl rfl rfl rfl (cbin_inc (by omega)) ?_ | refine pops.fl rfl rfl rfl rfl rfl ?_ | refine pops.skip rfl rfl rfl ?_ | refine pops.load rfl rfl rfl rfl rfl (by first | assumption | exact cload_of (by assumption) rfl) ?_ | refine pops.len rfl rfl rfl rfl rfl rfl rfl rfl (by first | exact SlA.len (by assumption) rfl | exact SlI.len (by assumption) rfl | exact SlS.len (by assumption) rfl | exact Sl.len (by assumption) rfl) ?_)
      refine pops.atI (i := k) (f := Value.int .i64) rfl rfl rfl rfl rfl rfl rfl hac hact fun p3 hp3 => ?_
      repeat (first | refine pops.bin rfl rfl rfl rfl rfl rfl (cbin_inc (by omega)) ?_ | refine pops.fl rfl rfl rfl rfl rfl ?_ | refine pops.skip rfl rfl rfl ?_ | refine pops.load rfl rfl rfl rfl rfl (by first | assumption | exact cload_of (by assumption) rfl) ?_ | refine pops.len rfl rfl rfl rfl rfl rfl rfl rfl (by first | exact SlA.len (by assumption) rfl | exact SlI.len (by assumption) rfl | exact SlS.len (by assumption) rfl | exact Sl.len (by assumption) rfl) ?_)
      refine pops.nil ?_
      repeat (first | refine kthenP.n ?_ | refine kthenP.r ?_ | refine kthenP.e ?_ | refine kblockP.n ?_ | refine kblockP.r ?_ | refine kblockP.e ?_ | refine kblockP.o rfl ?_ | refine Runs.seq ?_ | refine Runs.region ?_ | refine Runs.block ?_ | refine Runs.cond ?_ | refine Runs.skip ?_ | refine Runs.loop ?_ | refine Runs.exit ?_ | refine Runs.ret ?_)
      refine pleave.r rfl ?_
      refine ⟨?_, (g1.trans g2).trans g3⟩
      have : decS t s u = (actOf t k, (k : Int)) := by
        unfold decS
        rw [hm2, hr2, find_first hall hq hd]
      rw [this]
    | false =>
      refine pops.nil ?_
      repeat (first | refine kthenP.n ?_ | refine kthenP.r ?_ | refine kthenP.e ?_ | refine kblockP.n ?_ | refine kblockP.r ?_ | refine kblockP.e ?_ | refine kblockP.o rfl ?_ | refine Runs.seq ?_ | refine Runs.region ?_ | refine Runs.block ?_ | refine Runs.cond ?_ | refine Runs.skip ?_ | refine Runs.loop ?_ | refine Runs.exit ?_ | refine Runs.ret ?_)
      refine pcond.f rfl ?_
      repeat (first | refine kthenP.n ?_ | refine kthenP.r ?_ | refine kthenP.e ?_ | refine kblockP.n ?_ | refine kblockP.r ?_ | refine kblockP.e ?_ | refine kblockP.o rfl ?_ | refine Runs.seq ?_ | refine Runs.region ?_ | refine Runs.block ?_ | refine Runs.cond ?_ | refine Runs.skip ?_ | refine Runs.loop ?_ | refine Runs.exit ?_ | refine Runs.ret ?_)
      repeat (first | refine pops.bin rfl rfl rfl rfl rfl rfl (cbin_inc (by omega)) ?_ | refine pops.fl rfl rfl rfl rfl rfl ?_ | refine pops.skip rfl rfl rfl ?_ | refine pops.load rfl rfl rfl rfl rfl (by first | assumption | exact cload_of (by assumption) rfl) ?_ | refine pops.len rfl rfl rfl rfl rfl rfl rfl rfl (by first | exact SlA.len (by assumption) rfl | exact SlI.len (by assumption) rfl | exact SlS.len (by assumption) rfl | exact Sl.len (by assumption) rfl) ?_)
      refine pops.nil ?_
      refine .n ⟨_, i + 1, rfl, ⟨rfl, rfl, rfl, rfl, rfl, trivial⟩, (by show m.length - (i + 1) < m.length - i; omega), by omega, g2.trans g3, all_next hall hq hd⟩
  · repeat (first | refine kthenP.n ?_ | refine kthenP.r ?_ | refine kthenP.e ?_ | refine kblockP.n ?_ | refine kblockP.r ?_ | refine kblockP.e ?_ | refine kblockP.o rfl ?_ | refine Runs.seq ?_ | refine Runs.region ?_ | refine Runs.block ?_ | refine Runs.cond ?_ | refine Runs.skip ?_ | refine Runs.loop ?_ | refine Runs.exit ?_ | refine Runs.ret ?_)
    repeat (first | refine pops.bin rfl rfl rfl rfl rfl rfl (cbin_inc (by omega)) ?_ | refine pops.fl rfl rfl rfl rfl rfl ?_ | refine pops.skip rfl rfl rfl ?_ | refine pops.load rfl rfl rfl rfl rfl (by first | assumption | exact cload_of (by assumption) rfl) ?_ | refine pops.len rfl rfl rfl rfl rfl rfl rfl rfl (by first | exact SlA.len (by assumption) rfl | exact SlI.len (by assumption) rfl | exact SlS.len (by assumption) rfl | exact Sl.len (by assumption) rfl) ?_)
    refine pops.nil ?_
    repeat (first | refine kthenP.n ?_ | refine kthenP.r ?_ | refine kthenP.e ?_ | refine kblockP.n ?_ | refine kblockP.r ?_ | refine kblockP.e ?_ | refine kblockP.o rfl ?_ | refine Runs.seq ?_ | refine Runs.region ?_ | refine Runs.block ?_ | refine Runs.cond ?_ | refine Runs.skip ?_ | refine Runs.loop ?_ | refine Runs.exit ?_ | refine Runs.ret ?_)
    refine pleave.r rfl ?_
    refine ⟨?_, g1.trans g2⟩
    have : decS t s u = (2, -1) := by
      unfold decS
      rw [hm2, hr2, find_no (all_end hall (by omega))]
    rw [this]
theorem fn_Decide : tab.fn 15 = some Tryd.f15 := by kernel_rfl
theorem Decide_calls {v vl : Value} {t : TabD} {l : List Int} (q : Int) (hv : TabV tab ks h v t) (hl : SlI tab ks.int h vl l) (hlen : TextsLt t.classes) (hll : l.length ≤ 1000) : CalF (X w) 15 [v, vl, .int .i64 q] h fun r h' => r = .ret (.tuple #[.int .i64 (DecideR t l q).1, .int .i64 (DecideR t l q).2]) ∧ Gr h h' := by
  refine CalF.wf fun hwf => ?_
  have hV := hv
  obtain ⟨c, a, x, y, x', y', rfl, ho, hcl, hac, hx, hy, hx', hy'⟩ := hv
  simp only [Bool.and_eq_true] at ho
  clear hcl hac hx hy hx' hy'
  have llt := hl.lt
  have out : ¬ (0 ≤ q ∧ q ≤ (l.length : Int) ∧ UsableP t l) → DecideR t l q = (2, -1) := fun hn => by unfold DecideR; rw [tt_f hn]; rfl
  refine CalF.intro fn_Decide rfl (Nat.le_of_ble_eq_true rfl) ?_
  repeat (first | refine kthenP.n ?_ | refine kthenP.r ?_ | refine kthenP.e ?_ | refine kblockP.n ?_ | refine kblockP.r ?_ | refine kblockP.e ?_ | refine kblockP.o rfl ?_ | refine Runs.seq ?_ | refine Runs.region ?_ | refine Runs.block ?_ | refine Runs.cond ?_ | refine Runs.skip ?_ | refine Runs.loop ?_ | refine Runs.exit ?_ | refine Runs.ret ?_)
  refine pops.box (cs := [c, a, x, y, x', y']) rfl rfl rfl rfl (by simp [ho]) rfl rfl hwf fun b h1 hb hwf1 g1 hc => ?_
  replace hV := hV.gr hwf g1
  replace hl := Sl.gr hl hwf g1
  refine pops.fl rfl rfl rfl rfl rfl ?_
  refine pops.fl rfl rfl rfl rfl rfl ?_
  refine pops.nil ?_
  repeat (first | refine kthenP.n ?_ | refine kthenP.r ?_ | refine kthenP.e ?_ | refine kblockP.n ?_ | refine kblockP.r ?_ | refine kblockP.e ?_ | refine kblockP.o rfl ?_ | refine Runs.seq ?_ | refine Runs.region ?_ | refine Runs.block ?_ | refine Runs.cond ?_ | refine Runs.skip ?_ | refine Runs.loop ?_ | refine Runs.exit ?_ | refine Runs.ret ?_)
  repeat (first | refine pops.bin rfl rfl rfl rfl rfl rfl (cbin_inc (by omega)) ?_ | refine pops.fd rfl rfl rfl rfl rfl rfl ?_ | refine pops.skip rfl rfl rfl ?_ | refine pops.load rfl rfl rfl rfl rfl (by first | assumption | exact cload_of (by assumption) rfl) ?_ | refine pops.len rfl rfl rfl rfl rfl rfl rfl rfl (by first | exact SlA.len (by assumption) rfl | exact SlI.len (by assumption) rfl | exact SlS.len (by assumption) rfl | exact Sl.len (by assumption) rfl) ?_)
  refine pops.cmp rfl rfl rfl rfl rfl (fun q1 => ?_) (fun q1 => ?_)
  · repeat (first | refine pops.bin rfl rfl rfl rfl rfl rfl (cbin_inc (by omega)) ?_ | refine pops.fl rfl rfl rfl rfl rfl ?_ | refine pops.skip rfl rfl rfl ?_ | refine pops.load rfl rfl rfl rfl rfl (by first | assumption | exact cload_of (by assumption) rfl) ?_ | refine pops.len rfl rfl rfl rfl rfl rfl rfl rfl (by first | exact SlA.len (by assumption) rfl | exact SlI.len (by assumption) rfl | exact SlS.len (by assumption) rfl | exact Sl.len (by assumption) rfl) ?_)
    refine pops.nil ?_
    repeat (first | refine kthenP.n ?_ | refine kthenP.r ?_ | refine kthenP.e ?_ | refine kblockP.n ?_ | refine kblockP.r ?_ | refine kblockP.e ?_ | refine kblockP.o rfl ?_ | refine Runs.seq ?_ | refine Runs.region ?_ | refine Runs.block ?_ | refine Runs.cond ?_ | refine Runs.skip ?_ | refine Runs.loop ?_ | refine Runs.exit ?_ | refine Runs.ret ?_)
    refine pcond.t rfl ?_
    repeat (first | refine kthenP.n ?_ | refine kthenP.r ?_ | refine kthenP.e ?_ | refine kblockP.n ?_ | refine kblockP.r ?_ | refine kblockP.e ?_ | refine kblockP.o rfl ?_ | refine Runs.seq ?_ | refine Runs.region ?_ | refine Runs.block ?_ | refine Runs.cond ?_ | refine Runs.skip ?_ | refine Runs.loop ?_ | refine Runs.exit ?_ | refine Runs.ret ?_)
    repeat (first | refine pops.bin rfl rfl rfl rfl rfl rfl (cbin_inc (by omega)) ?_ | refine pops.fl rfl rfl rfl rfl rfl ?_ | refine pops.skip rfl rfl rfl ?_ | refine pops.load rfl rfl rfl rfl rfl (by first | assumption | exact cload_of (by assumption) rfl) ?_ | refine pops.len rfl rfl rfl rfl rfl rfl rfl rfl (by first | exact SlA.len (by assumption) rfl | exact SlI.len (by assumption) rfl | exact SlS.len (by assumption) rfl | exact Sl.len (by assumption) rfl) ?_)
    refine pops.nil ?_
    repeat (first | refine kthenP.n ?_ | refine kthenP.r ?_ | refine kthenP.e ?_ | refine kblockP.n ?_ | refine kblockP.r ?_ | refine kblockP.e ?_ | refine kblockP.o rfl ?_ | refine Runs.seq ?_ | refine Runs.region ?_ | refine Runs.block ?_ | refine Runs.cond ?_ | refine Runs.skip ?_ | refine Runs.loop ?_ | refine Runs.exit ?_ | refine Runs.ret ?_)
    refine pleave.r rfl ?_
    simp at q1
    rw [out (by omega)]
    exact ⟨rfl, g1⟩
  repeat (first | refine pops.bin rfl rfl rfl rfl rfl rfl (cbin_inc (by omega)) ?_ | refine pops.fd rfl rfl rfl rfl rfl rfl ?_ | refine pops.skip rfl rfl rfl ?_ | refine pops.load rfl rfl rfl rfl rfl (by first | assumption | exact cload_of (by assumption) rfl) ?_ | refine pops.len rfl rfl rfl rfl rfl rfl rfl rfl (by first | exact SlA.len (by assumption) rfl | exact SlI.len (by assumption) rfl | exact SlS.len (by assumption) rfl | exact Sl.len (by assumption) rfl) ?_)
  refine pops.cmp rfl rfl rfl rfl rfl (fun q2 => ?_) (fun q2 => ?_)
  · repeat (first | refine pops.bin rfl rfl rfl rfl rfl rfl (cbin_inc (by omega)) ?_ | refine pops.fl rfl rfl rfl rfl rfl ?_ | refine pops.skip rfl rfl rfl ?_ | refine pops.load rfl rfl rfl rfl rfl (by first | assumption | exact cload_of (by assumption) rfl) ?_ | refine pops.len rfl rfl rfl rfl rfl rfl rfl rfl (by first | exact SlA.len (by assumption) rfl | exact SlI.len (by assumption) rfl | exact SlS.len (by assumption) rfl | exact Sl.len (by assumption) rfl) ?_)
    refine pops.nil ?_
    repeat (first | refine kthenP.n ?_ | refine kthenP.r ?_ | refine kthenP.e ?_ | refine kblockP.n ?_ | refine kblockP.r ?_ | refine kblockP.e ?_ | refine kblockP.o rfl ?_ | refine Runs.seq ?_ | refine Runs.region ?_ | refine Runs.block ?_ | refine Runs.cond ?_ | refine Runs.skip ?_ | refine Runs.loop ?_ | refine Runs.exit ?_ | refine Runs.ret ?_)
    refine pcond.t rfl ?_
    repeat (first | refine kthenP.n ?_ | refine kthenP.r ?_ | refine kthenP.e ?_ | refine kblockP.n ?_ | refine kblockP.r ?_ | refine kblockP.e ?_ | refine kblockP.o rfl ?_ | refine Runs.seq ?_ | refine Runs.region ?_ | refine Runs.block ?_ | refine Runs.cond ?_ | refine Runs.skip ?_ | refine Runs.loop ?_ | refine Runs.exit ?_ | refine Runs.ret ?_)
    repeat (first | refine pops.bin rfl rfl rfl rfl rfl rfl (cbin_inc (by omega)) ?_ | refine pops.fl rfl rfl rfl rfl rfl ?_ | refine pops.skip rfl rfl rfl ?_ | refine pops.load rfl rfl rfl rfl rfl (by first | assumption | exact cload_of (by assumption) rfl) ?_ | refine pops.len rfl rfl rfl rfl rfl rfl rfl rfl (by first | exact SlA.len (by assumption) rfl | exact SlI.len (by assumption) rfl | exact SlS.len (by assumption) rfl | exact Sl.len (by assumption) rfl) ?_)
    refine pops.nil ?_
    repeat (first | refine kthenP.n ?_ | refine kthenP.r ?_ | refine kthenP.e ?_ | refine kblockP.n ?_ | refine kblockP.r ?_ | refine kblockP.e ?_ | refine kblockP.o rfl ?_ | refine Runs.seq ?_ | refine Runs.region ?_ | refine Runs.block ?_ | refine Runs.cond ?_ | refine Runs.skip ?_ | refine Runs.loop ?_ | refine Runs.exit ?_ | refine Runs.ret ?_)
    refine pleave.r rfl ?_
    simp at q2
    rw [out (by omega)]
    exact ⟨rfl, g1⟩
  repeat (first | refine pops.bin rfl rfl rfl rfl rfl rfl (cbin_inc (by omega)) ?_ | refine pops.fd rfl rfl rfl rfl rfl rfl ?_ | refine pops.skip rfl rfl rfl ?_ | refine pops.load rfl rfl rfl rfl rfl (by first | assumption | exact cload_of (by assumption) rfl) ?_ | refine pops.len rfl rfl rfl rfl rfl rfl rfl rfl (by first | exact SlA.len (by assumption) rfl | exact SlI.len (by assumption) rfl | exact SlS.len (by assumption) rfl | exact Sl.len (by assumption) rfl) ?_)
  refine pops.callG rfl rfl rfl rfl rfl fn_usable rfl rfl rfl (usable_calls hV hl hlen) fun h2 hwf2 g2 => ?_
  replace hc := g2.at hwf1 hc
  replace hV := hV.gr hwf1 g2
  replace hl := Sl.gr hl hwf1 g2
  have g02 := g1.trans g2
  cases hU : tt (UsableP t l) with
  | false =>
    repeat (first | refine pops.bin rfl rfl rfl rfl rfl rfl (cbin_inc (by omega)) ?_ | refine pops.fl rfl rfl rfl rfl rfl ?_ | refine pops.skip rfl rfl rfl ?_ | refine pops.load rfl rfl rfl rfl rfl (by first | assumption | exact cload_of (by assumption) rfl) ?_ | refine pops.len rfl rfl rfl rfl rfl rfl rfl rfl (by first | exact SlA.len (by assumption) rfl | exact SlI.len (by assumption) rfl | exact SlS.len (by assumption) rfl | exact Sl.len (by assumption) rfl) ?_)
    refine pops.nil ?_
    repeat (first | refine kthenP.n ?_ | refine kthenP.r ?_ | refine kthenP.e ?_ | refine kblockP.n ?_ | refine kblockP.r ?_ | refine kblockP.e ?_ | refine kblockP.o rfl ?_ | refine Runs.seq ?_ | refine Runs.region ?_ | refine Runs.block ?_ | refine Runs.cond ?_ | refine Runs.skip ?_ | refine Runs.loop ?_ | refine Runs.exit ?_ | refine Runs.ret ?_)
    refine pcond.t rfl ?_
    repeat (first | refine kthenP.n ?_ | refine kthenP.r ?_ | refine kthenP.e ?_ | refine kblockP.n ?_ | refine kblockP.r ?_ | refine kblockP.e ?_ | refine kblockP.o rfl ?_ | refine Runs.seq ?_ | refine Runs.region ?_ | refine Runs.block ?_ | refine Runs.cond ?_ | refine Runs.skip ?_ | refine Runs.loop ?_ | refine Runs.exit ?_ | refine Runs.ret ?_)
    repeat (first | refine pops.bin rfl rfl rfl rfl rfl rfl (cbin_inc (by omega)) ?_ | refine pops.fl rfl rfl rfl rfl rfl ?_ | refine pops.skip rfl rfl rfl ?_ | refine pops.load rfl rfl rfl rfl rfl (by first | assumption | exact cload_of (by assumption) rfl) ?_ | refine pops.len rfl rfl rfl rfl rfl rfl rfl rfl (by first | exact SlA.len (by assumption) rfl | exact SlI.len (by assumption) rfl | exact SlS.len (by assumption) rfl | exact Sl.len (by assumption) rfl) ?_)
    refine pops.nil ?_
    repeat (first | refine kthenP.n ?_ | refine kthenP.r ?_ | refine kthenP.e ?_ | refine kblockP.n ?_ | refine kblockP.r ?_ | refine kblockP.e ?_ | refine kblockP.o rfl ?_ | refine Runs.seq ?_ | refine Runs.region ?_ | refine Runs.block ?_ | refine Runs.cond ?_ | refine Runs.skip ?_ | refine Runs.loop ?_ | refine Runs.exit ?_ | refine Runs.ret ?_)
    refine pleave.r rfl ?_
    rw [out (fun hh => by rw [tt_t hh.2.2] at hU; cases hU)]
    exact ⟨rfl, g02⟩
  | true =>
  replace hU := tt_iff.1 hU
  simp at q1 q2
  obtain ⟨k, rfl⟩ : ∃ k : Nat, q = k := Int.eq_ofNat_of_zero_le q1
  have hk : k ≤ l.length := by omega
  have hres : DecideR t l k = decS t (st t.left.next l k) (rst t.right.next l (l.length - k)) := by
    unfold DecideR
    rw [tt_t (by exact ⟨by omega, by omega, hU⟩)]
    rfl
  repeat (first | refine pops.bin rfl rfl rfl rfl rfl rfl (cbin_inc (by omega)) ?_ | refine pops.fl rfl rfl rfl rfl rfl ?_ | refine pops.skip rfl rfl rfl ?_ | refine pops.load rfl rfl rfl rfl rfl (by first | assumption | exact cload_of (by assumption) rfl) ?_ | refine pops.len rfl rfl rfl rfl rfl rfl rfl rfl (by first | exact SlA.len (by assumption) rfl | exact SlI.len (by assumption) rfl | exact SlS.len (by assumption) rfl | exact Sl.len (by assumption) rfl) ?_)
  refine pops.nil ?_
  repeat (first | refine kthenP.n ?_ | refine kthenP.r ?_ | refine kthenP.e ?_ | refine kblockP.n ?_ | refine kblockP.r ?_ | refine kblockP.e ?_ | refine kblockP.o rfl ?_ | refine Runs.seq ?_ | refine Runs.region ?_ | refine Runs.block ?_ | refine Runs.cond ?_ | refine Runs.skip ?_ | refine Runs.loop ?_ | refine Runs.exit ?_ | refine Runs.ret ?_)
  refine pcond.f rfl ?_
  repeat (first | refine kthenP.n ?_ | refine kthenP.r ?_ | refine kthenP.e ?_ | refine kblockP.n ?_ | refine kblockP.r ?_ | refine kblockP.e ?_ | refine kblockP.o rfl ?_ | refine Runs.seq ?_ | refine Runs.region ?_ | refine Runs.block ?_ | refine Runs.cond ?_ | refine Runs.skip ?_ | refine Runs.loop ?_ | refine Runs.exit ?_ | refine Runs.ret ?_)
  refine PG.start _ rfl rfl ?_
  repeat (first | refine PG.skip (by decide +kernel) ?_ | refine PG.take (by decide +kernel) rfl rfl rfl rfl ?_ | refine PG.load (by decide +kernel) rfl rfl rfl rfl rfl (by first | assumption | exact cload_of (by assumption) rfl) ?_ | refine PG.drop (by decide +kernel) rfl rfl rfl ?_)
  refine PG.nil ?_
  refine pd1.callR 3 rfl (by kernel_rfl) rfl rfl rfl rfl rfl fn_left rfl rfl rfl ((left_calls hV hl hU hll).monoW fun r h3 hwf3 hh => ?_)
  obtain ⟨⟨u1, rfl, hu1⟩, g3⟩ := hh
  replace hc := g3.at hwf2 hc
  replace hV := hV.gr hwf2 g3
  replace hl := Sl.gr hl hwf2 g3
  refine ⟨u1, rfl, _, by (repeat (first | exact Reck.nil | (apply Reck.dropI; decide +kernel) | (apply Reck.keep; rfl) | (apply Reck.load; rfl; rfl; first | assumption | exact cload_of (by assumption) rfl) | (apply Reck.same; rfl))), ?_⟩
  obtain ⟨p1, hp1, hq1⟩ := Sl.readM hu1 hwf3 (ts := 23) rfl (leftS_get hk) .i64
  have hq1' : cload (X w).T h3 3 p1 = some (.int .i64 (st t.left.next l k : Int)) := hq1 _ (Gr.refl _)
  repeat refine PG.skip (by decide +kernel) ?_
  refine PG.take (by decide +kernel) rfl rfl rfl (hp1) ?_
  repeat (first | refine PG.skip (by decide +kernel) ?_ | refine PG.take (by decide +kernel) rfl rfl rfl rfl ?_ | refine PG.load (by decide +kernel) rfl rfl rfl rfl rfl (by first | assumption | exact cload_of (by assumption) rfl) ?_ | refine PG.drop (by decide +kernel) rfl rfl rfl ?_)
  refine PG.nil ?_
  refine pd1.callR 9 rfl (by kernel_rfl) rfl rfl rfl rfl rfl fn_right rfl rfl rfl ((right_calls hV hl hU hll).monoW fun r h4 hwf4 hh => ?_)
  obtain ⟨⟨u2, rfl, hu2⟩, g4⟩ := hh
  replace hc := g4.at hwf3 hc
  replace hV := hV.gr hwf3 g4
  replace hl := Sl.gr hl hwf3 g4
  have hq1' : cload (X w).T h4 3 p1 = some (.int .i64 (st t.left.next l k : Int)) := hq1 _ g4
  refine ⟨u2, rfl, _, by (repeat (first | exact Reck.nil | (apply Reck.dropI; decide +kernel) | (apply Reck.keep; rfl) | (apply Reck.load; rfl; rfl; first | assumption | exact cload_of (by assumption) rfl) | (apply Reck.same; rfl))), ?_⟩
  obtain ⟨p2, hp2, hq2⟩ := Sl.readM hu2 hwf4 (ts := 23) rfl (rightS_get hk) .i64
  have hq2' : cload (X w).T h4 3 p2 = some (.int .i64 (rst t.right.next l (l.length - k) : Int)) := hq2 _ (Gr.refl _)
  repeat refine PG.skip (by decide +kernel) ?_
  refine PG.take (by decide +kernel) rfl rfl rfl (hp2) ?_
  repeat (first | refine PG.skip (by decide +kernel) ?_ | refine PG.take (by decide +kernel) rfl rfl rfl rfl ?_ | refine PG.load (by decide +kernel) rfl rfl rfl rfl rfl (by first | assumption | exact cload_of (by assumption) rfl) ?_ | refine PG.drop (by decide +kernel) rfl rfl rfl ?_)
  refine PG.nil ?_
  refine pd1.callG 13 rfl (by kernel_rfl) rfl rfl rfl rfl rfl fn_decided rfl rfl rfl (decided_calls hV hU.1 (st_ok hU.1.2.2.2.1 hU.2 k hk) (rst_ok hU.1.2.2.2.2 hU.2 (l.length - k) (by omega))) fun h5 hwf5 g5 => ?_
  replace hc := g5.at hwf4 hc
  refine ⟨_, by (repeat (first | exact Reck.nil | (apply Reck.dropI; decide +kernel) | (apply Reck.keep; rfl) | (apply Reck.load; rfl; rfl; first | assumption | exact cload_of (by assumption) rfl) | (apply Reck.same; rfl))), ?_⟩
  repeat (first | refine PG.skip (by decide +kernel) ?_ | refine PG.take (by decide +kernel) rfl rfl rfl rfl ?_ | refine PG.load (by decide +kernel) rfl rfl rfl rfl rfl (by first | assumption | exact cload_of (by assumption) rfl) ?_ | refine PG.drop (by decide +kernel) rfl rfl rfl ?_)
  refine PG.nil ?_
  refine pd1.fin (by kernel_rfl) (by kernel_rfl) ?_
  repeat (first | refine kthenP.n ?_ | refine kthenP.r ?_ | refine kthenP.e ?_ | refine kblockP.n ?_ | refine kblockP.r ?_ | refine kblockP.e ?_ | refine kblockP.o rfl ?_ | refine Runs.seq ?_ | refine Runs.region ?_ | refine Runs.block ?_ | refine Runs.cond ?_ | refine Runs.skip ?_ | refine Runs.loop ?_ | refine Runs.exit ?_ | refine Runs.ret ?_)
  refine pleave.r rfl ?_
  rw [hres]
  exact ⟨rfl, (g02.trans g3).trans (g4.trans g5)⟩
end Go.Proofs.YtcenphnkcifbhaaDoor

set_option maxRecDepth 100000
set_option linter.unusedVariables false
set_option linter.unusedSimpArgs false
namespace Go.Proofs.YtcenphnkcifbhaaDoor
open Go.Cx
variable {w : World} {h : CH}
theorem fn_Actions : tab.fn 13 = some Tryd.f13 := by kernel_rfl
theorem Actions_calls {v vl : Value} {t : TabD} {l : List Int} (hv : TabV tab ks h v t) (hl : SlI tab ks.int h vl l) (hlen : TextsLt t.classes) (hll : l.length ≤ 1000) : CalF (X w) 13 [v, vl] h fun r h' => (∃ u, r = .ret u ∧ SlI tab ks.int h' u (ActionsR t l)) ∧ Gr h h' := by
  refine CalF.wf fun hwf => ?_
  have hV := hv
  obtain ⟨c, a, x, y, x', y', rfl, ho, hcl, hac, hx, hy, hx', hy'⟩ := hv
  simp only [Bool.and_eq_true] at ho
  clear hcl hac hx hy hx' hy'
  refine CalF.intro fn_Actions rfl (Nat.le_of_ble_eq_true rfl) ?_
  repeat (first | refine kthenP.n ?_ | refine kthenP.r ?_ | refine kthenP.e ?_ | refine kblockP.n ?_ | refine kblockP.r ?_ | refine kblockP.e ?_ | refine kblockP.o rfl ?_ | refine Runs.seq ?_ | refine Runs.region ?_ | refine Runs.block ?_ | refine Runs.cond ?_ | refine Runs.skip ?_ | refine Runs.loop ?_ | refine Runs.exit ?_ | refine Runs.ret ?_)
  refine pops.box (cs := [c, a, x, y, x', y']) rfl rfl rfl rfl (by simp [ho]) rfl rfl hwf fun b h1 hb hwf1 g1 hc => ?_
  replace hV := hV.gr hwf g1
  replace hl := Sl.gr hl hwf g1
  refine pops.fl rfl rfl rfl rfl rfl ?_
  refine pops.nil ?_
  repeat (first | refine kthenP.n ?_ | refine kthenP.r ?_ | refine kthenP.e ?_ | refine kblockP.n ?_ | refine kblockP.r ?_ | refine kblockP.e ?_ | refine kblockP.o rfl ?_ | refine Runs.seq ?_ | refine Runs.region ?_ | refine Runs.block ?_ | refine Runs.cond ?_ | refine Runs.skip ?_ | refine Runs.loop ?_ | refine Runs.exit ?_ | refine Runs.ret ?_)
  repeat (first | refine pops.bin rfl rfl rfl rfl rfl rfl (cbin_inc (by omega)) ?_ | refine pops.fl rfl rfl rfl rfl rfl ?_ | refine pops.skip rfl rfl rfl ?_ | refine pops.load rfl rfl rfl rfl rfl (by first | assumption | exact cload_of (by assumption) rfl) ?_ | refine pops.len rfl rfl rfl rfl rfl rfl rfl rfl (by first | exact SlA.len (by assumption) rfl | exact SlI.len (by assumption) rfl | exact SlS.len (by assumption) rfl | exact Sl.len (by assumption) rfl) ?_)
  refine pops.callG rfl rfl rfl rfl rfl fn_usable rfl rfl rfl (usable_calls hV hl hlen) fun h2 hwf2 g2 => ?_
  replace hc := g2.at hwf1 hc
  replace hV := hV.gr hwf1 g2
  replace hl := Sl.gr hl hwf1 g2
  have g02 := g1.trans g2
  unfold ActionsR
  cases hU : tt (UsableP t l) with
  | false =>
    repeat (first | refine pops.bin rfl rfl rfl rfl rfl rfl (cbin_inc (by omega)) ?_ | refine pops.fl rfl rfl rfl rfl rfl ?_ | refine pops.skip rfl rfl rfl ?_ | refine pops.load rfl rfl rfl rfl rfl (by first | assumption | exact cload_of (by assumption) rfl) ?_ | refine pops.len rfl rfl rfl rfl rfl rfl rfl rfl (by first | exact SlA.len (by assumption) rfl | exact SlI.len (by assumption) rfl | exact SlS.len (by assumption) rfl | exact Sl.len (by assumption) rfl) ?_)
    refine pops.nil ?_
    repeat (first | refine kthenP.n ?_ | refine kthenP.r ?_ | refine kthenP.e ?_ | refine kblockP.n ?_ | refine kblockP.r ?_ | refine kblockP.e ?_ | refine kblockP.o rfl ?_ | refine Runs.seq ?_ | refine Runs.region ?_ | refine Runs.block ?_ | refine Runs.cond ?_ | refine Runs.skip ?_ | refine Runs.loop ?_ | refine Runs.exit ?_ | refine Runs.ret ?_)
    refine pcond.t rfl ?_
    repeat (first | refine kthenP.n ?_ | refine kthenP.r ?_ | refine kthenP.e ?_ | refine kblockP.n ?_ | refine kblockP.r ?_ | refine kblockP.e ?_ | refine kblockP.o rfl ?_ | refine Runs.seq ?_ | refine Runs.region ?_ | refine Runs.block ?_ | refine Runs.cond ?_ | refine Runs.skip ?_ | refine Runs.loop ?_ | refine Runs.exit ?_ | refine Runs.ret ?_)
    repeat (first | refine pops.bin rfl rfl rfl rfl rfl rfl (cbin_inc (by omega)) ?_ | refine pops.fl rfl rfl rfl rfl rfl ?_ | refine pops.skip rfl rfl rfl ?_ | refine pops.load rfl rfl rfl rfl rfl (by first | assumption | exact cload_of (by assumption) rfl) ?_ | refine pops.len rfl rfl rfl rfl rfl rfl rfl rfl (by first | exact SlA.len (by assumption) rfl | exact SlI.len (by assumption) rfl | exact SlS.len (by assumption) rfl | exact Sl.len (by assumption) rfl) ?_)
    refine pops.nil ?_
    repeat (first | refine kthenP.n ?_ | refine kthenP.r ?_ | refine kthenP.e ?_ | refine kblockP.n ?_ | refine kblockP.r ?_ | refine kblockP.e ?_ | refine kblockP.o rfl ?_ | refine Runs.seq ?_ | refine Runs.region ?_ | refine Runs.block ?_ | refine Runs.cond ?_ | refine Runs.skip ?_ | refine Runs.loop ?_ | refine Runs.exit ?_ | refine Runs.ret ?_)
    refine pleave.r rfl ?_
    exact ⟨⟨_, rfl, nil_ints⟩, g02⟩
  | true =>
  replace hU := tt_iff.1 hU
  repeat (first | refine pops.bin rfl rfl rfl rfl rfl rfl (cbin_inc (by omega)) ?_ | refine pops.fl rfl rfl rfl rfl rfl ?_ | refine pops.skip rfl rfl rfl ?_ | refine pops.load rfl rfl rfl rfl rfl (by first | assumption | exact cload_of (by assumption) rfl) ?_ | refine pops.len rfl rfl rfl rfl rfl rfl rfl rfl (by first | exact SlA.len (by assumption) rfl | exact SlI.len (by assumption) rfl | exact SlS.len (by assumption) rfl | exact Sl.len (by assumption) rfl) ?_)
  refine pops.nil ?_
  repeat (first | refine kthenP.n ?_ | refine kthenP.r ?_ | refine kthenP.e ?_ | refine kblockP.n ?_ | refine kblockP.r ?_ | refine kblockP.e ?_ | refine kblockP.o rfl ?_ | refine Runs.seq ?_ | refine Runs.region ?_ | refine Runs.block ?_ | refine Runs.cond ?_ | refine Runs.skip ?_ | refine Runs.loop ?_ | refine Runs.exit ?_ | refine Runs.ret ?_)
  refine pcond.f rfl ?_
  repeat (first | refine kthenP.n ?_ | refine kthenP.r ?_ | refine kthenP.e ?_ | refine kblockP.n ?_ | refine kblockP.r ?_ | refine kblockP.e ?_ | refine kblockP.o rfl ?_ | refine Runs.seq ?_ | refine Runs.region ?_ | refine Runs.block ?_ | refine Runs.cond ?_ | refine Runs.skip ?_ | refine Runs.loop ?_ | refine Runs.exit ?_ | refine Runs.ret ?_)
  refine PG.start _ rfl rfl ?_
  repeat (first | refine PG.skip (by decide +kernel) ?_ | refine PG.take (by decide +kernel) rfl rfl rfl rfl ?_ | refine PG.load (by decide +kernel) rfl rfl rfl rfl rfl (by first | assumption | exact cload_of (by assumption) rfl) ?_ | refine PG.drop (by decide +kernel) rfl rfl rfl ?_)
  refine PG.nil ?_
  refine pd1.callR 2 rfl (by kernel_rfl) rfl rfl rfl rfl rfl fn_left rfl rfl rfl ((left_calls hV hl hU hll).monoW fun r h3 hwf3 hh => ?_)
  obtain ⟨⟨u1, rfl, hu1⟩, g3⟩ := hh
  replace hc := g3.at hwf2 hc
  replace hV := hV.gr hwf2 g3
  replace hl := Sl.gr hl hwf2 g3
  refine ⟨u1, rfl, _, by (repeat (first | exact Reck.nil | (apply Reck.dropI; decide +kernel) | (apply Reck.keep; rfl) | (apply Reck.load; rfl; rfl; first | assumption | exact cload_of (by assumption) rfl) | (apply Reck.same; rfl))), ?_⟩
  repeat (first | refine PG.skip (by decide +kernel) ?_ | refine PG.take (by decide +kernel) rfl rfl rfl rfl ?_ | refine PG.load (by decide +kernel) rfl rfl rfl rfl rfl (by first | assumption | exact cload_of (by assumption) rfl) ?_ | refine PG.drop (by decide +kernel) rfl rfl rfl ?_)
  refine PG.nil ?_
  refine pd1.callR 5 rfl (by kernel_rfl) rfl rfl rfl rfl rfl fn_right rfl rfl rfl ((right_calls hV hl hU hll).monoW fun r h4 hwf4 hh => ?_)
  obtain ⟨⟨u2, rfl, hu2⟩, g4⟩ := hh
  replace hc := g4.at hwf3 hc
  replace hV := hV.gr hwf3 g4
  replace hu1 := Sl.gr hu1 hwf3 g4
  refine ⟨u2, rfl, _, by (repeat (first | exact Reck.nil | (apply Reck.dropI; decide +kernel) | (apply Reck.keep; rfl) | (apply Reck.load; rfl; rfl; first | assumption | exact cload_of (by assumption) rfl) | (apply Reck.same; rfl))), ?_⟩
  repeat (first | refine PG.skip (by decide +kernel) ?_ | refine PG.take (by decide +kernel) rfl rfl rfl rfl ?_ | refine PG.load (by decide +kernel) rfl rfl rfl rfl rfl (by first | assumption | exact cload_of (by assumption) rfl) ?_ | refine PG.drop (by decide +kernel) rfl rfl rfl ?_)
  refine PG.nil ?_
  refine pd1.fin (by kernel_rfl) (by kernel_rfl) ?_
  have g04 := (g02.trans g3).trans g4
  clear g1 g2 g3 g4 g02 hwf1 hwf2 hwf3
  repeat (first | refine kthenP.n ?_ | refine kthenP.r ?_ | refine kthenP.e ?_ | refine kblockP.n ?_ | refine kblockP.r ?_ | refine kblockP.e ?_ | refine kblockP.o rfl ?_ | refine Runs.seq ?_ | refine Runs.region ?_ | refine Runs.block ?_ | refine Runs.cond ?_ | refine Runs.skip ?_ | refine Runs.loop ?_ | refine Runs.exit ?_ | refine Runs.ret ?_)
  repeat (first | refine pops.bin rfl rfl rfl rfl rfl rfl (cbin_inc (by omega)) ?_ | refine pops.fl rfl rfl rfl rfl rfl ?_ | refine pops.skip rfl rfl rfl ?_ | refine pops.load rfl rfl rfl rfl rfl (by first | assumption | exact cload_of (by assumption) rfl) ?_ | refine pops.len rfl rfl rfl rfl rfl rfl rfl rfl (by first | exact SlA.len (by assumption) rfl | exact SlI.len (by assumption) rfl | exact SlS.len (by assumption) rfl | exact Sl.len (by assumption) rfl) ?_)
  refine pops.nil ?_
  repeat (first | refine kthenP.n ?_ | refine kthenP.r ?_ | refine kthenP.e ?_ | refine kblockP.n ?_ | refine kblockP.r ?_ | refine kblockP.e ?_ | refine kblockP.o rfl ?_ | refine Runs.seq ?_ | refine Runs.region ?_ | refine Runs.block ?_ | refine Runs.cond ?_ | refine Runs.skip ?_ | refine Runs.loop ?_ | refine Runs.exit ?_ | refine Runs.ret ?_)
  repeat (first | refine pops.bin rfl rfl rfl rfl rfl rfl (cbin_inc (by omega)) ?_ | refine pops.fl rfl rfl rfl rfl rfl ?_ | refine pops.skip rfl rfl rfl ?_ | refine pops.load rfl rfl rfl rfl rfl (by first | assumption | exact cload_of (by assumption) rfl) ?_ | refine pops.len rfl rfl rfl rfl rfl rfl rfl rfl (by first | exact SlA.len (by assumption) rfl | exact SlI.len (by assumption) rfl | exact SlS.len (by assumption) rfl | exact Sl.len (by assumption) rfl) ?_)
  refine pops.nil ?_
  repeat (first | refine kthenP.n ?_ | refine kthenP.r ?_ | refine kthenP.e ?_ | refine kblockP.n ?_ | refine kblockP.r ?_ | refine kblockP.e ?_ | refine kblockP.o rfl ?_ | refine Runs.seq ?_ | refine Runs.region ?_ | refine Runs.block ?_ | refine Runs.cond ?_ | refine Runs.skip ?_ | refine Runs.loop ?_ | refine Runs.exit ?_ | refine Runs.ret ?_)
  refine Loops.ind 6 (fun s : Nat × Value => [(2, .pointer (some ⟨b, 0, none⟩)), (6, u2), (7, s.2), (22, u1), (23, .int .i64 ((leftS t l).length : Nat)), (24, .int .i64 (s.1 : Nat))])
    (fun s h' => s.1 ≤ l.length + 1 ∧ Gr h4 h' ∧ ∃ b', h4.n ≤ b' ∧ Own h' s.2 b' ((List.range s.1).map fun i => Value.int .i64 (decS t (st t.left.next l i) (rst t.right.next l (l.length - i))).1))
    (fun s => l.length + 1 - s.1) (0, .slice none 0 0) (by decide) ⟨rfl, rfl, rfl, rfl, rfl, rfl, trivial⟩ ⟨Nat.zero_le _, Gr.refl _, h4.n, Nat.le_refl _, .inl ⟨rfl, rfl⟩⟩ ?_
  rintro ⟨i, vo⟩ z h' hwf' ⟨hi, g2, b', hb', hown⟩
  simp only at hi hown hb'
  replace hc := g2.at hwf4 hc
  replace hV := hV.gr hwf4 g2
  replace hu1 := Sl.gr hu1 hwf4 g2
  replace hu2 := Sl.gr hu2 hwf4 g2
  have hll1 := leftS_length t l
  repeat (first | refine kthenP.n ?_ | refine kthenP.r ?_ | refine kthenP.e ?_ | refine kblockP.n ?_ | refine kblockP.r ?_ | refine kblockP.e ?_ | refine kblockP.o rfl ?_ | refine Runs.seq ?_ | refine Runs.region ?_ | refine Runs.block ?_ | refine Runs.cond ?_ | refine Runs.skip ?_ | refine Runs.loop ?_ | refine Runs.exit ?_ | refine Runs.ret ?_)
  repeat (first | refine pops.bin rfl rfl rfl rfl rfl rfl (cbin_inc (by omega)) ?_ | refine pops.fl rfl rfl rfl rfl rfl ?_ | refine pops.skip rfl rfl rfl ?_ | refine pops.load rfl rfl rfl rfl rfl (by first | assumption | exact cload_of (by assumption) rfl) ?_ | refine pops.len rfl rfl rfl rfl rfl rfl rfl rfl (by first | exact SlA.len (by assumption) rfl | exact SlI.len (by assumption) rfl | exact SlS.len (by assumption) rfl | exact Sl.len (by assumption) rfl) ?_)
  refine pops.nil ?_
  repeat (first | refine kthenP.n ?_ | refine kthenP.r ?_ | refine kthenP.e ?_ | refine kblockP.n ?_ | refine kblockP.r ?_ | refine kblockP.e ?_ | refine kblockP.o rfl ?_ | refine Runs.seq ?_ | refine Runs.region ?_ | refine Runs.block ?_ | refine Runs.cond ?_ | refine Runs.skip ?_ | refine Runs.loop ?_ | refine Runs.exit ?_ | refine Runs.ret ?_)
  refine pcond.d (p := (i : Int) < ((leftS t l).length : Nat)) rfl (fun hlt => ?_) (fun hge => ?_)
  · have hlt : i ≤ l.length := by omega
    obtain ⟨p2, hp2, hq2⟩ := Sl.readM hu2 hwf' (ts := 23) rfl (rightS_get hlt) .i64
    have hq2' : cload (X w).T h' 3 p2 = some (.int .i64 (rst t.right.next l (l.length - i) : Int)) := hq2 _ (Gr.refl _)
    repeat (first | refine kthenP.n ?_ | refine kthenP.r ?_ | refine kthenP.e ?_ | refine kblockP.n ?_ | refine kblockP.r ?_ | refine kblockP.e ?_ | refine kblockP.o rfl ?_ | refine Runs.seq ?_ | refine Runs.region ?_ | refine Runs.block ?_ | refine Runs.cond ?_ | refine Runs.skip ?_ | refine Runs.loop ?_ | refine Runs.exit ?_ | refine Runs.ret ?_)
    refine pops.fl rfl rfl rfl rfl rfl ?_
    refine pops.atI (f := Value.int .i64) rfl rfl rfl rfl rfl rfl rfl hu1 (leftS_get hlt) fun p hp => ?_
    repeat (first | refine pops.bin rfl rfl rfl rfl rfl rfl (cbin_inc (by omega)) ?_ | refine pops.fl rfl rfl rfl rfl rfl ?_ | refine pops.skip rfl rfl rfl ?_ | refine pops.load rfl rfl rfl rfl rfl (by first | assumption | exact cload_of (by assumption) rfl) ?_ | refine pops.len rfl rfl rfl rfl rfl rfl rfl rfl (by first | exact SlA.len (by assumption) rfl | exact SlI.len (by assumption) rfl | exact SlS.len (by assumption) rfl | exact Sl.len (by assumption) rfl) ?_)
    refine pops.nil ?_
    repeat (first | refine kthenP.n ?_ | refine kthenP.r ?_ | refine kthenP.e ?_ | refine kblockP.n ?_ | refine kblockP.r ?_ | refine kblockP.e ?_ | refine kblockP.o rfl ?_ | refine Runs.seq ?_ | refine Runs.region ?_ | refine Runs.block ?_ | refine Runs.cond ?_ | refine Runs.skip ?_ | refine Runs.loop ?_ | refine Runs.exit ?_ | refine Runs.ret ?_)
    refine PG.start _ rfl rfl ?_
    refine PG.load (by decide +kernel) rfl rfl rfl rfl rfl (by first | assumption | exact cload_of (by assumption) rfl) ?_
    refine PG.take (by decide +kernel) rfl rfl rfl rfl ?_
    refine PG.take (by decide +kernel) rfl rfl rfl rfl ?_
    refine PG.take (by decide +kernel) rfl rfl rfl rfl ?_
    refine PG.take (by decide +kernel) rfl rfl rfl (hp2) ?_
    repeat (first | refine PG.skip (by decide +kernel) ?_ | refine PG.take (by decide +kernel) rfl rfl rfl rfl ?_ | refine PG.load (by decide +kernel) rfl rfl rfl rfl rfl (by first | assumption | exact cload_of (by assumption) rfl) ?_ | refine PG.drop (by decide +kernel) rfl rfl rfl ?_)
    refine PG.nil ?_
    refine pd1.callG 6 rfl (by kernel_rfl) rfl rfl rfl rfl rfl fn_decided rfl rfl rfl (decided_calls hV hU.1 (st_ok hU.1.2.2.2.1 hU.2 i hlt) (rst_ok hU.1.2.2.2.2 hU.2 (l.length - i) (by omega))) fun h5 hwf5 g5 => ?_
    replace hc := g5.at hwf' hc
    refine ⟨_, by (repeat (first | exact Reck.nil | (apply Reck.dropI; decide +kernel) | (apply Reck.keep; rfl) | (apply Reck.load; rfl; rfl; first | assumption | exact cload_of (by assumption) rfl) | (apply Reck.same; rfl))), ?_⟩
    repeat (first | refine PG.skip (by decide +kernel) ?_ | refine PG.take (by decide +kernel) rfl rfl rfl rfl ?_ | refine PG.load (by decide +kernel) rfl rfl rfl rfl rfl (by first | assumption | exact cload_of (by assumption) rfl) ?_ | refine PG.drop (by decide +kernel) rfl rfl rfl ?_)
    refine PG.nil ?_
    refine pd1.fin (by kernel_rfl) (by kernel_rfl) ?_
    repeat (first | refine kthenP.n ?_ | refine kthenP.r ?_ | refine kthenP.e ?_ | refine kblockP.n ?_ | refine kblockP.r ?_ | refine kblockP.e ?_ | refine kblockP.o rfl ?_ | refine Runs.seq ?_ | refine Runs.region ?_ | refine Runs.block ?_ | refine Runs.cond ?_ | refine Runs.skip ?_ | refine Runs.loop ?_ | refine Runs.exit ?_ | refine Runs.ret ?_)
    refine pops.fl rfl rfl rfl rfl rfl ?_
    refine pops.fl rfl rfl rfl rfl rfl ?_
    refine pops.buildSlice (cs := [.int .i64 (decS t (st t.left.next l i) (rst t.right.next l (l.length - i))).1]) rfl rfl rfl rfl rfl hwf5 fun b1 h6 hb1 hwf6 g6 hc6 => ?_
    refine pops.append1 rfl rfl rfl rfl rfl rfl rfl rfl rfl rfl rfl rfl rfl rfl rfl rfl rfl hwf6 (hown.gr hwf' (g5.trans g6)) rfl hc6 (by simp; omega) fun v' b2 h7 hwf7 ch hb2 hown7 => ?_
    have g7 : Gr h4 h7 := ((g2.trans g5).trans g6).chg hb' ch
    repeat (first | refine pops.bin rfl rfl rfl rfl rfl rfl (cbin_inc (by omega)) ?_ | refine pops.fl rfl rfl rfl rfl rfl ?_ | refine pops.skip rfl rfl rfl ?_ | refine pops.load rfl rfl rfl rfl rfl (by first | assumption | exact cload_of (by assumption) rfl) ?_ | refine pops.len rfl rfl rfl rfl rfl rfl rfl rfl (by first | exact SlA.len (by assumption) rfl | exact SlI.len (by assumption) rfl | exact SlS.len (by assumption) rfl | exact Sl.len (by assumption) rfl) ?_)
    refine pops.nil ?_
    repeat (first | refine kthenP.n ?_ | refine kthenP.r ?_ | refine kthenP.e ?_ | refine kblockP.n ?_ | refine kblockP.r ?_ | refine kblockP.e ?_ | refine kblockP.o rfl ?_ | refine Runs.seq ?_ | refine Runs.region ?_ | refine Runs.block ?_ | refine Runs.cond ?_ | refine Runs.skip ?_ | refine Runs.loop ?_ | refine Runs.exit ?_ | refine Runs.ret ?_)
    repeat (first | refine pops.bin rfl rfl rfl rfl rfl rfl (cbin_inc (by omega)) ?_ | refine pops.fl rfl rfl rfl rfl rfl ?_ | refine pops.skip rfl rfl rfl ?_ | refine pops.load rfl rfl rfl rfl rfl (by first | assumption | exact cload_of (by assumption) rfl) ?_ | refine pops.len rfl rfl rfl rfl rfl rfl rfl rfl (by first | exact SlA.len (by assumption) rfl | exact SlI.len (by assumption) rfl | exact SlS.len (by assumption) rfl | exact Sl.len (by assumption) rfl) ?_)
    refine pops.nil ?_
    refine .n ⟨_, (i + 1, v'), rfl, ⟨rfl, rfl, rfl, rfl, rfl, rfl, trivial⟩, (by show l.length + 1 - (i + 1) < l.length + 1 - i; omega), (by show i + 1 ≤ l.length + 1; omega), g7, b2, Nat.le_trans ((g2.trans g5).trans g6).n hb2, ?_⟩
    show Own h7 v' b2 ((List.range (i + 1)).map _)
    rw [List.range_succ, List.map_append]
    exact hown7
  · repeat (first | refine kthenP.n ?_ | refine kthenP.r ?_ | refine kthenP.e ?_ | refine kblockP.n ?_ | refine kblockP.r ?_ | refine kblockP.e ?_ | refine kblockP.o rfl ?_ | refine Runs.seq ?_ | refine Runs.region ?_ | refine Runs.block ?_ | refine Runs.cond ?_ | refine Runs.skip ?_ | refine Runs.loop ?_ | refine Runs.exit ?_ | refine Runs.ret ?_)
    have hi' : i = l.length + 1 := by omega
    subst hi'
    repeat (first | refine pops.bin rfl rfl rfl rfl rfl rfl (cbin_inc (by omega)) ?_ | refine pops.fl rfl rfl rfl rfl rfl ?_ | refine pops.skip rfl rfl rfl ?_ | refine pops.load rfl rfl rfl rfl rfl (by first | assumption | exact cload_of (by assumption) rfl) ?_ | refine pops.len rfl rfl rfl rfl rfl rfl rfl rfl (by first | exact SlA.len (by assumption) rfl | exact SlI.len (by assumption) rfl | exact SlS.len (by assumption) rfl | exact Sl.len (by assumption) rfl) ?_)
    refine pops.nil ?_
    repeat (first | refine kthenP.n ?_ | refine kthenP.r ?_ | refine kthenP.e ?_ | refine kblockP.n ?_ | refine kblockP.r ?_ | refine kblockP.e ?_ | refine kblockP.o rfl ?_ | refine Runs.seq ?_ | refine Runs.region ?_ | refine Runs.block ?_ | refine Runs.cond ?_ | refine Runs.skip ?_ | refine Runs.loop ?_ | refine Runs.exit ?_ | refine Runs.ret ?_)
    refine pleave.r rfl ?_
    refine ⟨⟨vo, rfl, ?_⟩, g04.trans g2⟩
    show Sl _ _ _ _ (List.map _ (List.map _ _))
    rw [List.map_map]
    exact hown.sl rfl rfl rfl (by simp; omega)
end Go.Proofs.YtcenphnkcifbhaaDoor

set_option maxRecDepth 100000
set_option linter.unusedVariables false
set_option linter.unusedSimpArgs false
namespace Go.Proofs.YtcenphnkcifbhaaDoor
open Go.Cx
variable {w : World} {h : CH}
theorem fn_lawActions : tab.fn 5 = some Tryd.f5 := by kernel_rfl
theorem lawActions_calls {v vl : Value} {t : TabD} {l : List Int} (hv : TabV tab ks h v t) (hl : SlI tab ks.int h vl l) (hlen : TextsLt t.classes) : CalF (X w) 5 [v, vl] h fun r h' => r = .ret (.bool true) := by
  refine CalF.wf fun hwf => ?_
  have hV := hv
  obtain ⟨c, a, x, y, x', y', rfl, ho, hcl, hac, hx, hy, hx', hy'⟩ := hv
  clear hcl hx hy hx' hy'
  simp only [Bool.and_eq_true] at ho
  refine CalF.intro fn_lawActions rfl (Nat.le_of_ble_eq_true rfl) ?_
  repeat (first | refine kthenP.n ?_ | refine kthenP.r ?_ | refine kthenP.e ?_ | refine kblockP.n ?_ | refine kblockP.r ?_ | refine kblockP.e ?_ | refine kblockP.o rfl ?_ | refine Runs.seq ?_ | refine Runs.region ?_ | refine Runs.block ?_ | refine Runs.cond ?_ | refine Runs.skip ?_ | refine Runs.loop ?_ | refine Runs.exit ?_ | refine Runs.ret ?_)
  refine pops.box (cs := [c, a, x, y, x', y']) rfl rfl rfl rfl (by simp [ho]) rfl rfl hwf fun b h1 hb hwf1 g1 hc => ?_
  replace hV := hV.gr hwf g1
  replace hl := Sl.gr hl hwf g1
  replace hac := Sl.gr hac hwf g1
  refine pops.fl rfl rfl rfl rfl rfl ?_
  refine pops.nil ?_
  repeat (first | refine kthenP.n ?_ | refine kthenP.r ?_ | refine kthenP.e ?_ | refine kblockP.n ?_ | refine kblockP.r ?_ | refine kblockP.e ?_ | refine kblockP.o rfl ?_ | refine Runs.seq ?_ | refine Runs.region ?_ | refine Runs.block ?_ | refine Runs.cond ?_ | refine Runs.skip ?_ | refine Runs.loop ?_ | refine Runs.exit ?_ | refine Runs.ret ?_)
  repeat (first | refine pops.bin rfl rfl rfl rfl rfl rfl (cbin_inc (by omega)) ?_ | refine pops.fl rfl rfl rfl rfl rfl ?_ | refine pops.skip rfl rfl rfl ?_ | refine pops.load rfl rfl rfl rfl rfl (by first | assumption | exact cload_of (by assumption) rfl) ?_ | refine pops.len rfl rfl rfl rfl rfl rfl rfl rfl (by first | exact SlA.len (by assumption) rfl | exact SlI.len (by assumption) rfl | exact SlS.len (by assumption) rfl | exact Sl.len (by assumption) rfl) ?_)
  refine pops.callG rfl rfl rfl rfl rfl fn_few rfl rfl rfl (few_calls hV hl) fun h2 hwf2 g2 => ?_
  replace hc := g2.at hwf1 hc
  replace hV := hV.gr hwf1 g2
  replace hl := Sl.gr hl hwf1 g2
  replace hac := Sl.gr hac hwf1 g2
  cases hf : fewB t l with
  | false =>
    repeat (first | refine pops.bin rfl rfl rfl rfl rfl rfl (cbin_inc (by omega)) ?_ | refine pops.fl rfl rfl rfl rfl rfl ?_ | refine pops.skip rfl rfl rfl ?_ | refine pops.load rfl rfl rfl rfl rfl (by first | assumption | exact cload_of (by assumption) rfl) ?_ | refine pops.len rfl rfl rfl rfl rfl rfl rfl rfl (by first | exact SlA.len (by assumption) rfl | exact SlI.len (by assumption) rfl | exact SlS.len (by assumption) rfl | exact Sl.len (by assumption) rfl) ?_)
    refine pops.nil ?_
    repeat (first | refine kthenP.n ?_ | refine kthenP.r ?_ | refine kthenP.e ?_ | refine kblockP.n ?_ | refine kblockP.r ?_ | refine kblockP.e ?_ | refine kblockP.o rfl ?_ | refine Runs.seq ?_ | refine Runs.region ?_ | refine Runs.block ?_ | refine Runs.cond ?_ | refine Runs.skip ?_ | refine Runs.loop ?_ | refine Runs.exit ?_ | refine Runs.ret ?_)
    refine pcond.t rfl ?_
    repeat (first | refine kthenP.n ?_ | refine kthenP.r ?_ | refine kthenP.e ?_ | refine kblockP.n ?_ | refine kblockP.r ?_ | refine kblockP.e ?_ | refine kblockP.o rfl ?_ | refine Runs.seq ?_ | refine Runs.region ?_ | refine Runs.block ?_ | refine Runs.cond ?_ | refine Runs.skip ?_ | refine Runs.loop ?_ | refine Runs.exit ?_ | refine Runs.ret ?_)
    refine pops.callG rfl rfl rfl rfl rfl fn_alive rfl rfl rfl alive_calls fun h3 hwf3 g3 => ?_
    repeat (first | refine pops.bin rfl rfl rfl rfl rfl rfl (cbin_inc (by omega)) ?_ | refine pops.fl rfl rfl rfl rfl rfl ?_ | refine pops.skip rfl rfl rfl ?_ | refine pops.load rfl rfl rfl rfl rfl (by first | assumption | exact cload_of (by assumption) rfl) ?_ | refine pops.len rfl rfl rfl rfl rfl rfl rfl rfl (by first | exact SlA.len (by assumption) rfl | exact SlI.len (by assumption) rfl | exact SlS.len (by assumption) rfl | exact Sl.len (by assumption) rfl) ?_)
    refine pops.nil ?_
    repeat (first | refine kthenP.n ?_ | refine kthenP.r ?_ | refine kthenP.e ?_ | refine kblockP.n ?_ | refine kblockP.r ?_ | refine kblockP.e ?_ | refine kblockP.o rfl ?_ | refine Runs.seq ?_ | refine Runs.region ?_ | refine Runs.block ?_ | refine Runs.cond ?_ | refine Runs.skip ?_ | refine Runs.loop ?_ | refine Runs.exit ?_ | refine Runs.ret ?_)
    refine pleave.r rfl ?_
    rfl
  | true =>
  have hll : l.length ≤ 1000 := by
    unfold fewB at hf
    simp at hf
    omega
  repeat (first | refine pops.bin rfl rfl rfl rfl rfl rfl (cbin_inc (by omega)) ?_ | refine pops.fl rfl rfl rfl rfl rfl ?_ | refine pops.skip rfl rfl rfl ?_ | refine pops.load rfl rfl rfl rfl rfl (by first | assumption | exact cload_of (by assumption) rfl) ?_ | refine pops.len rfl rfl rfl rfl rfl rfl rfl rfl (by first | exact SlA.len (by assumption) rfl | exact SlI.len (by assumption) rfl | exact SlS.len (by assumption) rfl | exact Sl.len (by assumption) rfl) ?_)
  refine pops.nil ?_
  repeat (first | refine kthenP.n ?_ | refine kthenP.r ?_ | refine kthenP.e ?_ | refine kblockP.n ?_ | refine kblockP.r ?_ | refine kblockP.e ?_ | refine kblockP.o rfl ?_ | refine Runs.seq ?_ | refine Runs.region ?_ | refine Runs.block ?_ | refine Runs.cond ?_ | refine Runs.skip ?_ | refine Runs.loop ?_ | refine Runs.exit ?_ | refine Runs.ret ?_)
  refine pcond.f rfl ?_
  repeat (first | refine kthenP.n ?_ | refine kthenP.r ?_ | refine kthenP.e ?_ | refine kblockP.n ?_ | refine kblockP.r ?_ | refine kblockP.e ?_ | refine kblockP.o rfl ?_ | refine Runs.seq ?_ | refine Runs.region ?_ | refine Runs.block ?_ | refine Runs.cond ?_ | refine Runs.skip ?_ | refine Runs.loop ?_ | refine Runs.exit ?_ | refine Runs.ret ?_)
  repeat (first | refine pops.bin rfl rfl rfl rfl rfl rfl (cbin_inc (by omega)) ?_ | refine pops.fl rfl rfl rfl rfl rfl ?_ | refine pops.skip rfl rfl rfl ?_ | refine pops.load rfl rfl rfl rfl rfl (by first | assumption | exact cload_of (by assumption) rfl) ?_ | refine pops.len rfl rfl rfl rfl rfl rfl rfl rfl (by first | exact SlA.len (by assumption) rfl | exact SlI.len (by assumption) rfl | exact SlS.len (by assumption) rfl | exact Sl.len (by assumption) rfl) ?_)
  refine pops.callV rfl rfl rfl rfl rfl fn_Actions rfl rfl ((Actions_calls hV hl hlen hll).monoW fun r h3 hwf3 hh => ?_)
  obtain ⟨⟨ua, rfl, hua⟩, g3⟩ := hh
  replace hc := g3.at hwf2 hc
  replace hV := hV.gr hwf2 g3
  replace hl := Sl.gr hl hwf2 g3
  replace hac := Sl.gr hac hwf2 g3
  refine ⟨_, rfl, ?_⟩
  repeat (first | refine pops.bin rfl rfl rfl rfl rfl rfl (cbin_inc (by omega)) ?_ | refine pops.fl rfl rfl rfl rfl rfl ?_ | refine pops.skip rfl rfl rfl ?_ | refine pops.load rfl rfl rfl rfl rfl (by first | assumption | exact cload_of (by assumption) rfl) ?_ | refine pops.len rfl rfl rfl rfl rfl rfl rfl rfl (by first | exact SlA.len (by assumption) rfl | exact SlI.len (by assumption) rfl | exact SlS.len (by assumption) rfl | exact Sl.len (by assumption) rfl) ?_)
  refine pops.nil ?_
  repeat (first | refine kthenP.n ?_ | refine kthenP.r ?_ | refine kthenP.e ?_ | refine kblockP.n ?_ | refine kblockP.r ?_ | refine kblockP.e ?_ | refine kblockP.o rfl ?_ | refine Runs.seq ?_ | refine Runs.region ?_ | refine Runs.block ?_ | refine Runs.cond ?_ | refine Runs.skip ?_ | refine Runs.loop ?_ | refine Runs.exit ?_ | refine Runs.ret ?_)
  repeat (first | refine pops.bin rfl rfl rfl rfl rfl rfl (cbin_inc (by omega)) ?_ | refine pops.fl rfl rfl rfl rfl rfl ?_ | refine pops.skip rfl rfl rfl ?_ | refine pops.load rfl rfl rfl rfl rfl (by first | assumption | exact cload_of (by assumption) rfl) ?_ | refine pops.len rfl rfl rfl rfl rfl rfl rfl rfl (by first | exact SlA.len (by assumption) rfl | exact SlI.len (by assumption) rfl | exact SlS.len (by assumption) rfl | exact Sl.len (by assumption) rfl) ?_)
  refine pops.nil ?_
  repeat (first | refine kthenP.n ?_ | refine kthenP.r ?_ | refine kthenP.e ?_ | refine kblockP.n ?_ | refine kblockP.r ?_ | refine kblockP.e ?_ | refine kblockP.o rfl ?_ | refine Runs.seq ?_ | refine Runs.region ?_ | refine Runs.block ?_ | refine Runs.cond ?_ | refine Runs.skip ?_ | refine Runs.loop ?_ | refine Runs.exit ?_ | refine Runs.ret ?_)
  have lA := hua.lt
  refine Loops.ind 7 (fun i : Nat => [(1, vl), (2, .pointer (some ⟨b, 0, none⟩)), (4, .bool false), (5, ua), (6, .int .i64 (i : Nat))])
    (fun i h' => i ≤ (ActionsR t l).length ∧ Gr h3 h') (fun i => (ActionsR t l).length - i) 0 (by decide) ⟨rfl, rfl, rfl, rfl, rfl, trivial⟩ ⟨Nat.zero_le _, Gr.refl _⟩ ?_
  rintro i z h' hwf' ⟨hi, g4⟩
  replace hc := g4.at hwf3 hc
  replace hV := hV.gr hwf3 g4
  replace hl := Sl.gr hl hwf3 g4
  replace hac := Sl.gr hac hwf3 g4
  replace hua := Sl.gr hua hwf3 g4
  repeat (first | refine kthenP.n ?_ | refine kthenP.r ?_ | refine kthenP.e ?_ | refine kblockP.n ?_ | refine kblockP.r ?_ | refine kblockP.e ?_ | refine kblockP.o rfl ?_ | refine Runs.seq ?_ | refine Runs.region ?_ | refine Runs.block ?_ | refine Runs.cond ?_ | refine Runs.skip ?_ | refine Runs.loop ?_ | refine Runs.exit ?_ | refine Runs.ret ?_)
  repeat (first | refine pops.bin rfl rfl rfl rfl rfl rfl (cbin_inc (by omega)) ?_ | refine pops.fl rfl rfl rfl rfl rfl ?_ | refine pops.skip rfl rfl rfl ?_ | refine pops.load rfl rfl rfl rfl rfl (by first | assumption | exact cload_of (by assumption) rfl) ?_ | refine pops.len rfl rfl rfl rfl rfl rfl rfl rfl (by first | exact SlA.len (by assumption) rfl | exact SlI.len (by assumption) rfl | exact SlS.len (by assumption) rfl | exact Sl.len (by assumption) rfl) ?_)
  refine pops.nil ?_
  repeat (first | refine kthenP.n ?_ | refine kthenP.r ?_ | refine kthenP.e ?_ | refine kblockP.n ?_ | refine kblockP.r ?_ | refine kblockP.e ?_ | refine kblockP.o rfl ?_ | refine Runs.seq ?_ | refine Runs.region ?_ | refine Runs.block ?_ | refine Runs.cond ?_ | refine Runs.skip ?_ | refine Runs.loop ?_ | refine Runs.exit ?_ | refine Runs.ret ?_)
  refine pcond.d (p := (i : Int) < ((ActionsR t l).length : Nat)) rfl (fun hlt => ?_) (fun hge => ?_)
  · have hU : UsableP t l := by
      cases hU : tt (UsableP t l) with
      | true => exact tt_iff.1 hU
      | false =>
        unfold ActionsR at hlt
        rw [hU] at hlt
        simp at hlt
        omega
    have hA : ActionsR t l = (List.range (l.length + 1)).map fun i => (decS t (st t.left.next l i) (rst t.right.next l (l.length - i))).1 := by
      unfold ActionsR
      rw [tt_t hU]
      rfl
    have hil : i ≤ l.length := by
      rw [hA] at hlt
      simp at hlt
      omega
    have hAi : (ActionsR t l)[i]? = some (decS t (st t.left.next l i) (rst t.right.next l (l.length - i))).1 := by
      rw [hA, List.getElem?_map, List.getElem?_range (by omega)]
      rfl
    have hD : DecideR t l (i : Int) = decS t (st t.left.next l i) (rst t.right.next l (l.length - i)) := by
      unfold DecideR
      rw [tt_t (by exact ⟨by omega, by omega, hU⟩)]
      rfl
    have hd := decS_ok hU.1 (st_ok hU.1.2.2.2.1 hU.2 i hil) (rst_ok hU.1.2.2.2.2 hU.2 (l.length - i) (by omega))
    repeat (first | refine kthenP.n ?_ | refine kthenP.r ?_ | refine kthenP.e ?_ | refine kblockP.n ?_ | refine kblockP.r ?_ | refine kblockP.e ?_ | refine kblockP.o rfl ?_ | refine Runs.seq ?_ | refine Runs.region ?_ | refine Runs.block ?_ | refine Runs.cond ?_ | refine Runs.skip ?_ | refine Runs.loop ?_ | refine Runs.exit ?_ | refine Runs.ret ?_)
    repeat (first | refine pops.bin rfl rfl rfl rfl rfl rfl (cbin_inc (by omega)) ?_ | refine pops.fl rfl rfl rfl rfl rfl ?_ | refine pops.skip rfl rfl rfl ?_ | refine pops.load rfl rfl rfl rfl rfl (by first | assumption | exact cload_of (by assumption) rfl) ?_ | refine pops.len rfl rfl rfl rfl rfl rfl rfl rfl (by first | exact SlA.len (by assumption) rfl | exact SlI.len (by assumption) rfl | exact SlS.len (by assumption) rfl | exact Sl.len (by assumption) rfl) ?_)
    refine pops.callG rfl rfl rfl rfl rfl fn_Decide rfl rfl rfl (Decide_calls (i : Int) hV hl hlen hll) fun h5 hwf5 g5 => ?_
    replace hc := g5.at hwf' hc
    replace hac := Sl.gr hac hwf' g5
    replace hua := Sl.gr hua hwf' g5
    rw [hD]
    generalize decS t (st t.left.next l i) (rst t.right.next l (l.length - i)) = d at hAi hd
    obtain ⟨da, dr⟩ := d
    simp only at hAi hd
    repeat (first | refine pops.bin rfl rfl rfl rfl rfl rfl (cbin_inc (by omega)) ?_ | refine pops.fl rfl rfl rfl rfl rfl ?_ | refine pops.skip rfl rfl rfl ?_ | refine pops.load rfl rfl rfl rfl rfl (by first | assumption | exact cload_of (by assumption) rfl) ?_ | refine pops.len rfl rfl rfl rfl rfl rfl rfl rfl (by first | exact SlA.len (by assumption) rfl | exact SlI.len (by assumption) rfl | exact SlS.len (by assumption) rfl | exact Sl.len (by assumption) rfl) ?_)
    refine pops.nil ?_
    repeat (first | refine kthenP.n ?_ | refine kthenP.r ?_ | refine kthenP.e ?_ | refine kblockP.n ?_ | refine kblockP.r ?_ | refine kblockP.e ?_ | refine kblockP.o rfl ?_ | refine Runs.seq ?_ | refine Runs.region ?_ | refine Runs.block ?_ | refine Runs.cond ?_ | refine Runs.skip ?_ | refine Runs.loop ?_ | refine Runs.exit ?_ | refine Runs.ret ?_)
    repeat (first | refine pops.bin rfl rfl rfl rfl rfl rfl (cbin_inc (by omega)) ?_ | refine pops.fd rfl rfl rfl rfl rfl rfl ?_ | refine pops.skip rfl rfl rfl ?_ | refine pops.load rfl rfl rfl rfl rfl (by first | assumption | exact cload_of (by assumption) rfl) ?_ | refine pops.len rfl rfl rfl rfl rfl rfl rfl rfl (by first | exact SlA.len (by assumption) rfl | exact SlI.len (by assumption) rfl | exact SlS.len (by assumption) rfl | exact Sl.len (by assumption) rfl) ?_)
    refine pops.atI (f := Value.int .i64) rfl rfl rfl rfl rfl rfl rfl hua hAi fun p hp => ?_
    repeat (first | refine pops.bin rfl rfl rfl rfl rfl rfl (cbin_inc (by omega)) ?_ | refine pops.fd rfl rfl rfl rfl rfl rfl ?_ | refine pops.skip rfl rfl rfl ?_ | refine pops.load rfl rfl rfl rfl rfl (by first | assumption | exact cload_of (by assumption) rfl) ?_ | refine pops.len rfl rfl rfl rfl rfl rfl rfl rfl (by first | exact SlA.len (by assumption) rfl | exact SlI.len (by assumption) rfl | exact SlS.len (by assumption) rfl | exact Sl.len (by assumption) rfl) ?_)
    refine pops.cmp rfl rfl rfl rfl rfl (fun q => ?_) (fun q => ?_)
    · simp at q
    clear q
    repeat (first | refine pops.bin rfl rfl rfl rfl rfl rfl (cbin_inc (by omega)) ?_ | refine pops.fd rfl rfl rfl rfl rfl rfl ?_ | refine pops.skip rfl rfl rfl ?_ | refine pops.load rfl rfl rfl rfl rfl (by first | assumption | exact cload_of (by assumption) rfl) ?_ | refine pops.len rfl rfl rfl rfl rfl rfl rfl rfl (by first | exact SlA.len (by assumption) rfl | exact SlI.len (by assumption) rfl | exact SlS.len (by assumption) rfl | exact Sl.len (by assumption) rfl) ?_)
    refine pops.cmp rfl rfl rfl rfl rfl (fun q => ?_) (fun q => ?_)
    · simp at q
      rcases hd with ⟨h1, h2, h3⟩ | ⟨h1, h2⟩ <;> omega
    clear q
    repeat (first | refine pops.bin rfl rfl rfl rfl rfl rfl (cbin_inc (by omega)) ?_ | refine pops.fd rfl rfl rfl rfl rfl rfl ?_ | refine pops.skip rfl rfl rfl ?_ | refine pops.load rfl rfl rfl rfl rfl (by first | assumption | exact cload_of (by assumption) rfl) ?_ | refine pops.len rfl rfl rfl rfl rfl rfl rfl rfl (by first | exact SlA.len (by assumption) rfl | exact SlI.len (by assumption) rfl | exact SlS.len (by assumption) rfl | exact Sl.len (by assumption) rfl) ?_)
    refine pops.cmp rfl rfl rfl rfl rfl (fun q => ?_) (fun q => ?_)
    · simp at q
      rcases hd with ⟨h1, h2, h3⟩ | ⟨h1, h2⟩ <;> omega
    clear q
    repeat (first | refine pops.bin rfl rfl rfl rfl rfl rfl (cbin_inc (by omega)) ?_ | refine pops.fd rfl rfl rfl rfl rfl rfl ?_ | refine pops.skip rfl rfl rfl ?_ | refine pops.load rfl rfl rfl rfl rfl (by first | assumption | exact cload_of (by assumption) rfl) ?_ | refine pops.len rfl rfl rfl rfl rfl rfl rfl rfl (by first | exact SlA.len (by assumption) rfl | exact SlI.len (by assumption) rfl | exact SlS.len (by assumption) rfl | exact Sl.len (by assumption) rfl) ?_)
    rcases hd with ⟨h0, h1', h2'⟩ | ⟨h1', h2'⟩
    · obtain ⟨k, rfl⟩ : ∃ k : Nat, dr = k := Int.eq_ofNat_of_zero_le h0
      refine pops.cmp rfl rfl rfl rfl rfl (fun q => ?_) (fun q => ?_)
      · repeat (first | refine pops.bin rfl rfl rfl rfl rfl rfl (cbin_inc (by omega)) ?_ | refine pops.fd rfl rfl rfl rfl rfl rfl ?_ | refine pops.skip rfl rfl rfl ?_ | refine pops.load rfl rfl rfl rfl rfl (by first | assumption | exact cload_of (by assumption) rfl) ?_ | refine pops.len rfl rfl rfl rfl rfl rfl rfl rfl (by first | exact SlA.len (by assumption) rfl | exact SlI.len (by assumption) rfl | exact SlS.len (by assumption) rfl | exact Sl.len (by assumption) rfl) ?_)
        refine pops.atI (i := k) (f := Value.int .i64) rfl rfl rfl rfl rfl rfl rfl hac (by simpa using h2') fun p hp => ?_
        repeat (first | refine pops.bin rfl rfl rfl rfl rfl rfl (cbin_inc (by omega)) ?_ | refine pops.fd rfl rfl rfl rfl rfl rfl ?_ | refine pops.skip rfl rfl rfl ?_ | refine pops.load rfl rfl rfl rfl rfl (by first | assumption | exact cload_of (by assumption) rfl) ?_ | refine pops.len rfl rfl rfl rfl rfl rfl rfl rfl (by first | exact SlA.len (by assumption) rfl | exact SlI.len (by assumption) rfl | exact SlS.len (by assumption) rfl | exact Sl.len (by assumption) rfl) ?_)
        refine pops.cmp rfl rfl rfl rfl rfl (fun q => ?_) (fun q => ?_)
        · simp at q
        clear q
        repeat (first | refine pops.bin rfl rfl rfl rfl rfl rfl (cbin_inc (by omega)) ?_ | refine pops.fd rfl rfl rfl rfl rfl rfl ?_ | refine pops.skip rfl rfl rfl ?_ | refine pops.load rfl rfl rfl rfl rfl (by first | assumption | exact cload_of (by assumption) rfl) ?_ | refine pops.len rfl rfl rfl rfl rfl rfl rfl rfl (by first | exact SlA.len (by assumption) rfl | exact SlI.len (by assumption) rfl | exact SlS.len (by assumption) rfl | exact Sl.len (by assumption) rfl) ?_)
        refine pops.cmp rfl rfl rfl rfl rfl (fun q => ?_) (fun q => ?_)
        · simp at q <;> omega
        repeat (first | refine pops.bin rfl rfl rfl rfl rfl rfl (cbin_inc (by omega)) ?_ | refine pops.fl rfl rfl rfl rfl rfl ?_ | refine pops.skip rfl rfl rfl ?_ | refine pops.load rfl rfl rfl rfl rfl (by first | assumption | exact cload_of (by assumption) rfl) ?_ | refine pops.len rfl rfl rfl rfl rfl rfl rfl rfl (by first | exact SlA.len (by assumption) rfl | exact SlI.len (by assumption) rfl | exact SlS.len (by assumption) rfl | exact Sl.len (by assumption) rfl) ?_)
        refine pops.nil ?_
        repeat (first | refine kthenP.n ?_ | refine kthenP.r ?_ | refine kthenP.e ?_ | refine kblockP.n ?_ | refine kblockP.r ?_ | refine kblockP.e ?_ | refine kblockP.o rfl ?_ | refine Runs.seq ?_ | refine Runs.region ?_ | refine Runs.block ?_ | refine Runs.cond ?_ | refine Runs.skip ?_ | refine Runs.loop ?_ | refine Runs.exit ?_ | refine Runs.ret ?_)
        refine pcond.f rfl ?_
        repeat (first | refine kthenP.n ?_ | refine kthenP.r ?_ | refine kthenP.e ?_ | refine kblockP.n ?_ | refine kblockP.r ?_ | refine kblockP.e ?_ | refine kblockP.o rfl ?_ | refine Runs.seq ?_ | refine Runs.region ?_ | refine Runs.block ?_ | refine Runs.cond ?_ | refine Runs.skip ?_ | refine Runs.loop ?_ | refine Runs.exit ?_ | refine Runs.ret ?_)
        repeat (first | refine pops.bin rfl rfl rfl rfl rfl rfl (cbin_inc (by omega)) ?_ | refine pops.fl rfl rfl rfl rfl rfl ?_ | refine pops.skip rfl rfl rfl ?_ | refine pops.load rfl rfl rfl rfl rfl (by first | assumption | exact cload_of (by assumption) rfl) ?_ | refine pops.len rfl rfl rfl rfl rfl rfl rfl rfl (by first | exact SlA.len (by assumption) rfl | exact SlI.len (by assumption) rfl | exact SlS.len (by assumption) rfl | exact Sl.len (by assumption) rfl) ?_)
        refine pops.nil ?_
        exact .n ⟨_, i + 1, rfl, ⟨rfl, rfl, rfl, rfl, rfl, trivial⟩, (by show (ActionsR t l).length - (i + 1) < (ActionsR t l).length - i; omega), by omega, g4.trans g5⟩
      · simp at q <;> omega
    · subst h1' h2'
      refine pops.cmp rfl rfl rfl rfl rfl (fun q => ?_) (fun q => ?_)
      · simp at q
      clear q
      repeat (first | refine pops.bin rfl rfl rfl rfl rfl rfl (cbin_inc (by omega)) ?_ | refine pops.fd rfl rfl rfl rfl rfl rfl ?_ | refine pops.skip rfl rfl rfl ?_ | refine pops.load rfl rfl rfl rfl rfl (by first | assumption | exact cload_of (by assumption) rfl) ?_ | refine pops.len rfl rfl rfl rfl rfl rfl rfl rfl (by first | exact SlA.len (by assumption) rfl | exact SlI.len (by assumption) rfl | exact SlS.len (by assumption) rfl | exact Sl.len (by assumption) rfl) ?_)
      refine pops.cmp rfl rfl rfl rfl rfl (fun q => ?_) (fun q => ?_)
      · repeat (first | refine pops.bin rfl rfl rfl rfl rfl rfl (cbin_inc (by omega)) ?_ | refine pops.fd rfl rfl rfl rfl rfl rfl ?_ | refine pops.skip rfl rfl rfl ?_ | refine pops.load rfl rfl rfl rfl rfl (by first | assumption | exact cload_of (by assumption) rfl) ?_ | refine pops.len rfl rfl rfl rfl rfl rfl rfl rfl (by first | exact SlA.len (by assumption) rfl | exact SlI.len (by assumption) rfl | exact SlS.len (by assumption) rfl | exact Sl.len (by assumption) rfl) ?_)
        refine pops.cmp rfl rfl rfl rfl rfl (fun q => ?_) (fun q => ?_)
        · simp at q <;> omega
        repeat (first | refine pops.bin rfl rfl rfl rfl rfl rfl (cbin_inc (by omega)) ?_ | refine pops.fl rfl rfl rfl rfl rfl ?_ | refine pops.skip rfl rfl rfl ?_ | refine pops.load rfl rfl rfl rfl rfl (by first | assumption | exact cload_of (by assumption) rfl) ?_ | refine pops.len rfl rfl rfl rfl rfl rfl rfl rfl (by first | exact SlA.len (by assumption) rfl | exact SlI.len (by assumption) rfl | exact SlS.len (by assumption) rfl | exact Sl.len (by assumption) rfl) ?_)
        refine pops.nil ?_
        repeat (first | refine kthenP.n ?_ | refine kthenP.r ?_ | refine kthenP.e ?_ | refine kblockP.n ?_ | refine kblockP.r ?_ | refine kblockP.e ?_ | refine kblockP.o rfl ?_ | refine Runs.seq ?_ | refine Runs.region ?_ | refine Runs.block ?_ | refine Runs.cond ?_ | refine Runs.skip ?_ | refine Runs.loop ?_ | refine Runs.exit ?_ | refine Runs.ret ?_)
        refine pcond.f rfl ?_
        repeat (first | refine kthenP.n ?_ | refine kthenP.r ?_ | refine kthenP.e ?_ | refine kblockP.n ?_ | refine kblockP.r ?_ | refine kblockP.e ?_ | refine kblockP.o rfl ?_ | refine Runs.seq ?_ | refine Runs.region ?_ | refine Runs.block ?_ | refine Runs.cond ?_ | refine Runs.skip ?_ | refine Runs.loop ?_ | refine Runs.exit ?_ | refine Runs.ret ?_)
        repeat (first | refine pops.bin rfl rfl rfl rfl rfl rfl (cbin_inc (by omega)) ?_ | refine pops.fl rfl rfl rfl rfl rfl ?_ | refine pops.skip rfl rfl rfl ?_ | refine pops.load rfl rfl rfl rfl rfl (by first | assumption | exact cload_of (by assumption) rfl) ?_ | refine pops.len rfl rfl rfl rfl rfl rfl rfl rfl (by first | exact SlA.len (by assumption) rfl | exact SlI.len (by assumption) rfl | exact SlS.len (by assumption) rfl | exact Sl.len (by assumption) rfl) ?_)
        refine pops.nil ?_
        exact .n ⟨_, i + 1, rfl, ⟨rfl, rfl, rfl, rfl, rfl, trivial⟩, (by show (ActionsR t l).length - (i + 1) < (ActionsR t l).length - i; omega), by omega, g4.trans g5⟩
      · simp at q
  · repeat (first | refine kthenP.n ?_ | refine kthenP.r ?_ | refine kthenP.e ?_ | refine kblockP.n ?_ | refine kblockP.r ?_ | refine kblockP.e ?_ | refine kblockP.o rfl ?_ | refine Runs.seq ?_ | refine Runs.region ?_ | refine Runs.block ?_ | refine Runs.cond ?_ | refine Runs.skip ?_ | refine Runs.loop ?_ | refine Runs.exit ?_ | refine Runs.ret ?_)
    repeat (first | refine pops.bin rfl rfl rfl rfl rfl rfl (cbin_inc (by omega)) ?_ | refine pops.fl rfl rfl rfl rfl rfl ?_ | refine pops.skip rfl rfl rfl ?_ | refine pops.load rfl rfl rfl rfl rfl (by first | assumption | exact cload_of (by assumption) rfl) ?_ | refine pops.len rfl rfl rfl rfl rfl rfl rfl rfl (by first | exact SlA.len (by assumption) rfl | exact SlI.len (by assumption) rfl | exact SlS.len (by assumption) rfl | exact Sl.len (by assumption) rfl) ?_)
    refine pops.callG rfl rfl rfl rfl rfl fn_Decide rfl rfl rfl (Decide_calls ((l.length + 1 : Nat) : Int) hV hl hlen hll) fun h5 hwf5 g5 => ?_
    replace hc := g5.at hwf' hc
    replace hV := hV.gr hwf' g5
    replace hl := Sl.gr hl hwf' g5
    replace hua := Sl.gr hua hwf' g5
    have e1 : DecideR t l ((l.length + 1 : Nat) : Int) = (2, -1) := by
      unfold DecideR
      rw [tt_f (fun hh => by omega)]
      rfl
    rw [e1]
    repeat (first | refine pops.bin rfl rfl rfl rfl rfl rfl (cbin_inc (by omega)) ?_ | refine pops.fl rfl rfl rfl rfl rfl ?_ | refine pops.skip rfl rfl rfl ?_ | refine pops.load rfl rfl rfl rfl rfl (by first | assumption | exact cload_of (by assumption) rfl) ?_ | refine pops.len rfl rfl rfl rfl rfl rfl rfl rfl (by first | exact SlA.len (by assumption) rfl | exact SlI.len (by assumption) rfl | exact SlS.len (by assumption) rfl | exact Sl.len (by assumption) rfl) ?_)
    refine pops.nil ?_
    repeat (first | refine kthenP.n ?_ | refine kthenP.r ?_ | refine kthenP.e ?_ | refine kblockP.n ?_ | refine kblockP.r ?_ | refine kblockP.e ?_ | refine kblockP.o rfl ?_ | refine Runs.seq ?_ | refine Runs.region ?_ | refine Runs.block ?_ | refine Runs.cond ?_ | refine Runs.skip ?_ | refine Runs.loop ?_ | refine Runs.exit ?_ | refine Runs.ret ?_)
    repeat (first | refine pops.bin rfl rfl rfl rfl rfl rfl (cbin_inc (by omega)) ?_ | refine pops.fl rfl rfl rfl rfl rfl ?_ | refine pops.skip rfl rfl rfl ?_ | refine pops.load rfl rfl rfl rfl rfl (by first | assumption | exact cload_of (by assumption) rfl) ?_ | refine pops.len rfl rfl rfl rfl rfl rfl rfl rfl (by first | exact SlA.len (by assumption) rfl | exact SlI.len (by assumption) rfl | exact SlS.len (by assumption) rfl | exact Sl.len (by assumption) rfl) ?_)
    refine pops.callG rfl rfl rfl rfl rfl fn_Decide rfl rfl rfl (Decide_calls (-1) hV hl hlen hll) fun h6 hwf6 g6 => ?_
    replace hua := Sl.gr hua hwf5 g6
    replace hl := Sl.gr hl hwf5 g6
    have e2 : DecideR t l (-1) = (2, -1) := by
      unfold DecideR
      rw [tt_f (fun hh => by omega)]
      rfl
    rw [e2]
    repeat (first | refine pops.bin rfl rfl rfl rfl rfl rfl (cbin_inc (by omega)) ?_ | refine pops.fl rfl rfl rfl rfl rfl ?_ | refine pops.skip rfl rfl rfl ?_ | refine pops.load rfl rfl rfl rfl rfl (by first | assumption | exact cload_of (by assumption) rfl) ?_ | refine pops.len rfl rfl rfl rfl rfl rfl rfl rfl (by first | exact SlA.len (by assumption) rfl | exact SlI.len (by assumption) rfl | exact SlS.len (by assumption) rfl | exact Sl.len (by assumption) rfl) ?_)
    refine pops.nil ?_
    repeat (first | refine kthenP.n ?_ | refine kthenP.r ?_ | refine kthenP.e ?_ | refine kblockP.n ?_ | refine kblockP.r ?_ | refine kblockP.e ?_ | refine kblockP.o rfl ?_ | refine Runs.seq ?_ | refine Runs.region ?_ | refine Runs.block ?_ | refine Runs.cond ?_ | refine Runs.skip ?_ | refine Runs.loop ?_ | refine Runs.exit ?_ | refine Runs.ret ?_)
    have hlen2 : (ActionsR t l).length = 0 ∨ (ActionsR t l).length = l.length + 1 := by
      unfold ActionsR
      cases tt (UsableP t l) <;> simp
    repeat (first | refine pops.bin rfl rfl rfl rfl rfl rfl (cbin_inc (by omega)) ?_ | refine pops.fd rfl rfl rfl rfl rfl rfl ?_ | refine pops.skip rfl rfl rfl ?_ | refine pops.load rfl rfl rfl rfl rfl (by first | assumption | exact cload_of (by assumption) rfl) ?_ | refine pops.len rfl rfl rfl rfl rfl rfl rfl rfl (by first | exact SlA.len (by assumption) rfl | exact SlI.len (by assumption) rfl | exact SlS.len (by assumption) rfl | exact Sl.len (by assumption) rfl) ?_)
    refine pops.cmp rfl rfl rfl rfl rfl (fun q => ?_) (fun q => ?_)
    · repeat (first | refine pops.bin rfl rfl rfl rfl rfl rfl (cbin_inc (by omega)) ?_ | refine pops.fl rfl rfl rfl rfl rfl ?_ | refine pops.skip rfl rfl rfl ?_ | refine pops.load rfl rfl rfl rfl rfl (by first | assumption | exact cload_of (by assumption) rfl) ?_ | refine pops.len rfl rfl rfl rfl rfl rfl rfl rfl (by first | exact SlA.len (by assumption) rfl | exact SlI.len (by assumption) rfl | exact SlS.len (by assumption) rfl | exact Sl.len (by assumption) rfl) ?_)
      refine pops.callG rfl rfl rfl rfl rfl fn_alive rfl rfl rfl alive_calls fun h7 hwf7 g7 => ?_
      repeat (first | refine pops.bin rfl rfl rfl rfl rfl rfl (cbin_inc (by omega)) ?_ | refine pops.fl rfl rfl rfl rfl rfl ?_ | refine pops.skip rfl rfl rfl ?_ | refine pops.load rfl rfl rfl rfl rfl (by first | assumption | exact cload_of (by assumption) rfl) ?_ | refine pops.len rfl rfl rfl rfl rfl rfl rfl rfl (by first | exact SlA.len (by assumption) rfl | exact SlI.len (by assumption) rfl | exact SlS.len (by assumption) rfl | exact Sl.len (by assumption) rfl) ?_)
      refine pops.nil ?_
      repeat (first | refine kthenP.n ?_ | refine kthenP.r ?_ | refine kthenP.e ?_ | refine kblockP.n ?_ | refine kblockP.r ?_ | refine kblockP.e ?_ | refine kblockP.o rfl ?_ | refine Runs.seq ?_ | refine Runs.region ?_ | refine Runs.block ?_ | refine Runs.cond ?_ | refine Runs.skip ?_ | refine Runs.loop ?_ | refine Runs.exit ?_ | refine Runs.ret ?_)
      refine pleave.r rfl ?_
      rfl
    · repeat (first | refine pops.bin rfl rfl rfl rfl rfl rfl (cbin_inc (by omega)) ?_ | refine pops.fd rfl rfl rfl rfl rfl rfl ?_ | refine pops.skip rfl rfl rfl ?_ | refine pops.load rfl rfl rfl rfl rfl (by first | assumption | exact cload_of (by assumption) rfl) ?_ | refine pops.len rfl rfl rfl rfl rfl rfl rfl rfl (by first | exact SlA.len (by assumption) rfl | exact SlI.len (by assumption) rfl | exact SlS.len (by assumption) rfl | exact Sl.len (by assumption) rfl) ?_)
      refine pops.cmp rfl rfl rfl rfl rfl (fun q2 => ?_) (fun q2 => ?_)
      · repeat (first | refine pops.bin rfl rfl rfl rfl rfl rfl (cbin_inc (by omega)) ?_ | refine pops.fl rfl rfl rfl rfl rfl ?_ | refine pops.skip rfl rfl rfl ?_ | refine pops.load rfl rfl rfl rfl rfl (by first | assumption | exact cload_of (by assumption) rfl) ?_ | refine pops.len rfl rfl rfl rfl rfl rfl rfl rfl (by first | exact SlA.len (by assumption) rfl | exact SlI.len (by assumption) rfl | exact SlS.len (by assumption) rfl | exact Sl.len (by assumption) rfl) ?_)
        refine pops.callG rfl rfl rfl rfl rfl fn_alive rfl rfl rfl alive_calls fun h7 hwf7 g7 => ?_
        repeat (first | refine pops.bin rfl rfl rfl rfl rfl rfl (cbin_inc (by omega)) ?_ | refine pops.fl rfl rfl rfl rfl rfl ?_ | refine pops.skip rfl rfl rfl ?_ | refine pops.load rfl rfl rfl rfl rfl (by first | assumption | exact cload_of (by assumption) rfl) ?_ | refine pops.len rfl rfl rfl rfl rfl rfl rfl rfl (by first | exact SlA.len (by assumption) rfl | exact SlI.len (by assumption) rfl | exact SlS.len (by assumption) rfl | exact Sl.len (by assumption) rfl) ?_)
        refine pops.nil ?_
        repeat (first | refine kthenP.n ?_ | refine kthenP.r ?_ | refine kthenP.e ?_ | refine kblockP.n ?_ | refine kblockP.r ?_ | refine kblockP.e ?_ | refine kblockP.o rfl ?_ | refine Runs.seq ?_ | refine Runs.region ?_ | refine Runs.block ?_ | refine Runs.cond ?_ | refine Runs.skip ?_ | refine Runs.loop ?_ | refine Runs.exit ?_ | refine Runs.ret ?_)
        refine pleave.r rfl ?_
        rfl
      · have q' := of_decide_eq_false q
        have q2' := of_decide_eq_false q2
        omega
end Go.Proofs.YtcenphnkcifbhaaDoor

set_option maxRecDepth 100000
set_option linter.unusedVariables false
set_option linter.unusedSimpArgs false
namespace Go.Proofs.YtcenphnkcifbhaaDoor
open Go.Cx
open Go.ChangeShapes Go.WideShapes Go.ChangeAt Go.RowKit
namespace of_BreakautoActions
theorem own : ownKnob Tryd.prog.godebug = none := by kernel_rfl
theorem kids : Kids Tryd.prog (· < Tryd.prog.types.size) := kids_rows (by kernel_rfl) (by kernel_rfl)
theorem full : ∀ t e, t < Tryd.prog.types.size → Tryd.prog.underlying t = some (.slice e) → 0 < Tryd.prog.cellsOf e := slices_full_of Tryd.prog (by kernel_rfl)
theorem tys : TabTys tab ks 28 26 22 24 :=
  ⟨⟨_, rfl, rfl⟩, ⟨_, rfl, rfl⟩, rfl, rfl, rfl, rfl, rfl, rfl, rfl, rfl⟩
/-- Cells of a list of numbers. -/
def cellsD : DataW Unit → Array Value
  | .agg l => (l.map fun x => match x with
    | .lit (.int k n) => Value.int k n
    | _ => Value.nilFunc).toArray
  | _ => #[]
def layCells (d : DataW Unit) : Obj → Obj
  | .cells _ t frozen => .cells (cellsD d) t frozen
  | o => o
/-- A world in which the listed variables hold what their text lays. -/
noncomputable def laidWorld (os : Os) : World :=
  { World.holding Tryd.prog os ⟨#[], #[], []⟩ with heap := (((World.holding Tryd.prog os ⟨#[], #[], []⟩).heap.modify 0 (layCells Rows.laid_internal_strconv_uint64pow10)).modify 1 (layCells Rows.laid_math_bits_deBruijn32tab)).modify 2 (layCells Rows.laid_math_bits_deBruijn64tab) }
def nilTable : Value := .agg #[.slice none 0 0, .slice none 0 0, .slice none 0 0, .slice none 0 0, .slice none 0 0, .slice none 0 0]
def nilTableD {H : Type} : DataW H := .agg [.nil, .nil, .agg [.nil, .nil], .agg [.nil, .nil]]
theorem typed : ∀ t ∈ Tryd.f5.params.toList, tyOk tab 6 t = true := by
  rw [Tryd.params5]
  intro t ht
  have : t ∈ ([28, 23] : List Nat) := ht
  simp only [List.mem_cons, List.not_mem_nil, or_false] at this
  rcases this with rfl | rfl
  · exact (show tyOk tab 6 28 = true by kernel_rfl)
  · exact (show tyOk tab 6 23 = true by kernel_rfl)
theorem contract (H : Type) (enc : TypeId × Value → H) (W : World) (base : Nat) (args : Array Value) (ds gs : List (DataW H)) (before : List MemPlace)
    (hval : ∀ (j : Nat) t v, Tryd.f5.params[j]? = some t → args[j]? = some v → Value.okWide Tryd.prog W .any base t v)
    (hW : DataW.Whole enc Tryd.prog Tryd.f5.params.toList Rows.breakautoActionsSpec.vars false W args.toList ds gs before) :
    Calls Tryd.prog 5 args W fun e W' => ∃ v, e = .returned v ∧ Rows.breakautoActionsSpec.post enc Tryd.prog Tryd.f5 false true false false W args v W' := by
  have hW' := hW
  obtain ⟨p, q, hA, hV, rfl, hfz, hnd⟩ := hW
  have hA1 : DataW.TrodAll enc Tryd.prog W 0 (fun _ => true) true [28, 23] args.toList ds p := by
    have := hA
    rw [Tryd.params5] at this
    exact this
  obtain ⟨v0, vs0, d0, ds0, p0, q0, hargs0, rfl, rfl, h0, r0⟩ := trodAll_cons hA1
  obtain ⟨v1, vs1, d1, ds1, p1, q1, hargs1, rfl, rfl, h1, r1⟩ := trodAll_cons r0
  obtain ⟨rfl, rfl, rfl⟩ := trodAll_nil r1
  rw [Tryd.params5] at hval
  have hargs : args = #[v0, v1] := by cases args; simp_all
  subst hargs
  refine (law_calls (f := 5) tab_ok typed hA fun h cvs hh => ?_).mono fun e W' ⟨he, hb⟩ => ⟨_, he, post_law hW' rfl rfl rfl Tryd.underlying4 kids full (by rw [Tryd.params5]; decide) hb⟩
  rw [Tryd.params5] at hh
  match cvs, hh with
  | [c0, c1], ⟨⟨e0, n0⟩, ⟨⟨e1, n1⟩, _⟩⟩ =>
    obtain ⟨t, ht, hlen⟩ := tab_of tys e0
    obtain ⟨l, hl⟩ := ints_arg (t := 23) (el := 3) rfl rfl rfl (n1 (notAgg_slice Tryd.underlying23 (hval 1 _ _ rfl rfl))) e1
    exact lawActions_calls ht hl hlen
theorem laid_met (os : Os) : laidMet Tryd.prog Rows.breakautoActionsRow.laid ((laidWorld os).forCall (fun _ _ => 0) ⟨#[], #[nilTable, .slice none 0 0], []⟩).memory :=
  laidMet_of_run' 8 (by kernel_rfl) (by kernel_rfl)
theorem reads (os : Os) {H : Type} (enc : TypeId × Value → H) : ∃ places, DataW.whole enc Tryd.prog ((laidWorld os).forCall (fun _ _ => 0) ⟨#[], #[nilTable, .slice none 0 0], []⟩).memory Tryd.f5.params.toList Rows.breakautoActionsSpec.vars false (#[nilTable, .slice none 0 0] : Array Value).toList 8 = some ([nilTableD, .nil], [], places) :=
  ⟨[], by kernel_rfl⟩
theorem lifted (os : Os) (started : os.Started) (H : Type) (enc : TypeId × Value → H) (F : Stop.Interp) :
    ReturnsInHanded {} Tryd.checked os 5 .any ((OpenSpec.ofChange Rows.breakautoActionsSpec).preRow enc Tryd.prog Tryd.f5 Rows.breakautoActionsRow.domain false Rows.breakautoActionsRow.laid) (((OpenSpec.ofChange Rows.breakautoActionsSpec).at F).post enc Tryd.prog Tryd.f5 false true false false) := by
  obtain ⟨places, hx⟩ := reads os enc
  refine returnsInHanded_of_row (C := Tryd.checked) (s := OpenSpec.ofChange Rows.breakautoActionsSpec) own started (by kernel_rfl) Tryd.func5
    (witness_row_at (enc := enc) (C := Tryd.checked) false (laidWorld os) #[nilTable, .slice none 0 0] rfl (by kernel_rfl) (by kernel_rfl) (by kernel_rfl)
      (OpenSpec.preRow_of_cond 8 hx (by kernel_rfl) (fun k hk => by cases hk) (by kernel_rfl) (laid_met os))) ?_
  intro W base args ds gs before hval hW _ _ _ hL _ _
  exact contract H enc W base args ds gs before hval hW
theorem said : Rows.BreakautoActionsSaid :=
  OpenClaim.holds_of_cond 5 Tryd.f5 rfl rfl rfl rfl rfl rfl rfl ⟨rfl, rfl, rfl, rfl, rfl⟩ rfl rfl rfl rfl rfl (by kernel_rfl) Tryd.func5 (by kernel_rfl)
    (of_decide_eq_true (by kernel_rfl)) (by unfold Func.isWrapper; first | (rw [if_pos (by decide +kernel)]; kernel_rfl) | (rw [if_neg (by decide +kernel)]; exact ⟨rfl, rfl⟩))
    (fun os started H enc _ F => by rw [OpenClaim.pre_eq_preRow]; exact lifted os started H enc F)
theorem plain (f : FuncId) (fn : Func) (hf : Tryd.pinned.checked.prog.funcNamed "unicodetext/unicodetextlaw29.BreakautoActions" = some f) (hfn : Tryd.pinned.checked.prog.funcs[f]? = some fn) :
    false = Tryd.pinned.checked.prog.looks [] ∧ ∀ (j : Nat) t, fn.params[j]? = some t → Tryd.pinned.checked.prog.wantsStandIn t = false := by
  obtain rfl : f = 5 := Option.some.inj ((show Tryd.prog.funcNamed "unicodetext/unicodetextlaw29.BreakautoActions" = some 5 by kernel_rfl).symm.trans hf) |>.symm
  obtain rfl : fn = Tryd.f5 := (Option.some.inj (Tryd.func5.symm.trans hfn)).symm
  refine ⟨by kernel_rfl, fun j t ht => ?_⟩
  have hm : t ∈ ([28, 23] : List Nat) := by
    have := Array.mem_of_getElem? ht
    rw [Tryd.params5] at this
    simpa using this
  simp only [List.mem_cons, List.not_mem_nil, or_false] at hm
  rcases hm with rfl | rfl
  · exact (show Tryd.prog.wantsStandIn 28 = false by kernel_rfl)
  · exact (show Tryd.prog.wantsStandIn 23 = false by kernel_rfl)
end of_BreakautoActions
/-- THE CARD of 'BreakautoActions'. -/
theorem breakautoActions_card : Rows.BreakautoActionsCardSaid :=
  Claim7.holds_tied_plain_at .later [] _ _ _ _ of_BreakautoActions.said (fun _ h => by cases h) (by kernel_rfl) (fun _ h => by cases h) breakautoActions_row_tie rfl ⟨rfl, rfl⟩ (by kernel_rfl) rfl of_BreakautoActions.plain (by kernel_rfl)
end Go.Proofs.YtcenphnkcifbhaaDoor
