/- Walks through the functions that the statement reaches, and the statement. Conditions: none. -/
import Derived.Test.YtnchhgjoiboibaaGreatDoorWalkA
import Derived.Test.YtnchhgjoiboibaaGreatDoorCxE
set_option maxRecDepth 100000
set_option linter.unusedVariables false
set_option linter.unusedSimpArgs false
namespace Go.Proofs.YtnchhgjoiboibaaGreatDoor
open Go.Cx
variable {w : World} {h : CH}
theorem fn_named10 : tab.fn 32 = some Tryz.f32 := by kernel_rfl
theorem named10_calls (s : ByteArray) (hl : s.data.toList.length < 9223372036854775808) : CalF (X w) 32 [.string s] h fun r h' => r = .ret (.bool (namedB s)) ∧ Gr h h' := by
  refine CalF.intro fn_named10 rfl (Nat.le_of_ble_eq_true rfl) ?_
  repeat (first | refine kthenP.n ?_ | refine kthenP.r ?_ | refine kthenP.e ?_ | refine kblockP.n ?_ | refine kblockP.r ?_ | refine kblockP.e ?_ | refine kblockP.o rfl ?_ | refine Runs.seq ?_ | refine Runs.region ?_ | refine Runs.block ?_ | refine Runs.cond ?_ | refine Runs.skip ?_ | refine Runs.loop ?_ | refine Runs.exit ?_ | refine Runs.ret ?_)
  refine pops.fl rfl rfl rfl rfl rfl ?_
  refine pops.nil ?_
  repeat (first | refine kthenP.n ?_ | refine kthenP.r ?_ | refine kthenP.e ?_ | refine kblockP.n ?_ | refine kblockP.r ?_ | refine kblockP.e ?_ | refine kblockP.o rfl ?_ | refine Runs.seq ?_ | refine Runs.region ?_ | refine Runs.block ?_ | refine Runs.cond ?_ | refine Runs.skip ?_ | refine Runs.loop ?_ | refine Runs.exit ?_ | refine Runs.ret ?_)
  repeat (first | refine pops.bin rfl rfl rfl rfl rfl rfl (cbin_inc (by omega)) ?_ | refine pops.fd rfl rfl rfl rfl rfl rfl ?_ | refine pops.skip rfl rfl rfl ?_ | refine pops.load rfl rfl rfl rfl rfl (by first | assumption | exact cload_of (by assumption) rfl) ?_ | refine pops.len rfl rfl rfl rfl rfl rfl rfl rfl (by first | exact SlA.len (by assumption) rfl | exact SlI.len (by assumption) rfl | exact SlS.len (by assumption) rfl | exact Sl.len (by assumption) rfl) ?_)
  refine pops.cmp rfl rfl rfl rfl rfl (fun q1 => ?_) (fun q1 => ?_)
  · have q1 := of_decide_eq_true q1
    repeat (first | refine pops.bin rfl rfl rfl rfl rfl rfl (cbin_inc (by omega)) ?_ | refine pops.fl rfl rfl rfl rfl rfl ?_ | refine pops.skip rfl rfl rfl ?_ | refine pops.load rfl rfl rfl rfl rfl (by first | assumption | exact cload_of (by assumption) rfl) ?_ | refine pops.len rfl rfl rfl rfl rfl rfl rfl rfl (by first | exact SlA.len (by assumption) rfl | exact SlI.len (by assumption) rfl | exact SlS.len (by assumption) rfl | exact Sl.len (by assumption) rfl) ?_)
    refine pops.nil ?_
    repeat (first | refine kthenP.n ?_ | refine kthenP.r ?_ | refine kthenP.e ?_ | refine kblockP.n ?_ | refine kblockP.r ?_ | refine kblockP.e ?_ | refine kblockP.o rfl ?_ | refine Runs.seq ?_ | refine Runs.region ?_ | refine Runs.block ?_ | refine Runs.cond ?_ | refine Runs.skip ?_ | refine Runs.loop ?_ | refine Runs.exit ?_ | refine Runs.ret ?_)
    refine pcond.t rfl ?_
    repeat (first | refine kthenP.n ?_ | refine kthenP.r ?_ | refine kthenP.e ?_ | refine kblockP.n ?_ | refine kblockP.r ?_ | refine kblockP.e ?_ | refine kblockP.o rfl ?_ | refine Runs.seq ?_ | refine Runs.region ?_ | refine Runs.block ?_ | refine Runs.cond ?_ | refine Runs.skip ?_ | refine Runs.loop ?_ | refine Runs.exit ?_ | refine Runs.ret ?_)
    repeat (first | refine pops.bin rfl rfl rfl rfl rfl rfl (cbin_inc (by omega)) ?_ | refine pops.fl rfl rfl rfl rfl rfl ?_ | refine pops.skip rfl rfl rfl ?_ | refine pops.load rfl rfl rfl rfl rfl (by first | assumption | exact cload_of (by assumption) rfl) ?_ | refine pops.len rfl rfl rfl rfl rfl rfl rfl rfl (by first | exact SlA.len (by assumption) rfl | exact SlI.len (by assumption) rfl | exact SlS.len (by assumption) rfl | exact Sl.len (by assumption) rfl) ?_)
    refine pops.nil ?_
    repeat (first | refine kthenP.n ?_ | refine kthenP.r ?_ | refine kthenP.e ?_ | refine kblockP.n ?_ | refine kblockP.r ?_ | refine kblockP.e ?_ | refine kblockP.o rfl ?_ | refine Runs.seq ?_ | refine Runs.region ?_ | refine Runs.block ?_ | refine Runs.cond ?_ | refine Runs.skip ?_ | refine Runs.loop ?_ | refine Runs.exit ?_ | refine Runs.ret ?_)
    refine pleave.r rfl ?_
    refine ⟨?_, Gr.refl _⟩
    unfold namedB
    rw [decide_eq_false (show ¬ 1 ≤ s.data.toList.length by omega), Bool.and_false]
    rfl
  have q1 := of_decide_eq_false q1
  repeat (first | refine pops.bin rfl rfl rfl rfl rfl rfl (cbin_inc (by omega)) ?_ | refine pops.fd rfl rfl rfl rfl rfl rfl ?_ | refine pops.skip rfl rfl rfl ?_ | refine pops.load rfl rfl rfl rfl rfl (by first | assumption | exact cload_of (by assumption) rfl) ?_ | refine pops.len rfl rfl rfl rfl rfl rfl rfl rfl (by first | exact SlA.len (by assumption) rfl | exact SlI.len (by assumption) rfl | exact SlS.len (by assumption) rfl | exact Sl.len (by assumption) rfl) ?_)
  refine pops.cmp rfl rfl rfl rfl rfl (fun q2 => ?_) (fun q2 => ?_)
  · have q2 := of_decide_eq_true q2
    repeat (first | refine pops.bin rfl rfl rfl rfl rfl rfl (cbin_inc (by omega)) ?_ | refine pops.fl rfl rfl rfl rfl rfl ?_ | refine pops.skip rfl rfl rfl ?_ | refine pops.load rfl rfl rfl rfl rfl (by first | assumption | exact cload_of (by assumption) rfl) ?_ | refine pops.len rfl rfl rfl rfl rfl rfl rfl rfl (by first | exact SlA.len (by assumption) rfl | exact SlI.len (by assumption) rfl | exact SlS.len (by assumption) rfl | exact Sl.len (by assumption) rfl) ?_)
    refine pops.nil ?_
    repeat (first | refine kthenP.n ?_ | refine kthenP.r ?_ | refine kthenP.e ?_ | refine kblockP.n ?_ | refine kblockP.r ?_ | refine kblockP.e ?_ | refine kblockP.o rfl ?_ | refine Runs.seq ?_ | refine Runs.region ?_ | refine Runs.block ?_ | refine Runs.cond ?_ | refine Runs.skip ?_ | refine Runs.loop ?_ | refine Runs.exit ?_ | refine Runs.ret ?_)
    refine pcond.t rfl ?_
    repeat (first | refine kthenP.n ?_ | refine kthenP.r ?_ | refine kthenP.e ?_ | refine kblockP.n ?_ | refine kblockP.r ?_ | refine kblockP.e ?_ | refine kblockP.o rfl ?_ | refine Runs.seq ?_ | refine Runs.region ?_ | refine Runs.block ?_ | refine Runs.cond ?_ | refine Runs.skip ?_ | refine Runs.loop ?_ | refine Runs.exit ?_ | refine Runs.ret ?_)
    repeat (first | refine pops.bin rfl rfl rfl rfl rfl rfl (cbin_inc (by omega)) ?_ | refine pops.fl rfl rfl rfl rfl rfl ?_ | refine pops.skip rfl rfl rfl ?_ | refine pops.load rfl rfl rfl rfl rfl (by first | assumption | exact cload_of (by assumption) rfl) ?_ | refine pops.len rfl rfl rfl rfl rfl rfl rfl rfl (by first | exact SlA.len (by assumption) rfl | exact SlI.len (by assumption) rfl | exact SlS.len (by assumption) rfl | exact Sl.len (by assumption) rfl) ?_)
    refine pops.nil ?_
    repeat (first | refine kthenP.n ?_ | refine kthenP.r ?_ | refine kthenP.e ?_ | refine kblockP.n ?_ | refine kblockP.r ?_ | refine kblockP.e ?_ | refine kblockP.o rfl ?_ | refine Runs.seq ?_ | refine Runs.region ?_ | refine Runs.block ?_ | refine Runs.cond ?_ | refine Runs.skip ?_ | refine Runs.loop ?_ | refine Runs.exit ?_ | refine Runs.ret ?_)
    refine pleave.r rfl ?_
    refine ⟨?_, Gr.refl _⟩
    unfold namedB
    rw [decide_eq_false (show ¬ s.data.toList.length ≤ 32 by omega), Bool.and_false]
  have q2 := of_decide_eq_false q2
  repeat (first | refine pops.bin rfl rfl rfl rfl rfl rfl (cbin_inc (by omega)) ?_ | refine pops.fl rfl rfl rfl rfl rfl ?_ | refine pops.skip rfl rfl rfl ?_ | refine pops.load rfl rfl rfl rfl rfl (by first | assumption | exact cload_of (by assumption) rfl) ?_ | refine pops.len rfl rfl rfl rfl rfl rfl rfl rfl (by first | exact SlA.len (by assumption) rfl | exact SlI.len (by assumption) rfl | exact SlS.len (by assumption) rfl | exact Sl.len (by assumption) rfl) ?_)
  refine pops.nil ?_
  repeat (first | refine kthenP.n ?_ | refine kthenP.r ?_ | refine kthenP.e ?_ | refine kblockP.n ?_ | refine kblockP.r ?_ | refine kblockP.e ?_ | refine kblockP.o rfl ?_ | refine Runs.seq ?_ | refine Runs.region ?_ | refine Runs.block ?_ | refine Runs.cond ?_ | refine Runs.skip ?_ | refine Runs.loop ?_ | refine Runs.exit ?_ | refine Runs.ret ?_)
  refine pcond.f rfl ?_
  repeat (first | refine kthenP.n ?_ | refine kthenP.r ?_ | refine kthenP.e ?_ | refine kblockP.n ?_ | refine kblockP.r ?_ | refine kblockP.e ?_ | refine kblockP.o rfl ?_ | refine Runs.seq ?_ | refine Runs.region ?_ | refine Runs.block ?_ | refine Runs.cond ?_ | refine Runs.skip ?_ | refine Runs.loop ?_ | refine Runs.exit ?_ | refine Runs.ret ?_)
  repeat (first | refine pops.bin rfl rfl rfl rfl rfl rfl (cbin_inc (by omega)) ?_ | refine pops.fl rfl rfl rfl rfl rfl ?_ | refine pops.skip rfl rfl rfl ?_ | refine pops.load rfl rfl rfl rfl rfl (by first | assumption | exact cload_of (by assumption) rfl) ?_ | refine pops.len rfl rfl rfl rfl rfl rfl rfl rfl (by first | exact SlA.len (by assumption) rfl | exact SlI.len (by assumption) rfl | exact SlS.len (by assumption) rfl | exact Sl.len (by assumption) rfl) ?_)
  refine pops.nil ?_
  repeat (first | refine kthenP.n ?_ | refine kthenP.r ?_ | refine kthenP.e ?_ | refine kblockP.n ?_ | refine kblockP.r ?_ | refine kblockP.e ?_ | refine kblockP.o rfl ?_ | refine Runs.seq ?_ | refine Runs.region ?_ | refine Runs.block ?_ | refine Runs.cond ?_ | refine Runs.skip ?_ | refine Runs.loop ?_ | refine Runs.exit ?_ | refine Runs.ret ?_)
  refine Loops.ind 6 (fun i : Nat => [(0, .string s), (2, .bool false), (3, .int .i64 (i : Nat))])
    (fun i h' => i ≤ s.data.toList.length ∧ h' = h ∧ ∀ j c, j < i → s.data.toList[j]? = some c → letterB c.toNat = true) (fun i => s.data.toList.length - i) 0 (by decide) ⟨rfl, rfl, rfl, trivial⟩ ⟨Nat.zero_le _, rfl, fun j x hj => absurd hj (Nat.not_lt_zero j)⟩ ?_
  rintro i z h' hwf' ⟨hi, rfl, hall⟩
  repeat (first | refine kthenP.n ?_ | refine kthenP.r ?_ | refine kthenP.e ?_ | refine kblockP.n ?_ | refine kblockP.r ?_ | refine kblockP.e ?_ | refine kblockP.o rfl ?_ | refine Runs.seq ?_ | refine Runs.region ?_ | refine Runs.block ?_ | refine Runs.cond ?_ | refine Runs.skip ?_ | refine Runs.loop ?_ | refine Runs.exit ?_ | refine Runs.ret ?_)
  repeat (first | refine pops.bin rfl rfl rfl rfl rfl rfl (cbin_inc (by omega)) ?_ | refine pops.fl rfl rfl rfl rfl rfl ?_ | refine pops.skip rfl rfl rfl ?_ | refine pops.load rfl rfl rfl rfl rfl (by first | assumption | exact cload_of (by assumption) rfl) ?_ | refine pops.len rfl rfl rfl rfl rfl rfl rfl rfl (by first | exact SlA.len (by assumption) rfl | exact SlI.len (by assumption) rfl | exact SlS.len (by assumption) rfl | exact Sl.len (by assumption) rfl) ?_)
  refine pops.nil ?_
  repeat (first | refine kthenP.n ?_ | refine kthenP.r ?_ | refine kthenP.e ?_ | refine kblockP.n ?_ | refine kblockP.r ?_ | refine kblockP.e ?_ | refine kblockP.o rfl ?_ | refine Runs.seq ?_ | refine Runs.region ?_ | refine Runs.block ?_ | refine Runs.cond ?_ | refine Runs.skip ?_ | refine Runs.loop ?_ | refine Runs.exit ?_ | refine Runs.ret ?_)
  refine pcond.d (p := (i : Int) < (s.data.toList.length : Nat)) rfl (fun hlt => ?_) (fun hge => ?_)
  · have hlt : i < s.data.toList.length := by omega
    obtain ⟨c, hc⟩ : ∃ c, s.data.toList[i]? = some c := ⟨_, List.getElem?_eq_getElem hlt⟩
    clear q1 q2
    repeat (first | refine kthenP.n ?_ | refine kthenP.r ?_ | refine kthenP.e ?_ | refine kblockP.n ?_ | refine kblockP.r ?_ | refine kblockP.e ?_ | refine kblockP.o rfl ?_ | refine Runs.seq ?_ | refine Runs.region ?_ | refine Runs.block ?_ | refine Runs.cond ?_ | refine Runs.skip ?_ | refine Runs.loop ?_ | refine Runs.exit ?_ | refine Runs.ret ?_)
    refine pops.fl rfl rfl rfl rfl rfl ?_
    refine pops.fl rfl rfl rfl rfl rfl ?_
    refine pops.index rfl rfl rfl rfl rfl rfl (v := .int .u8 c.toNat) (cindex_str rfl hc) ?_
    refine pops.fl rfl rfl rfl rfl rfl ?_
    refine pops.nil ?_
    repeat (first | refine kthenP.n ?_ | refine kthenP.r ?_ | refine kthenP.e ?_ | refine kblockP.n ?_ | refine kblockP.r ?_ | refine kblockP.e ?_ | refine kblockP.o rfl ?_ | refine Runs.seq ?_ | refine Runs.region ?_ | refine Runs.block ?_ | refine Runs.cond ?_ | refine Runs.skip ?_ | refine Runs.loop ?_ | refine Runs.exit ?_ | refine Runs.ret ?_)
    repeat' (first | refine pops.cmp rfl rfl rfl rfl rfl (fun _ => ?_) (fun _ => ?_) | refine pops.fl rfl rfl rfl rfl rfl ?_ | refine pops.skip rfl rfl rfl ?_)
    all_goals (refine pops.nil ?_)
    all_goals (repeat (first | refine kthenP.n ?_ | refine kthenP.r ?_ | refine kthenP.e ?_ | refine kblockP.n ?_ | refine kblockP.r ?_ | refine kblockP.e ?_ | refine kblockP.o rfl ?_ | refine Runs.seq ?_ | refine Runs.region ?_ | refine Runs.block ?_ | refine Runs.cond ?_ | refine Runs.skip ?_ | refine Runs.loop ?_ | refine Runs.exit ?_ | refine Runs.ret ?_))
    all_goals first | refine pcond.t rfl ?_ | refine pcond.f rfl ?_
    all_goals (repeat (first | refine kthenP.n ?_ | refine kthenP.r ?_ | refine kthenP.e ?_ | refine kblockP.n ?_ | refine kblockP.r ?_ | refine kblockP.e ?_ | refine kblockP.o rfl ?_ | refine Runs.seq ?_ | refine Runs.region ?_ | refine Runs.block ?_ | refine Runs.cond ?_ | refine Runs.skip ?_ | refine Runs.loop ?_ | refine Runs.exit ?_ | refine Runs.ret ?_))
    all_goals (repeat (first | refine pops.bin rfl rfl rfl rfl rfl rfl (cbin_inc (by omega)) ?_ | refine pops.fl rfl rfl rfl rfl rfl ?_ | refine pops.skip rfl rfl rfl ?_ | refine pops.load rfl rfl rfl rfl rfl (by first | assumption | exact cload_of (by assumption) rfl) ?_ | refine pops.len rfl rfl rfl rfl rfl rfl rfl rfl (by first | exact SlA.len (by assumption) rfl | exact SlI.len (by assumption) rfl | exact SlS.len (by assumption) rfl | exact Sl.len (by assumption) rfl) ?_))
    all_goals (refine pops.nil ?_)
    all_goals (repeat (first | refine kthenP.n ?_ | refine kthenP.r ?_ | refine kthenP.e ?_ | refine kblockP.n ?_ | refine kblockP.r ?_ | refine kblockP.e ?_ | refine kblockP.o rfl ?_ | refine Runs.seq ?_ | refine Runs.region ?_ | refine Runs.block ?_ | refine Runs.cond ?_ | refine Runs.skip ?_ | refine Runs.loop ?_ | refine Runs.exit ?_ | refine Runs.ret ?_))
    all_goals try (refine pleave.r rfl ?_)
    all_goals first | (refine ⟨_, i + 1, rfl, ⟨rfl, rfl, rfl, trivial⟩, (by show s.data.toList.length - (i + 1) < s.data.toList.length - i; omega), by omega, rfl, all_next hall hc ?_⟩; clear hall hc hl hi hlt hwf'; simp_all only [letterB, Bool.true_or, Bool.or_true, Bool.and_self, Bool.and_true, Bool.true_and, Bool.or_false, Bool.false_or, Bool.and_false, Bool.false_and, ge_iff_le]; done) | refine ⟨?_, Gr.refl _⟩
    all_goals (have : letterB c.toNat = false := by (clear hall hc hl hi hlt hwf'; simp_all [letterB]; try omega))
    all_goals (have : (s.data.toList.all fun c => letterB c.toNat) = false := by rw [List.all_eq_false]; exact ⟨c, List.mem_of_getElem? hc, by simp [this]⟩)
    all_goals (congr 2; unfold namedB; rw [this]; rfl)
  · repeat (first | refine kthenP.n ?_ | refine kthenP.r ?_ | refine kthenP.e ?_ | refine kblockP.n ?_ | refine kblockP.r ?_ | refine kblockP.e ?_ | refine kblockP.o rfl ?_ | refine Runs.seq ?_ | refine Runs.region ?_ | refine Runs.block ?_ | refine Runs.cond ?_ | refine Runs.skip ?_ | refine Runs.loop ?_ | refine Runs.exit ?_ | refine Runs.ret ?_)
    repeat (first | refine pops.bin rfl rfl rfl rfl rfl rfl (cbin_inc (by omega)) ?_ | refine pops.fl rfl rfl rfl rfl rfl ?_ | refine pops.skip rfl rfl rfl ?_ | refine pops.load rfl rfl rfl rfl rfl (by first | assumption | exact cload_of (by assumption) rfl) ?_ | refine pops.len rfl rfl rfl rfl rfl rfl rfl rfl (by first | exact SlA.len (by assumption) rfl | exact SlI.len (by assumption) rfl | exact SlS.len (by assumption) rfl | exact Sl.len (by assumption) rfl) ?_)
    refine pops.nil ?_
    repeat (first | refine kthenP.n ?_ | refine kthenP.r ?_ | refine kthenP.e ?_ | refine kblockP.n ?_ | refine kblockP.r ?_ | refine kblockP.e ?_ | refine kblockP.o rfl ?_ | refine Runs.seq ?_ | refine Runs.region ?_ | refine Runs.block ?_ | refine Runs.cond ?_ | refine Runs.skip ?_ | refine Runs.loop ?_ | refine Runs.exit ?_ | refine Runs.ret ?_)
    refine pleave.r rfl ?_
    have hA : (s.data.toList.all fun c => letterB c.toNat) = true := by
      rw [List.all_eq_true]
      exact all_end hall (by omega)
    refine ⟨?_, Gr.refl _⟩
    unfold namedB
    rw [hA, decide_eq_true (show 1 ≤ s.data.toList.length by omega), decide_eq_true (show s.data.toList.length ≤ 32 by omega)]
    rfl
theorem fn_index28 : tab.fn 34 = some Tryz.f34 := by kernel_rfl
/-- Whether a text is one of a list. -/
def inB (l : List ByteArray) (s : ByteArray) : Bool := l.any fun x => bytesBeq x.data.toList s.data.toList
theorem index28_calls {v : Value} {l : List ByteArray} (s : ByteArray) (hv : SlS tab 9 h v l) : CalF (X w) 34 [v, .string s] h fun r h' => (∃ z : Int, r = .ret (.int .i64 z) ∧ decide (0 ≤ z) = inB l s) ∧ Gr h h' := by
  refine CalF.wf fun hwf => ?_
  have hlt := hv.lt
  refine CalF.intro fn_index28 rfl (Nat.le_of_ble_eq_true rfl) ?_
  repeat (first | refine kthenP.n ?_ | refine kthenP.r ?_ | refine kthenP.e ?_ | refine kblockP.n ?_ | refine kblockP.r ?_ | refine kblockP.e ?_ | refine kblockP.o rfl ?_ | refine Runs.seq ?_ | refine Runs.region ?_ | refine Runs.block ?_ | refine Runs.cond ?_ | refine Runs.skip ?_ | refine Runs.loop ?_ | refine Runs.exit ?_ | refine Runs.ret ?_)
  repeat (first | refine pops.bin rfl rfl rfl rfl rfl rfl (cbin_inc (by omega)) ?_ | refine pops.fl rfl rfl rfl rfl rfl ?_ | refine pops.skip rfl rfl rfl ?_ | refine pops.load rfl rfl rfl rfl rfl (by first | assumption | exact cload_of (by assumption) rfl) ?_ | refine pops.len rfl rfl rfl rfl rfl rfl rfl rfl (by first | exact SlA.len (by assumption) rfl | exact SlI.len (by assumption) rfl | exact SlS.len (by assumption) rfl | exact Sl.len (by assumption) rfl) ?_)
  refine pops.nil ?_
  repeat (first | refine kthenP.n ?_ | refine kthenP.r ?_ | refine kthenP.e ?_ | refine kblockP.n ?_ | refine kblockP.r ?_ | refine kblockP.e ?_ | refine kblockP.o rfl ?_ | refine Runs.seq ?_ | refine Runs.region ?_ | refine Runs.block ?_ | refine Runs.cond ?_ | refine Runs.skip ?_ | refine Runs.loop ?_ | refine Runs.exit ?_ | refine Runs.ret ?_)
  repeat (first | refine pops.bin rfl rfl rfl rfl rfl rfl (cbin_inc (by omega)) ?_ | refine pops.fl rfl rfl rfl rfl rfl ?_ | refine pops.skip rfl rfl rfl ?_ | refine pops.load rfl rfl rfl rfl rfl (by first | assumption | exact cload_of (by assumption) rfl) ?_ | refine pops.len rfl rfl rfl rfl rfl rfl rfl rfl (by first | exact SlA.len (by assumption) rfl | exact SlI.len (by assumption) rfl | exact SlS.len (by assumption) rfl | exact Sl.len (by assumption) rfl) ?_)
  refine pops.nil ?_
  repeat (first | refine kthenP.n ?_ | refine kthenP.r ?_ | refine kthenP.e ?_ | refine kblockP.n ?_ | refine kblockP.r ?_ | refine kblockP.e ?_ | refine kblockP.o rfl ?_ | refine Runs.seq ?_ | refine Runs.region ?_ | refine Runs.block ?_ | refine Runs.cond ?_ | refine Runs.skip ?_ | refine Runs.loop ?_ | refine Runs.exit ?_ | refine Runs.ret ?_)
  refine Loops.ind 5 (fun i : Nat => [(0, v), (1, .string s), (4, .int .i64 0), (5, .int .i64 (i : Nat))]) (fun i h' => i ≤ l.length ∧ h' = h ∧ ∀ (j : Nat) x, j < i → l[j]? = some x → bytesBeq x.data.toList s.data.toList = false) (fun i => l.length - i) 0 (by decide) ⟨rfl, rfl, rfl, rfl, trivial⟩ ⟨Nat.zero_le _, rfl, fun j x hj => absurd hj (Nat.not_lt_zero j)⟩ ?_
  rintro i z h' hwf' ⟨hi, rfl, hall⟩
  repeat (first | refine kthenP.n ?_ | refine kthenP.r ?_ | refine kthenP.e ?_ | refine kblockP.n ?_ | refine kblockP.r ?_ | refine kblockP.e ?_ | refine kblockP.o rfl ?_ | refine Runs.seq ?_ | refine Runs.region ?_ | refine Runs.block ?_ | refine Runs.cond ?_ | refine Runs.skip ?_ | refine Runs.loop ?_ | refine Runs.exit ?_ | refine Runs.ret ?_)
  repeat (first | refine pops.bin rfl rfl rfl rfl rfl rfl (cbin_inc (by omega)) ?_ | refine pops.fl rfl rfl rfl rfl rfl ?_ | refine pops.skip rfl rfl rfl ?_ | refine pops.load rfl rfl rfl rfl rfl (by first | assumption | exact cload_of (by assumption) rfl) ?_ | refine pops.len rfl rfl rfl rfl rfl rfl rfl rfl (by first | exact SlA.len (by assumption) rfl | exact SlI.len (by assumption) rfl | exact SlS.len (by assumption) rfl | exact Sl.len (by assumption) rfl) ?_)
  refine pops.nil ?_
  repeat (first | refine kthenP.n ?_ | refine kthenP.r ?_ | refine kthenP.e ?_ | refine kblockP.n ?_ | refine kblockP.r ?_ | refine kblockP.e ?_ | refine kblockP.o rfl ?_ | refine Runs.seq ?_ | refine Runs.region ?_ | refine Runs.block ?_ | refine Runs.cond ?_ | refine Runs.skip ?_ | refine Runs.loop ?_ | refine Runs.exit ?_ | refine Runs.ret ?_)
  refine pcond.d (p := (i : Int) < (l.length : Nat)) rfl (fun hlt' => ?_) (fun hge => ?_)
  · obtain ⟨x, hx⟩ : ∃ x, l[i]? = some x := ⟨_, List.getElem?_eq_getElem (by omega)⟩
    repeat (first | refine kthenP.n ?_ | refine kthenP.r ?_ | refine kthenP.e ?_ | refine kblockP.n ?_ | refine kblockP.r ?_ | refine kblockP.e ?_ | refine kblockP.o rfl ?_ | refine Runs.seq ?_ | refine Runs.region ?_ | refine Runs.block ?_ | refine Runs.cond ?_ | refine Runs.skip ?_ | refine Runs.loop ?_ | refine Runs.exit ?_ | refine Runs.ret ?_)
    refine pops.fl rfl rfl rfl rfl rfl ?_
    refine pops.fl rfl rfl rfl rfl rfl ?_
    refine pops.atI (f := Value.string) rfl rfl rfl rfl rfl rfl rfl hv hx fun q hq => ?_
    refine pops.load rfl rfl rfl rfl rfl (by first | assumption | exact cload_of (by assumption) rfl) ?_
    refine pops.fl rfl rfl rfl rfl rfl ?_
    refine pops.cmp rfl rfl rfl rfl rfl (fun q => ?_) (fun q => ?_)
    · refine pops.nil ?_
      repeat (first | refine kthenP.n ?_ | refine kthenP.r ?_ | refine kthenP.e ?_ | refine kblockP.n ?_ | refine kblockP.r ?_ | refine kblockP.e ?_ | refine kblockP.o rfl ?_ | refine Runs.seq ?_ | refine Runs.region ?_ | refine Runs.block ?_ | refine Runs.cond ?_ | refine Runs.skip ?_ | refine Runs.loop ?_ | refine Runs.exit ?_ | refine Runs.ret ?_)
      refine pcond.t rfl ?_
      repeat (first | refine kthenP.n ?_ | refine kthenP.r ?_ | refine kthenP.e ?_ | refine kblockP.n ?_ | refine kblockP.r ?_ | refine kblockP.e ?_ | refine kblockP.o rfl ?_ | refine Runs.seq ?_ | refine Runs.region ?_ | refine Runs.block ?_ | refine Runs.cond ?_ | refine Runs.skip ?_ | refine Runs.loop ?_ | refine Runs.exit ?_ | refine Runs.ret ?_)
      refine pops.fl rfl rfl rfl rfl rfl ?_
      refine pops.fl rfl rfl rfl rfl rfl ?_
      refine pops.nil ?_
      repeat (first | refine kthenP.n ?_ | refine kthenP.r ?_ | refine kthenP.e ?_ | refine kblockP.n ?_ | refine kblockP.r ?_ | refine kblockP.e ?_ | refine kblockP.o rfl ?_ | refine Runs.seq ?_ | refine Runs.region ?_ | refine Runs.block ?_ | refine Runs.cond ?_ | refine Runs.skip ?_ | refine Runs.loop ?_ | refine Runs.exit ?_ | refine Runs.ret ?_)
      refine pleave.r rfl ?_
      refine ⟨⟨_, rfl, ?_⟩, Gr.refl _⟩
      rw [decide_eq_true (by omega)]
      symm
      exact List.any_eq_true.2 ⟨x, List.mem_of_getElem? hx, q⟩
    · refine pops.nil ?_
      repeat (first | refine kthenP.n ?_ | refine kthenP.r ?_ | refine kthenP.e ?_ | refine kblockP.n ?_ | refine kblockP.r ?_ | refine kblockP.e ?_ | refine kblockP.o rfl ?_ | refine Runs.seq ?_ | refine Runs.region ?_ | refine Runs.block ?_ | refine Runs.cond ?_ | refine Runs.skip ?_ | refine Runs.loop ?_ | refine Runs.exit ?_ | refine Runs.ret ?_)
      refine pcond.f rfl ?_
      repeat (first | refine kthenP.n ?_ | refine kthenP.r ?_ | refine kthenP.e ?_ | refine kblockP.n ?_ | refine kblockP.r ?_ | refine kblockP.e ?_ | refine kblockP.o rfl ?_ | refine Runs.seq ?_ | refine Runs.region ?_ | refine Runs.block ?_ | refine Runs.cond ?_ | refine Runs.skip ?_ | refine Runs.loop ?_ | refine Runs.exit ?_ | refine Runs.ret ?_)
      repeat (first | refine pops.bin rfl rfl rfl rfl rfl rfl (cbin_inc (by omega)) ?_ | refine pops.fl rfl rfl rfl rfl rfl ?_ | refine pops.skip rfl rfl rfl ?_ | refine pops.load rfl rfl rfl rfl rfl (by first | assumption | exact cload_of (by assumption) rfl) ?_ | refine pops.len rfl rfl rfl rfl rfl rfl rfl rfl (by first | exact SlA.len (by assumption) rfl | exact SlI.len (by assumption) rfl | exact SlS.len (by assumption) rfl | exact Sl.len (by assumption) rfl) ?_)
      refine pops.nil ?_
      refine .n ⟨_, i + 1, rfl, ⟨rfl, rfl, rfl, rfl, trivial⟩, (by show l.length - (i + 1) < l.length - i; omega), by omega, rfl, all_next hall hx q⟩
  · repeat (first | refine kthenP.n ?_ | refine kthenP.r ?_ | refine kthenP.e ?_ | refine kblockP.n ?_ | refine kblockP.r ?_ | refine kblockP.e ?_ | refine kblockP.o rfl ?_ | refine Runs.seq ?_ | refine Runs.region ?_ | refine Runs.block ?_ | refine Runs.cond ?_ | refine Runs.skip ?_ | refine Runs.loop ?_ | refine Runs.exit ?_ | refine Runs.ret ?_)
    repeat (first | refine pops.bin rfl rfl rfl rfl rfl rfl (cbin_inc (by omega)) ?_ | refine pops.fl rfl rfl rfl rfl rfl ?_ | refine pops.skip rfl rfl rfl ?_ | refine pops.load rfl rfl rfl rfl rfl (by first | assumption | exact cload_of (by assumption) rfl) ?_ | refine pops.len rfl rfl rfl rfl rfl rfl rfl rfl (by first | exact SlA.len (by assumption) rfl | exact SlI.len (by assumption) rfl | exact SlS.len (by assumption) rfl | exact Sl.len (by assumption) rfl) ?_)
    refine pops.nil ?_
    repeat (first | refine kthenP.n ?_ | refine kthenP.r ?_ | refine kthenP.e ?_ | refine kblockP.n ?_ | refine kblockP.r ?_ | refine kblockP.e ?_ | refine kblockP.o rfl ?_ | refine Runs.seq ?_ | refine Runs.region ?_ | refine Runs.block ?_ | refine Runs.cond ?_ | refine Runs.skip ?_ | refine Runs.loop ?_ | refine Runs.exit ?_ | refine Runs.ret ?_)
    refine pleave.r rfl ?_
    refine ⟨⟨_, rfl, ?_⟩, Gr.refl _⟩
    symm
    show inB l s = false
    unfold inB
    rw [List.any_eq_false]
    intro x hx
    rw [all_end hall (by omega) x hx]
    decide
theorem fn_word28 : tab.fn 33 = some Tryz.f33 := by kernel_rfl
theorem word28_calls (s : ByteArray) : CalF (X w) 33 [.string s] h fun r h' => r = .ret (.bool (wordB s)) ∧ Gr h h' := by
  refine CalF.wf fun hwf => ?_
  refine CalF.intro fn_word28 rfl (Nat.le_of_ble_eq_true rfl) ?_
  repeat (first | refine kthenP.n ?_ | refine kthenP.r ?_ | refine kthenP.e ?_ | refine kblockP.n ?_ | refine kblockP.r ?_ | refine kblockP.e ?_ | refine kblockP.o rfl ?_ | refine Runs.seq ?_ | refine Runs.region ?_ | refine Runs.block ?_ | refine Runs.cond ?_ | refine Runs.skip ?_ | refine Runs.loop ?_ | refine Runs.exit ?_ | refine Runs.ret ?_)
  refine pops.fl rfl rfl rfl rfl rfl ?_
  refine pops.nil ?_
  repeat (first | refine kthenP.n ?_ | refine kthenP.r ?_ | refine kthenP.e ?_ | refine kblockP.n ?_ | refine kblockP.r ?_ | refine kblockP.e ?_ | refine kblockP.o rfl ?_ | refine Runs.seq ?_ | refine Runs.region ?_ | refine Runs.block ?_ | refine Runs.cond ?_ | refine Runs.skip ?_ | refine Runs.loop ?_ | refine Runs.exit ?_ | refine Runs.ret ?_)
  refine pops.buildSlice (cs := wordsL.map Value.string) rfl rfl rfl rfl rfl hwf fun b h1 hb hwf1 g1 hc => ?_
  have hS : SlS tab 9 h1 (.slice (some ⟨b, 0, none⟩) 7 7) wordsL := Sl.one hc rfl rfl rfl (by decide) rfl
  repeat (first | refine pops.bin rfl rfl rfl rfl rfl rfl (cbin_inc (by omega)) ?_ | refine pops.fl rfl rfl rfl rfl rfl ?_ | refine pops.skip rfl rfl rfl ?_ | refine pops.load rfl rfl rfl rfl rfl (by first | assumption | exact cload_of (by assumption) rfl) ?_ | refine pops.len rfl rfl rfl rfl rfl rfl rfl rfl (by first | exact SlA.len (by assumption) rfl | exact SlI.len (by assumption) rfl | exact SlS.len (by assumption) rfl | exact Sl.len (by assumption) rfl) ?_)
  refine pops.callV rfl rfl rfl rfl rfl fn_index28 rfl rfl ((index28_calls s hS).monoW fun x h2 hwf2 hh => ?_)
  obtain ⟨⟨z, rfl, hz⟩, g2⟩ := hh
  refine ⟨_, rfl, ?_⟩
  repeat (first | refine pops.bin rfl rfl rfl rfl rfl rfl (cbin_inc (by omega)) ?_ | refine pops.fl rfl rfl rfl rfl rfl ?_ | refine pops.skip rfl rfl rfl ?_ | refine pops.load rfl rfl rfl rfl rfl (by first | assumption | exact cload_of (by assumption) rfl) ?_ | refine pops.len rfl rfl rfl rfl rfl rfl rfl rfl (by first | exact SlA.len (by assumption) rfl | exact SlI.len (by assumption) rfl | exact SlS.len (by assumption) rfl | exact Sl.len (by assumption) rfl) ?_)
  refine pops.nil ?_
  repeat (first | refine kthenP.n ?_ | refine kthenP.r ?_ | refine kthenP.e ?_ | refine kblockP.n ?_ | refine kblockP.r ?_ | refine kblockP.e ?_ | refine kblockP.o rfl ?_ | refine Runs.seq ?_ | refine Runs.region ?_ | refine Runs.block ?_ | refine Runs.cond ?_ | refine Runs.skip ?_ | refine Runs.loop ?_ | refine Runs.exit ?_ | refine Runs.ret ?_)
  refine pleave.r rfl ?_
  refine ⟨?_, g1.trans g2⟩
  have : wordB s = decide (0 ≤ z) := by
    rw [hz]
    unfold wordB inB
    congr 1
    funext x
    exact bytesBeq_comm _ _
  rw [this]
end Go.Proofs.YtnchhgjoiboibaaGreatDoor

set_option maxRecDepth 100000
set_option linter.unusedVariables false
set_option linter.unusedSimpArgs false
namespace Go.Proofs.YtnchhgjoiboibaaGreatDoor
open Go.Cx
variable {w : World} {h : CH}
theorem fn_named28 : tab.fn 15 = some Tryz.f15 := by kernel_rfl
theorem named28_calls {v : Value} {l : List ByteArray} (hv : SlS tab 9 h v l) (hcap : CapOk v 1) (hlen : ∀ s, s ∈ l → s.data.toList.length < 9223372036854775808) :
    CalF (X w) 15 [v] h fun r h' => r = .ret (.bool (tt (NamesP l))) ∧ Gr h h' := by
  refine CalF.wf fun hwf => ?_
  have hlt := hv.lt
  refine CalF.intro fn_named28 rfl (Nat.le_of_ble_eq_true rfl) ?_
  repeat (first | refine kthenP.n ?_ | refine kthenP.r ?_ | refine kthenP.e ?_ | refine kblockP.n ?_ | refine kblockP.r ?_ | refine kblockP.e ?_ | refine kblockP.o rfl ?_ | refine Runs.seq ?_ | refine Runs.region ?_ | refine Runs.block ?_ | refine Runs.cond ?_ | refine Runs.skip ?_ | refine Runs.loop ?_ | refine Runs.exit ?_ | refine Runs.ret ?_)
  repeat (first | refine pops.bin rfl rfl rfl rfl rfl rfl (cbin_inc (by omega)) ?_ | refine pops.fl rfl rfl rfl rfl rfl ?_ | refine pops.skip rfl rfl rfl ?_ | refine pops.load rfl rfl rfl rfl rfl (by first | assumption | exact cload_of (by assumption) rfl) ?_ | refine pops.len rfl rfl rfl rfl rfl rfl rfl rfl (by first | exact SlA.len (by assumption) rfl | exact SlI.len (by assumption) rfl | exact SlS.len (by assumption) rfl | exact Sl.len (by assumption) rfl) ?_)
  refine pops.nil ?_
  repeat (first | refine kthenP.n ?_ | refine kthenP.r ?_ | refine kthenP.e ?_ | refine kblockP.n ?_ | refine kblockP.r ?_ | refine kblockP.e ?_ | refine kblockP.o rfl ?_ | refine Runs.seq ?_ | refine Runs.region ?_ | refine Runs.block ?_ | refine Runs.cond ?_ | refine Runs.skip ?_ | refine Runs.loop ?_ | refine Runs.exit ?_ | refine Runs.ret ?_)
  repeat (first | refine pops.bin rfl rfl rfl rfl rfl rfl (cbin_inc (by omega)) ?_ | refine pops.fd rfl rfl rfl rfl rfl rfl ?_ | refine pops.skip rfl rfl rfl ?_ | refine pops.load rfl rfl rfl rfl rfl (by first | assumption | exact cload_of (by assumption) rfl) ?_ | refine pops.len rfl rfl rfl rfl rfl rfl rfl rfl (by first | exact SlA.len (by assumption) rfl | exact SlI.len (by assumption) rfl | exact SlS.len (by assumption) rfl | exact Sl.len (by assumption) rfl) ?_)
  refine pops.cmp rfl rfl rfl rfl rfl (fun q1 => ?_) (fun q1 => ?_)
  · have q1 := of_decide_eq_true q1
    repeat (first | refine pops.bin rfl rfl rfl rfl rfl rfl (cbin_inc (by omega)) ?_ | refine pops.fl rfl rfl rfl rfl rfl ?_ | refine pops.skip rfl rfl rfl ?_ | refine pops.load rfl rfl rfl rfl rfl (by first | assumption | exact cload_of (by assumption) rfl) ?_ | refine pops.len rfl rfl rfl rfl rfl rfl rfl rfl (by first | exact SlA.len (by assumption) rfl | exact SlI.len (by assumption) rfl | exact SlS.len (by assumption) rfl | exact Sl.len (by assumption) rfl) ?_)
    refine pops.nil ?_
    repeat (first | refine kthenP.n ?_ | refine kthenP.r ?_ | refine kthenP.e ?_ | refine kblockP.n ?_ | refine kblockP.r ?_ | refine kblockP.e ?_ | refine kblockP.o rfl ?_ | refine Runs.seq ?_ | refine Runs.region ?_ | refine Runs.block ?_ | refine Runs.cond ?_ | refine Runs.skip ?_ | refine Runs.loop ?_ | refine Runs.exit ?_ | refine Runs.ret ?_)
    refine pcond.t rfl ?_
    repeat (first | refine kthenP.n ?_ | refine kthenP.r ?_ | refine kthenP.e ?_ | refine kblockP.n ?_ | refine kblockP.r ?_ | refine kblockP.e ?_ | refine kblockP.o rfl ?_ | refine Runs.seq ?_ | refine Runs.region ?_ | refine Runs.block ?_ | refine Runs.cond ?_ | refine Runs.skip ?_ | refine Runs.loop ?_ | refine Runs.exit ?_ | refine Runs.ret ?_)
    repeat (first | refine pops.bin rfl rfl rfl rfl rfl rfl (cbin_inc (by omega)) ?_ | refine pops.fl rfl rfl rfl rfl rfl ?_ | refine pops.skip rfl rfl rfl ?_ | refine pops.load rfl rfl rfl rfl rfl (by first | assumption | exact cload_of (by assumption) rfl) ?_ | refine pops.len rfl rfl rfl rfl rfl rfl rfl rfl (by first | exact SlA.len (by assumption) rfl | exact SlI.len (by assumption) rfl | exact SlS.len (by assumption) rfl | exact Sl.len (by assumption) rfl) ?_)
    refine pops.nil ?_
    repeat (first | refine kthenP.n ?_ | refine kthenP.r ?_ | refine kthenP.e ?_ | refine kblockP.n ?_ | refine kblockP.r ?_ | refine kblockP.e ?_ | refine kblockP.o rfl ?_ | refine Runs.seq ?_ | refine Runs.region ?_ | refine Runs.block ?_ | refine Runs.cond ?_ | refine Runs.skip ?_ | refine Runs.loop ?_ | refine Runs.exit ?_ | refine Runs.ret ?_)
    refine pleave.r rfl ?_
    refine ⟨?_, Gr.refl _⟩
    rw [tt_f (p := NamesP l) (fun hN => by have := hN.2.2.1; omega)]
  have q1 := of_decide_eq_false q1
  repeat (first | refine pops.bin rfl rfl rfl rfl rfl rfl (cbin_inc (by omega)) ?_ | refine pops.fd rfl rfl rfl rfl rfl rfl ?_ | refine pops.skip rfl rfl rfl ?_ | refine pops.load rfl rfl rfl rfl rfl (by first | assumption | exact cload_of (by assumption) rfl) ?_ | refine pops.len rfl rfl rfl rfl rfl rfl rfl rfl (by first | exact SlA.len (by assumption) rfl | exact SlI.len (by assumption) rfl | exact SlS.len (by assumption) rfl | exact Sl.len (by assumption) rfl) ?_)
  refine pops.cmp rfl rfl rfl rfl rfl (fun q2 => ?_) (fun q2 => ?_)
  · have q2 := of_decide_eq_true q2
    repeat (first | refine pops.bin rfl rfl rfl rfl rfl rfl (cbin_inc (by omega)) ?_ | refine pops.fl rfl rfl rfl rfl rfl ?_ | refine pops.skip rfl rfl rfl ?_ | refine pops.load rfl rfl rfl rfl rfl (by first | assumption | exact cload_of (by assumption) rfl) ?_ | refine pops.len rfl rfl rfl rfl rfl rfl rfl rfl (by first | exact SlA.len (by assumption) rfl | exact SlI.len (by assumption) rfl | exact SlS.len (by assumption) rfl | exact Sl.len (by assumption) rfl) ?_)
    refine pops.nil ?_
    repeat (first | refine kthenP.n ?_ | refine kthenP.r ?_ | refine kthenP.e ?_ | refine kblockP.n ?_ | refine kblockP.r ?_ | refine kblockP.e ?_ | refine kblockP.o rfl ?_ | refine Runs.seq ?_ | refine Runs.region ?_ | refine Runs.block ?_ | refine Runs.cond ?_ | refine Runs.skip ?_ | refine Runs.loop ?_ | refine Runs.exit ?_ | refine Runs.ret ?_)
    refine pcond.t rfl ?_
    repeat (first | refine kthenP.n ?_ | refine kthenP.r ?_ | refine kthenP.e ?_ | refine kblockP.n ?_ | refine kblockP.r ?_ | refine kblockP.e ?_ | refine kblockP.o rfl ?_ | refine Runs.seq ?_ | refine Runs.region ?_ | refine Runs.block ?_ | refine Runs.cond ?_ | refine Runs.skip ?_ | refine Runs.loop ?_ | refine Runs.exit ?_ | refine Runs.ret ?_)
    repeat (first | refine pops.bin rfl rfl rfl rfl rfl rfl (cbin_inc (by omega)) ?_ | refine pops.fl rfl rfl rfl rfl rfl ?_ | refine pops.skip rfl rfl rfl ?_ | refine pops.load rfl rfl rfl rfl rfl (by first | assumption | exact cload_of (by assumption) rfl) ?_ | refine pops.len rfl rfl rfl rfl rfl rfl rfl rfl (by first | exact SlA.len (by assumption) rfl | exact SlI.len (by assumption) rfl | exact SlS.len (by assumption) rfl | exact Sl.len (by assumption) rfl) ?_)
    refine pops.nil ?_
    repeat (first | refine kthenP.n ?_ | refine kthenP.r ?_ | refine kthenP.e ?_ | refine kblockP.n ?_ | refine kblockP.r ?_ | refine kblockP.e ?_ | refine kblockP.o rfl ?_ | refine Runs.seq ?_ | refine Runs.region ?_ | refine Runs.block ?_ | refine Runs.cond ?_ | refine Runs.skip ?_ | refine Runs.loop ?_ | refine Runs.exit ?_ | refine Runs.ret ?_)
    refine pleave.r rfl ?_
    refine ⟨?_, Gr.refl _⟩
    rw [tt_f (p := NamesP l) (fun hN => by have := hN.2.2.2; omega)]
  have q2 := of_decide_eq_false q2
  repeat (first | refine pops.bin rfl rfl rfl rfl rfl rfl (cbin_inc (by omega)) ?_ | refine pops.fl rfl rfl rfl rfl rfl ?_ | refine pops.skip rfl rfl rfl ?_ | refine pops.load rfl rfl rfl rfl rfl (by first | assumption | exact cload_of (by assumption) rfl) ?_ | refine pops.len rfl rfl rfl rfl rfl rfl rfl rfl (by first | exact SlA.len (by assumption) rfl | exact SlI.len (by assumption) rfl | exact SlS.len (by assumption) rfl | exact Sl.len (by assumption) rfl) ?_)
  refine pops.nil ?_
  repeat (first | refine kthenP.n ?_ | refine kthenP.r ?_ | refine kthenP.e ?_ | refine kblockP.n ?_ | refine kblockP.r ?_ | refine kblockP.e ?_ | refine kblockP.o rfl ?_ | refine Runs.seq ?_ | refine Runs.region ?_ | refine Runs.block ?_ | refine Runs.cond ?_ | refine Runs.skip ?_ | refine Runs.loop ?_ | refine Runs.exit ?_ | refine Runs.ret ?_)
  refine pcond.f rfl ?_
  repeat (first | refine kthenP.n ?_ | refine kthenP.r ?_ | refine kthenP.e ?_ | refine kblockP.n ?_ | refine kblockP.r ?_ | refine kblockP.e ?_ | refine kblockP.o rfl ?_ | refine Runs.seq ?_ | refine Runs.region ?_ | refine Runs.block ?_ | refine Runs.cond ?_ | refine Runs.skip ?_ | refine Runs.loop ?_ | refine Runs.exit ?_ | refine Runs.ret ?_)
  repeat (first | refine pops.bin rfl rfl rfl rfl rfl rfl (cbin_inc (by omega)) ?_ | refine pops.fl rfl rfl rfl rfl rfl ?_ | refine pops.skip rfl rfl rfl ?_ | refine pops.load rfl rfl rfl rfl rfl (by first | assumption | exact cload_of (by assumption) rfl) ?_ | refine pops.len rfl rfl rfl rfl rfl rfl rfl rfl (by first | exact SlA.len (by assumption) rfl | exact SlI.len (by assumption) rfl | exact SlS.len (by assumption) rfl | exact Sl.len (by assumption) rfl) ?_)
  refine pops.nil ?_
  repeat (first | refine kthenP.n ?_ | refine kthenP.r ?_ | refine kthenP.e ?_ | refine kblockP.n ?_ | refine kblockP.r ?_ | refine kblockP.e ?_ | refine kblockP.o rfl ?_ | refine Runs.seq ?_ | refine Runs.region ?_ | refine Runs.block ?_ | refine Runs.cond ?_ | refine Runs.skip ?_ | refine Runs.loop ?_ | refine Runs.exit ?_ | refine Runs.ret ?_)
  refine Loops.ind 6 (fun i : Nat => [(0, v), (2, .bool false), (3, .int .i64 (i : Nat))])
    (fun i h' => i ≤ l.length ∧ Gr h h' ∧ (∀ (j : Nat) s, j < i → l[j]? = some s → namedB s = true ∧ wordB s = false) ∧ ∀ (j k : Nat) x y, j < k → k < i → l[j]? = some x → l[k]? = some y → bytesBeq x.data.toList y.data.toList = false)
    (fun i => l.length - i) 0 (by decide) ⟨rfl, rfl, rfl, trivial⟩ ⟨Nat.zero_le _, Gr.refl _, all_none, fun j k x y h1 h2 => absurd h2 (Nat.not_lt_zero _)⟩ ?_
  rintro i z h' hwf' ⟨hi, g, hall, hdis⟩
  replace hv := Sl.gr hv hwf g
  repeat (first | refine kthenP.n ?_ | refine kthenP.r ?_ | refine kthenP.e ?_ | refine kblockP.n ?_ | refine kblockP.r ?_ | refine kblockP.e ?_ | refine kblockP.o rfl ?_ | refine Runs.seq ?_ | refine Runs.region ?_ | refine Runs.block ?_ | refine Runs.cond ?_ | refine Runs.skip ?_ | refine Runs.loop ?_ | refine Runs.exit ?_ | refine Runs.ret ?_)
  repeat (first | refine pops.bin rfl rfl rfl rfl rfl rfl (cbin_inc (by omega)) ?_ | refine pops.fl rfl rfl rfl rfl rfl ?_ | refine pops.skip rfl rfl rfl ?_ | refine pops.load rfl rfl rfl rfl rfl (by first | assumption | exact cload_of (by assumption) rfl) ?_ | refine pops.len rfl rfl rfl rfl rfl rfl rfl rfl (by first | exact SlA.len (by assumption) rfl | exact SlI.len (by assumption) rfl | exact SlS.len (by assumption) rfl | exact Sl.len (by assumption) rfl) ?_)
  refine pops.nil ?_
  repeat (first | refine kthenP.n ?_ | refine kthenP.r ?_ | refine kthenP.e ?_ | refine kblockP.n ?_ | refine kblockP.r ?_ | refine kblockP.e ?_ | refine kblockP.o rfl ?_ | refine Runs.seq ?_ | refine Runs.region ?_ | refine Runs.block ?_ | refine Runs.cond ?_ | refine Runs.skip ?_ | refine Runs.loop ?_ | refine Runs.exit ?_ | refine Runs.ret ?_)
  refine pcond.d (p := (i : Int) < (l.length : Nat)) rfl (fun hlt' => ?_) (fun hge => ?_)
  · obtain ⟨s, hs⟩ : ∃ x, l[i]? = some x := ⟨_, List.getElem?_eq_getElem (by omega)⟩
    have hsm := List.mem_of_getElem? hs
    have hsl := hlen s hsm
    obtain ⟨p, hp, hq⟩ := Sl.readM hv hwf' (ts := 22) rfl hs .i64
    have hq0 : cload (X w).T h' 9 p = some (.string s) := hq _ (Gr.refl _)
    repeat (first | refine kthenP.n ?_ | refine kthenP.r ?_ | refine kthenP.e ?_ | refine kblockP.n ?_ | refine kblockP.r ?_ | refine kblockP.e ?_ | refine kblockP.o rfl ?_ | refine Runs.seq ?_ | refine Runs.region ?_ | refine Runs.block ?_ | refine Runs.cond ?_ | refine Runs.skip ?_ | refine Runs.loop ?_ | refine Runs.exit ?_ | refine Runs.ret ?_)
    refine PG.startA 24 16777215 _ rfl rfl rfl rfl ?_
    refine PG.take (by decide +kernel) rfl rfl rfl rfl ?_
    refine PG.take (by decide +kernel) rfl rfl rfl rfl ?_
    refine PG.take (by decide +kernel) rfl rfl rfl (hp) ?_
    refine PG.load (by decide +kernel) rfl rfl rfl rfl rfl (by first | assumption | exact cload_of (by assumption) rfl) ?_
    repeat refine PG.skip (by decide +kernel) ?_
    refine PG.nil ?_
    refine pd1.callG 4 rfl (by kernel_rfl) rfl rfl rfl rfl rfl fn_named10 rfl rfl rfl (named10_calls s hsl) fun h2 hwf2 g2 => ?_
    have hq2 : cload (X w).T h2 9 p = some (.string s) := hq _ g2
    refine ⟨_, by (repeat (first | exact Reck.nil | (apply Reck.dropI; decide +kernel) | (apply Reck.keep; rfl) | (apply Reck.load; rfl; rfl; first | assumption | exact cload_of (by assumption) rfl) | (apply Reck.same; rfl) | (apply Reck.inc; rfl; rfl; rfl; omega))), ?_⟩
    cases hn : namedB s with
    | false =>
      repeat (first | refine PG.skip (by decide +kernel) ?_ | refine PG.take (by decide +kernel) rfl rfl rfl rfl ?_ | refine PG.load (by decide +kernel) rfl rfl rfl rfl rfl (by first | assumption | exact cload_of (by assumption) rfl) ?_ | refine PG.drop (by decide +kernel) rfl rfl rfl ?_)
      refine PG.nil ?_
      refine pd1.skipL 11 rfl (by kernel_rfl) rfl rfl rfl (by (repeat (first | exact Reck.nil | (apply Reck.dropI; decide +kernel) | (apply Reck.keep; rfl) | (apply Reck.load; rfl; rfl; first | assumption | exact cload_of (by assumption) rfl) | (apply Reck.same; rfl) | (apply Reck.inc; rfl; rfl; rfl; omega)))) ?_
      repeat (first | refine PG.skip (by decide +kernel) ?_ | refine PG.take (by decide +kernel) rfl rfl rfl rfl ?_ | refine PG.load (by decide +kernel) rfl rfl rfl rfl rfl (by first | assumption | exact cload_of (by assumption) rfl) ?_ | refine PG.drop (by decide +kernel) rfl rfl rfl ?_)
      refine PG.nil ?_
      refine pd1.skipL 21 rfl (by kernel_rfl) rfl rfl rfl (by (repeat (first | exact Reck.nil | (apply Reck.dropI; decide +kernel) | (apply Reck.keep; rfl) | (apply Reck.load; rfl; rfl; first | assumption | exact cload_of (by assumption) rfl) | (apply Reck.same; rfl) | (apply Reck.inc; rfl; rfl; rfl; omega)))) ?_
      repeat (first | refine PG.skip (by decide +kernel) ?_ | refine PG.take (by decide +kernel) rfl rfl rfl rfl ?_ | refine PG.load (by decide +kernel) rfl rfl rfl rfl rfl (by first | assumption | exact cload_of (by assumption) rfl) ?_ | refine PG.drop (by decide +kernel) rfl rfl rfl ?_)
      refine PG.nil ?_
      refine pd1.finA (by kernel_rfl) (by decide +kernel) ?_
      repeat (first | refine kthenP.n ?_ | refine kthenP.r ?_ | refine kthenP.e ?_ | refine kblockP.n ?_ | refine kblockP.r ?_ | refine kblockP.e ?_ | refine kblockP.o rfl ?_ | refine Runs.seq ?_ | refine Runs.region ?_ | refine Runs.block ?_ | refine Runs.cond ?_ | refine Runs.skip ?_ | refine Runs.loop ?_ | refine Runs.exit ?_ | refine Runs.ret ?_)
      refine pcond.t rfl ?_
      repeat (first | refine kthenP.n ?_ | refine kthenP.r ?_ | refine kthenP.e ?_ | refine kblockP.n ?_ | refine kblockP.r ?_ | refine kblockP.e ?_ | refine kblockP.o rfl ?_ | refine Runs.seq ?_ | refine Runs.region ?_ | refine Runs.block ?_ | refine Runs.cond ?_ | refine Runs.skip ?_ | refine Runs.loop ?_ | refine Runs.exit ?_ | refine Runs.ret ?_)
      repeat (first | refine pops.bin rfl rfl rfl rfl rfl rfl (cbin_inc (by omega)) ?_ | refine pops.fl rfl rfl rfl rfl rfl ?_ | refine pops.skip rfl rfl rfl ?_ | refine pops.load rfl rfl rfl rfl rfl (by first | assumption | exact cload_of (by assumption) rfl) ?_ | refine pops.len rfl rfl rfl rfl rfl rfl rfl rfl (by first | exact SlA.len (by assumption) rfl | exact SlI.len (by assumption) rfl | exact SlS.len (by assumption) rfl | exact Sl.len (by assumption) rfl) ?_)
      refine pops.nil ?_
      repeat (first | refine kthenP.n ?_ | refine kthenP.r ?_ | refine kthenP.e ?_ | refine kblockP.n ?_ | refine kblockP.r ?_ | refine kblockP.e ?_ | refine kblockP.o rfl ?_ | refine Runs.seq ?_ | refine Runs.region ?_ | refine Runs.block ?_ | refine Runs.cond ?_ | refine Runs.skip ?_ | refine Runs.loop ?_ | refine Runs.exit ?_ | refine Runs.ret ?_)
      refine pleave.r rfl ?_
      refine ⟨?_, g.trans g2⟩
      rw [tt_f (p := NamesP l) (fun hN => by have := (hN.1 s hsm).1; rw [hn] at this; cases this)]
    | true =>
    repeat refine PG.skip (by decide +kernel) ?_
    refine PG.take (by decide +kernel) rfl rfl rfl rfl ?_
    refine PG.take (by decide +kernel) rfl rfl rfl rfl ?_
    refine PG.take (by decide +kernel) rfl rfl rfl rfl ?_
    refine PG.take (by decide +kernel) rfl rfl rfl rfl ?_
    refine PG.take (by decide +kernel) rfl rfl rfl (hp) ?_
    refine PG.load (by decide +kernel) rfl rfl rfl rfl rfl (by first | assumption | exact cload_of (by assumption) rfl) ?_
    repeat refine PG.skip (by decide +kernel) ?_
    refine PG.nil ?_
    refine pd1.callG 11 rfl (by kernel_rfl) rfl rfl rfl rfl rfl fn_word28 rfl rfl rfl (word28_calls s) fun h3 hwf3 g3 => ?_
    have hq3 : cload (X w).T h3 9 p = some (.string s) := hq _ (g2.trans g3)
    refine ⟨_, by (repeat (first | exact Reck.nil | (apply Reck.dropI; decide +kernel) | (apply Reck.keep; rfl) | (apply Reck.load; rfl; rfl; first | assumption | exact cload_of (by assumption) rfl) | (apply Reck.same; rfl) | (apply Reck.inc; rfl; rfl; rfl; omega))), ?_⟩
    cases hw : wordB s with
    | true =>
      repeat (first | refine PG.skip (by decide +kernel) ?_ | refine PG.take (by decide +kernel) rfl rfl rfl rfl ?_ | refine PG.load (by decide +kernel) rfl rfl rfl rfl rfl (by first | assumption | exact cload_of (by assumption) rfl) ?_ | refine PG.drop (by decide +kernel) rfl rfl rfl ?_)
      refine PG.nil ?_
      refine pd1.skipL 21 rfl (by kernel_rfl) rfl rfl rfl (by (repeat (first | exact Reck.nil | (apply Reck.dropI; decide +kernel) | (apply Reck.keep; rfl) | (apply Reck.load; rfl; rfl; first | assumption | exact cload_of (by assumption) rfl) | (apply Reck.same; rfl) | (apply Reck.inc; rfl; rfl; rfl; omega)))) ?_
      repeat (first | refine PG.skip (by decide +kernel) ?_ | refine PG.take (by decide +kernel) rfl rfl rfl rfl ?_ | refine PG.load (by decide +kernel) rfl rfl rfl rfl rfl (by first | assumption | exact cload_of (by assumption) rfl) ?_ | refine PG.drop (by decide +kernel) rfl rfl rfl ?_)
      refine PG.nil ?_
      refine pd1.finA (by kernel_rfl) (by decide +kernel) ?_
      repeat (first | refine kthenP.n ?_ | refine kthenP.r ?_ | refine kthenP.e ?_ | refine kblockP.n ?_ | refine kblockP.r ?_ | refine kblockP.e ?_ | refine kblockP.o rfl ?_ | refine Runs.seq ?_ | refine Runs.region ?_ | refine Runs.block ?_ | refine Runs.cond ?_ | refine Runs.skip ?_ | refine Runs.loop ?_ | refine Runs.exit ?_ | refine Runs.ret ?_)
      refine pcond.t rfl ?_
      repeat (first | refine kthenP.n ?_ | refine kthenP.r ?_ | refine kthenP.e ?_ | refine kblockP.n ?_ | refine kblockP.r ?_ | refine kblockP.e ?_ | refine kblockP.o rfl ?_ | refine Runs.seq ?_ | refine Runs.region ?_ | refine Runs.block ?_ | refine Runs.cond ?_ | refine Runs.skip ?_ | refine Runs.loop ?_ | refine Runs.exit ?_ | refine Runs.ret ?_)
      repeat (first | refine pops.bin rfl rfl rfl rfl rfl rfl (cbin_inc (by omega)) ?_ | refine pops.fl rfl rfl rfl rfl rfl ?_ | refine pops.skip rfl rfl rfl ?_ | refine pops.load rfl rfl rfl rfl rfl (by first | assumption | exact cload_of (by assumption) rfl) ?_ | refine pops.len rfl rfl rfl rfl rfl rfl rfl rfl (by first | exact SlA.len (by assumption) rfl | exact SlI.len (by assumption) rfl | exact SlS.len (by assumption) rfl | exact Sl.len (by assumption) rfl) ?_)
      refine pops.nil ?_
      repeat (first | refine kthenP.n ?_ | refine kthenP.r ?_ | refine kthenP.e ?_ | refine kblockP.n ?_ | refine kblockP.r ?_ | refine kblockP.e ?_ | refine kblockP.o rfl ?_ | refine Runs.seq ?_ | refine Runs.region ?_ | refine Runs.block ?_ | refine Runs.cond ?_ | refine Runs.skip ?_ | refine Runs.loop ?_ | refine Runs.exit ?_ | refine Runs.ret ?_)
      refine pleave.r rfl ?_
      refine ⟨?_, (g.trans g2).trans g3⟩
      rw [tt_f (p := NamesP l) (fun hN => by have := (hN.1 s hsm).2; rw [hw] at this; cases this)]
    | false =>
    have hv3 := Sl.gr (Sl.gr hv hwf' g2) hwf2 g3
    repeat refine PG.skip (by decide +kernel) ?_
    refine PG.take (by decide +kernel) rfl rfl rfl rfl ?_
    refine PG.take (by decide +kernel) rfl rfl rfl rfl ?_
    refine PG.take (by decide +kernel) rfl rfl rfl rfl ?_
    refine PG.take (by decide +kernel) rfl rfl rfl rfl ?_
    refine PG.slice (l0 := 0) (u0 := i) (by decide +kernel) rfl rfl rfl rfl rfl hv3 rfl rfl hcap rfl rfl (Nat.zero_le _) (by simp; omega) fun s1 hs1 => ?_
    rw [List.drop_zero, ← List.map_take] at hs1
    refine PG.take (by decide +kernel) rfl rfl rfl rfl ?_
    refine PG.take (by decide +kernel) rfl rfl rfl rfl ?_
    refine PG.take (by decide +kernel) rfl rfl rfl (hp) ?_
    refine PG.load (by decide +kernel) rfl rfl rfl rfl rfl (by first | assumption | exact cload_of (by assumption) rfl) ?_
    repeat refine PG.skip (by decide +kernel) ?_
    refine PG.nil ?_
    refine pd1.callR 21 rfl (by kernel_rfl) rfl rfl rfl rfl rfl fn_index28 rfl rfl rfl ((index28_calls s hs1).monoW fun r h4 hwf4 hh => ?_)
    obtain ⟨⟨z, rfl, hz⟩, g4⟩ := hh
    have hq4 : cload (X w).T h4 9 p = some (.string s) := hq _ ((g2.trans g3).trans g4)
    refine ⟨_, rfl, _, by (repeat (first | exact Reck.nil | (apply Reck.dropI; decide +kernel) | (apply Reck.keep; rfl) | (apply Reck.load; rfl; rfl; first | assumption | exact cload_of (by assumption) rfl) | (apply Reck.same; rfl) | (apply Reck.inc; rfl; rfl; rfl; omega))), ?_⟩
    have hkey : inB (l.take i) s = true ↔ ∃ j x, j < i ∧ l[j]? = some x ∧ bytesBeq x.data.toList s.data.toList = true := by
      unfold inB
      rw [List.any_eq_true]
      constructor
      · rintro ⟨x, hx, hb⟩
        obtain ⟨j, hj⟩ := List.mem_iff_getElem?.1 hx
        rw [List.getElem?_take] at hj
        split at hj
        · rename_i hji; exact ⟨j, x, hji, hj, hb⟩
        · cases hj
      · rintro ⟨j, x, hj, hx, hb⟩
        exact ⟨x, List.mem_of_getElem? (i := j) (by rw [List.getElem?_take, if_pos hj]; exact hx), hb⟩
    cases hin : inB (l.take i) s with
    | true =>
      rw [hin] at hz
      repeat refine PG.skip (by decide +kernel) ?_
      refine PG.take (by decide +kernel) rfl rfl rfl ((congrArg (fun b => some (Value.bool b)) hz)) ?_
      refine PG.take (by decide +kernel) rfl rfl rfl rfl ?_
      refine PG.nil ?_
      refine pd1.finA (by kernel_rfl) (by decide +kernel) ?_
      repeat (first | refine kthenP.n ?_ | refine kthenP.r ?_ | refine kthenP.e ?_ | refine kblockP.n ?_ | refine kblockP.r ?_ | refine kblockP.e ?_ | refine kblockP.o rfl ?_ | refine Runs.seq ?_ | refine Runs.region ?_ | refine Runs.block ?_ | refine Runs.cond ?_ | refine Runs.skip ?_ | refine Runs.loop ?_ | refine Runs.exit ?_ | refine Runs.ret ?_)
      refine pcond.t rfl ?_
      repeat (first | refine kthenP.n ?_ | refine kthenP.r ?_ | refine kthenP.e ?_ | refine kblockP.n ?_ | refine kblockP.r ?_ | refine kblockP.e ?_ | refine kblockP.o rfl ?_ | refine Runs.seq ?_ | refine Runs.region ?_ | refine Runs.block ?_ | refine Runs.cond ?_ | refine Runs.skip ?_ | refine Runs.loop ?_ | refine Runs.exit ?_ | refine Runs.ret ?_)
      repeat (first | refine pops.bin rfl rfl rfl rfl rfl rfl (cbin_inc (by omega)) ?_ | refine pops.fl rfl rfl rfl rfl rfl ?_ | refine pops.skip rfl rfl rfl ?_ | refine pops.load rfl rfl rfl rfl rfl (by first | assumption | exact cload_of (by assumption) rfl) ?_ | refine pops.len rfl rfl rfl rfl rfl rfl rfl rfl (by first | exact SlA.len (by assumption) rfl | exact SlI.len (by assumption) rfl | exact SlS.len (by assumption) rfl | exact Sl.len (by assumption) rfl) ?_)
      refine pops.nil ?_
      repeat (first | refine kthenP.n ?_ | refine kthenP.r ?_ | refine kthenP.e ?_ | refine kblockP.n ?_ | refine kblockP.r ?_ | refine kblockP.e ?_ | refine kblockP.o rfl ?_ | refine Runs.seq ?_ | refine Runs.region ?_ | refine Runs.block ?_ | refine Runs.cond ?_ | refine Runs.skip ?_ | refine Runs.loop ?_ | refine Runs.exit ?_ | refine Runs.ret ?_)
      refine pleave.r rfl ?_
      refine ⟨?_, ((g.trans g2).trans g3).trans g4⟩
      obtain ⟨j, x, h1, h2, h3⟩ := hkey.1 hin
      rw [tt_f (p := NamesP l) (fun hN => by have := hN.2.1 j i x s h1 h2 hs; rw [this] at h3; cases h3)]
    | false =>
      rw [hin] at hz
      repeat refine PG.skip (by decide +kernel) ?_
      refine PG.take (by decide +kernel) rfl rfl rfl ((congrArg (fun b => some (Value.bool b)) hz)) ?_
      refine PG.take (by decide +kernel) rfl rfl rfl rfl ?_
      refine PG.nil ?_
      refine pd1.finA (by kernel_rfl) (by decide +kernel) ?_
      repeat (first | refine kthenP.n ?_ | refine kthenP.r ?_ | refine kthenP.e ?_ | refine kblockP.n ?_ | refine kblockP.r ?_ | refine kblockP.e ?_ | refine kblockP.o rfl ?_ | refine Runs.seq ?_ | refine Runs.region ?_ | refine Runs.block ?_ | refine Runs.cond ?_ | refine Runs.skip ?_ | refine Runs.loop ?_ | refine Runs.exit ?_ | refine Runs.ret ?_)
      refine pcond.f rfl ?_
      repeat (first | refine kthenP.n ?_ | refine kthenP.r ?_ | refine kthenP.e ?_ | refine kblockP.n ?_ | refine kblockP.r ?_ | refine kblockP.e ?_ | refine kblockP.o rfl ?_ | refine Runs.seq ?_ | refine Runs.region ?_ | refine Runs.block ?_ | refine Runs.cond ?_ | refine Runs.skip ?_ | refine Runs.loop ?_ | refine Runs.exit ?_ | refine Runs.ret ?_)
      repeat (first | refine pops.bin rfl rfl rfl rfl rfl rfl (cbin_inc (by omega)) ?_ | refine pops.fl rfl rfl rfl rfl rfl ?_ | refine pops.skip rfl rfl rfl ?_ | refine pops.load rfl rfl rfl rfl rfl (by first | assumption | exact cload_of (by assumption) rfl) ?_ | refine pops.len rfl rfl rfl rfl rfl rfl rfl rfl (by first | exact SlA.len (by assumption) rfl | exact SlI.len (by assumption) rfl | exact SlS.len (by assumption) rfl | exact Sl.len (by assumption) rfl) ?_)
      refine pops.nil ?_
      refine .n ⟨_, i + 1, rfl, ⟨rfl, rfl, rfl, trivial⟩, (by show l.length - (i + 1) < l.length - i; omega), by omega, ((g.trans g2).trans g3).trans g4, all_next hall hs ⟨hn, hw⟩, fun j k x y h1 h2 h3 h4 => ?_⟩
      rcases Nat.lt_or_ge k i with h5 | h5
      · exact hdis j k x y h1 h5 h3 h4
      · obtain rfl : k = i := by omega
        rw [hs] at h4
        cases h4
        cases hbb : bytesBeq x.data.toList s.data.toList with
        | false => rfl
        | true => rw [hkey.2 ⟨j, x, h1, h3, hbb⟩] at hin; cases hin
  · repeat (first | refine kthenP.n ?_ | refine kthenP.r ?_ | refine kthenP.e ?_ | refine kblockP.n ?_ | refine kblockP.r ?_ | refine kblockP.e ?_ | refine kblockP.o rfl ?_ | refine Runs.seq ?_ | refine Runs.region ?_ | refine Runs.block ?_ | refine Runs.cond ?_ | refine Runs.skip ?_ | refine Runs.loop ?_ | refine Runs.exit ?_ | refine Runs.ret ?_)
    repeat (first | refine pops.bin rfl rfl rfl rfl rfl rfl (cbin_inc (by omega)) ?_ | refine pops.fl rfl rfl rfl rfl rfl ?_ | refine pops.skip rfl rfl rfl ?_ | refine pops.load rfl rfl rfl rfl rfl (by first | assumption | exact cload_of (by assumption) rfl) ?_ | refine pops.len rfl rfl rfl rfl rfl rfl rfl rfl (by first | exact SlA.len (by assumption) rfl | exact SlI.len (by assumption) rfl | exact SlS.len (by assumption) rfl | exact Sl.len (by assumption) rfl) ?_)
    refine pops.nil ?_
    repeat (first | refine kthenP.n ?_ | refine kthenP.r ?_ | refine kthenP.e ?_ | refine kblockP.n ?_ | refine kblockP.r ?_ | refine kblockP.e ?_ | refine kblockP.o rfl ?_ | refine Runs.seq ?_ | refine Runs.region ?_ | refine Runs.block ?_ | refine Runs.cond ?_ | refine Runs.skip ?_ | refine Runs.loop ?_ | refine Runs.exit ?_ | refine Runs.ret ?_)
    refine pleave.r rfl ?_
    refine ⟨?_, g⟩
    rw [tt_t (p := NamesP l) ⟨all_end hall (by omega), fun j k x y h1 h2 h3 => hdis j k x y h1 (by have := (List.getElem?_eq_some_iff.1 h3).1; omega) h2 h3, by omega, by omega⟩]
end Go.Proofs.YtnchhgjoiboibaaGreatDoor

set_option maxRecDepth 100000
set_option linter.unusedVariables false
set_option linter.unusedSimpArgs false
namespace Go.Proofs.YtnchhgjoiboibaaGreatDoor
open Go.Cx
variable {w : World} {h : CH}
theorem fn_Parts28 : tab.fn 17 = some Tryz.f17 := by kernel_rfl
theorem Parts28_calls : ∀ (N most : Nat), most ≤ N → N ≤ 1000000 → ∀ {h : CH} {v : Value} {p : Pat}, PatV tab kp h v p → CalF (X w) 17 [v, .int .i64 (most : Int)] h fun r h' => r = .ret (.int .i64 (partsM most p : Nat)) ∧ Gr h h' := by
  intro N
  induction N with
  | zero =>
    intro most hm _ h v p hv
    obtain rfl : most = 0 := by omega
    refine CalF.wf fun hwf => ?_
    obtain ⟨c, s, rfl, oc, os, hc, hs⟩ := hv.open
    have hpp : partsOf p = 1 + partsL p.subs := by cases p; simp [partsOf, Pat.subs]
    have hP : partsM 0 p = 1 := by unfold partsM; omega
    have ls := hs.lt
    refine CalF.intro fn_Parts28 rfl (Nat.le_of_ble_eq_true rfl) ?_
    repeat (first | refine kthenP.n ?_ | refine kthenP.r ?_ | refine kthenP.e ?_ | refine kblockP.n ?_ | refine kblockP.r ?_ | refine kblockP.e ?_ | refine kblockP.o rfl ?_ | refine Runs.seq ?_ | refine Runs.region ?_ | refine Runs.block ?_ | refine Runs.cond ?_ | refine Runs.skip ?_ | refine Runs.loop ?_ | refine Runs.exit ?_ | refine Runs.ret ?_)
    refine pops.box (cs := [.int .i64 p.kind, c, s]) rfl rfl rfl rfl (by simp only [List.all_cons, List.all_nil, oc, os, Bool.and_true]; rfl) rfl rfl hwf fun b h1 hb hwf1 g1 hcb => ?_
    replace hs := PatsV.gr hwf g1 hs
    refine pops.fl rfl rfl rfl rfl rfl ?_
    refine pops.nil ?_
    repeat (first | refine kthenP.n ?_ | refine kthenP.r ?_ | refine kthenP.e ?_ | refine kblockP.n ?_ | refine kblockP.r ?_ | refine kblockP.e ?_ | refine kblockP.o rfl ?_ | refine Runs.seq ?_ | refine Runs.region ?_ | refine Runs.block ?_ | refine Runs.cond ?_ | refine Runs.skip ?_ | refine Runs.loop ?_ | refine Runs.exit ?_ | refine Runs.ret ?_)
    refine pops.fl rfl rfl rfl rfl rfl ?_
    refine pops.nil ?_
    repeat (first | refine kthenP.n ?_ | refine kthenP.r ?_ | refine kthenP.e ?_ | refine kblockP.n ?_ | refine kblockP.r ?_ | refine kblockP.e ?_ | refine kblockP.o rfl ?_ | refine Runs.seq ?_ | refine Runs.region ?_ | refine Runs.block ?_ | refine Runs.cond ?_ | refine Runs.skip ?_ | refine Runs.loop ?_ | refine Runs.exit ?_ | refine Runs.ret ?_)
    repeat (first | refine pops.bin rfl rfl rfl rfl rfl rfl (cbin_inc (by omega)) ?_ | refine pops.fl rfl rfl rfl rfl rfl ?_ | refine pops.skip rfl rfl rfl ?_ | refine pops.load rfl rfl rfl rfl rfl (by first | assumption | exact cload_of (by assumption) rfl) ?_ | refine pops.len rfl rfl rfl rfl rfl rfl rfl rfl (by first | exact SlA.len (by assumption) rfl | exact SlI.len (by assumption) rfl | exact SlS.len (by assumption) rfl | exact Sl.len (by assumption) rfl) ?_)
    refine pops.nil ?_
    repeat (first | refine kthenP.n ?_ | refine kthenP.r ?_ | refine kthenP.e ?_ | refine kblockP.n ?_ | refine kblockP.r ?_ | refine kblockP.e ?_ | refine kblockP.o rfl ?_ | refine Runs.seq ?_ | refine Runs.region ?_ | refine Runs.block ?_ | refine Runs.cond ?_ | refine Runs.skip ?_ | refine Runs.loop ?_ | refine Runs.exit ?_ | refine Runs.ret ?_)
    refine Loops.ind 5 (fun i : Nat => [(1, .int .i64 ((0 : Nat) : Int)), (2, .pointer (some ⟨b, 0, none⟩)), (4, .int .i64 0), (5, .int .i64 1), (6, .int .i64 (i : Nat))]) (fun i h' => i ≤ p.subs.length ∧ h' = h1) (fun i => p.subs.length - i) 0 (by decide) ⟨rfl, rfl, rfl, rfl, rfl, trivial⟩ ⟨Nat.zero_le _, rfl⟩ ?_
    rintro i z h' hwf' ⟨hi, rfl⟩
    repeat (first | refine kthenP.n ?_ | refine kthenP.r ?_ | refine kthenP.e ?_ | refine kblockP.n ?_ | refine kblockP.r ?_ | refine kblockP.e ?_ | refine kblockP.o rfl ?_ | refine Runs.seq ?_ | refine Runs.region ?_ | refine Runs.block ?_ | refine Runs.cond ?_ | refine Runs.skip ?_ | refine Runs.loop ?_ | refine Runs.exit ?_ | refine Runs.ret ?_)
    repeat (first | refine pops.bin rfl rfl rfl rfl rfl rfl (cbin_inc (by omega)) ?_ | refine pops.fd rfl rfl rfl rfl rfl rfl ?_ | refine pops.skip rfl rfl rfl ?_ | refine pops.load rfl rfl rfl rfl rfl (by first | assumption | exact cload_of (by assumption) rfl) ?_ | refine pops.len rfl rfl rfl rfl rfl rfl rfl rfl (by first | exact SlA.len (by assumption) rfl | exact SlI.len (by assumption) rfl | exact SlS.len (by assumption) rfl | exact Sl.len (by assumption) rfl) ?_)
    refine pops.cmp rfl rfl rfl rfl rfl (fun q1 => ?_) (fun q1 => ?_)
    · repeat (first | refine pops.bin rfl rfl rfl rfl rfl rfl (cbin_inc (by omega)) ?_ | refine pops.fl rfl rfl rfl rfl rfl ?_ | refine pops.skip rfl rfl rfl ?_ | refine pops.load rfl rfl rfl rfl rfl (by first | assumption | exact cload_of (by assumption) rfl) ?_ | refine pops.len rfl rfl rfl rfl rfl rfl rfl rfl (by first | exact SlA.len (by assumption) rfl | exact SlI.len (by assumption) rfl | exact SlS.len (by assumption) rfl | exact Sl.len (by assumption) rfl) ?_)
      refine pops.nil ?_
      repeat (first | refine kthenP.n ?_ | refine kthenP.r ?_ | refine kthenP.e ?_ | refine kblockP.n ?_ | refine kblockP.r ?_ | refine kblockP.e ?_ | refine kblockP.o rfl ?_ | refine Runs.seq ?_ | refine Runs.region ?_ | refine Runs.block ?_ | refine Runs.cond ?_ | refine Runs.skip ?_ | refine Runs.loop ?_ | refine Runs.exit ?_ | refine Runs.ret ?_)
      refine pcond.f rfl ?_
      repeat (first | refine kthenP.n ?_ | refine kthenP.r ?_ | refine kthenP.e ?_ | refine kblockP.n ?_ | refine kblockP.r ?_ | refine kblockP.e ?_ | refine kblockP.o rfl ?_ | refine Runs.seq ?_ | refine Runs.region ?_ | refine Runs.block ?_ | refine Runs.cond ?_ | refine Runs.skip ?_ | refine Runs.loop ?_ | refine Runs.exit ?_ | refine Runs.ret ?_)
      repeat (first | refine pops.bin rfl rfl rfl rfl rfl rfl (cbin_inc (by omega)) ?_ | refine pops.fl rfl rfl rfl rfl rfl ?_ | refine pops.skip rfl rfl rfl ?_ | refine pops.load rfl rfl rfl rfl rfl (by first | assumption | exact cload_of (by assumption) rfl) ?_ | refine pops.len rfl rfl rfl rfl rfl rfl rfl rfl (by first | exact SlA.len (by assumption) rfl | exact SlI.len (by assumption) rfl | exact SlS.len (by assumption) rfl | exact Sl.len (by assumption) rfl) ?_)
      refine pops.nil ?_
      repeat (first | refine kthenP.n ?_ | refine kthenP.r ?_ | refine kthenP.e ?_ | refine kblockP.n ?_ | refine kblockP.r ?_ | refine kblockP.e ?_ | refine kblockP.o rfl ?_ | refine Runs.seq ?_ | refine Runs.region ?_ | refine Runs.block ?_ | refine Runs.cond ?_ | refine Runs.skip ?_ | refine Runs.loop ?_ | refine Runs.exit ?_ | refine Runs.ret ?_)
      refine pleave.r rfl ?_
      refine ⟨?_, g1⟩
      rw [hP]
      rfl
    · repeat (first | refine pops.bin rfl rfl rfl rfl rfl rfl (cbin_inc (by omega)) ?_ | refine pops.fl rfl rfl rfl rfl rfl ?_ | refine pops.skip rfl rfl rfl ?_ | refine pops.load rfl rfl rfl rfl rfl (by first | assumption | exact cload_of (by assumption) rfl) ?_ | refine pops.len rfl rfl rfl rfl rfl rfl rfl rfl (by first | exact SlA.len (by assumption) rfl | exact SlI.len (by assumption) rfl | exact SlS.len (by assumption) rfl | exact Sl.len (by assumption) rfl) ?_)
      refine pops.nil ?_
      repeat (first | refine kthenP.n ?_ | refine kthenP.r ?_ | refine kthenP.e ?_ | refine kblockP.n ?_ | refine kblockP.r ?_ | refine kblockP.e ?_ | refine kblockP.o rfl ?_ | refine Runs.seq ?_ | refine Runs.region ?_ | refine Runs.block ?_ | refine Runs.cond ?_ | refine Runs.skip ?_ | refine Runs.loop ?_ | refine Runs.exit ?_ | refine Runs.ret ?_)
      refine pcond.f rfl ?_
      repeat (first | refine kthenP.n ?_ | refine kthenP.r ?_ | refine kthenP.e ?_ | refine kblockP.n ?_ | refine kblockP.r ?_ | refine kblockP.e ?_ | refine kblockP.o rfl ?_ | refine Runs.seq ?_ | refine Runs.region ?_ | refine Runs.block ?_ | refine Runs.cond ?_ | refine Runs.skip ?_ | refine Runs.loop ?_ | refine Runs.exit ?_ | refine Runs.ret ?_)
      repeat (first | refine pops.bin rfl rfl rfl rfl rfl rfl (cbin_inc (by omega)) ?_ | refine pops.fl rfl rfl rfl rfl rfl ?_ | refine pops.skip rfl rfl rfl ?_ | refine pops.load rfl rfl rfl rfl rfl (by first | assumption | exact cload_of (by assumption) rfl) ?_ | refine pops.len rfl rfl rfl rfl rfl rfl rfl rfl (by first | exact SlA.len (by assumption) rfl | exact SlI.len (by assumption) rfl | exact SlS.len (by assumption) rfl | exact Sl.len (by assumption) rfl) ?_)
      refine pops.nil ?_
      repeat (first | refine kthenP.n ?_ | refine kthenP.r ?_ | refine kthenP.e ?_ | refine kblockP.n ?_ | refine kblockP.r ?_ | refine kblockP.e ?_ | refine kblockP.o rfl ?_ | refine Runs.seq ?_ | refine Runs.region ?_ | refine Runs.block ?_ | refine Runs.cond ?_ | refine Runs.skip ?_ | refine Runs.loop ?_ | refine Runs.exit ?_ | refine Runs.ret ?_)
      refine pleave.r rfl ?_
      refine ⟨?_, g1⟩
      rw [hP]
      rfl
  | succ N ih =>
    intro most hm hN h v p hv
    refine CalF.wf fun hwf => ?_
    obtain ⟨c, s, rfl, oc, os, hc, hs⟩ := hv.open
    have hpp : partsOf p = 1 + partsL p.subs := by cases p; simp [partsOf, Pat.subs]
    have ls := hs.lt
    refine CalF.intro fn_Parts28 rfl (Nat.le_of_ble_eq_true rfl) ?_
    repeat (first | refine kthenP.n ?_ | refine kthenP.r ?_ | refine kthenP.e ?_ | refine kblockP.n ?_ | refine kblockP.r ?_ | refine kblockP.e ?_ | refine kblockP.o rfl ?_ | refine Runs.seq ?_ | refine Runs.region ?_ | refine Runs.block ?_ | refine Runs.cond ?_ | refine Runs.skip ?_ | refine Runs.loop ?_ | refine Runs.exit ?_ | refine Runs.ret ?_)
    refine pops.box (cs := [.int .i64 p.kind, c, s]) rfl rfl rfl rfl (by simp only [List.all_cons, List.all_nil, oc, os, Bool.and_true]; rfl) rfl rfl hwf fun b h1 hb hwf1 g1 hcb => ?_
    replace hs := PatsV.gr hwf g1 hs
    refine pops.fl rfl rfl rfl rfl rfl ?_
    refine pops.nil ?_
    repeat (first | refine kthenP.n ?_ | refine kthenP.r ?_ | refine kthenP.e ?_ | refine kblockP.n ?_ | refine kblockP.r ?_ | refine kblockP.e ?_ | refine kblockP.o rfl ?_ | refine Runs.seq ?_ | refine Runs.region ?_ | refine Runs.block ?_ | refine Runs.cond ?_ | refine Runs.skip ?_ | refine Runs.loop ?_ | refine Runs.exit ?_ | refine Runs.ret ?_)
    refine pops.fl rfl rfl rfl rfl rfl ?_
    refine pops.nil ?_
    repeat (first | refine kthenP.n ?_ | refine kthenP.r ?_ | refine kthenP.e ?_ | refine kblockP.n ?_ | refine kblockP.r ?_ | refine kblockP.e ?_ | refine kblockP.o rfl ?_ | refine Runs.seq ?_ | refine Runs.region ?_ | refine Runs.block ?_ | refine Runs.cond ?_ | refine Runs.skip ?_ | refine Runs.loop ?_ | refine Runs.exit ?_ | refine Runs.ret ?_)
    repeat (first | refine pops.bin rfl rfl rfl rfl rfl rfl (cbin_inc (by omega)) ?_ | refine pops.fl rfl rfl rfl rfl rfl ?_ | refine pops.skip rfl rfl rfl ?_ | refine pops.load rfl rfl rfl rfl rfl (by first | assumption | exact cload_of (by assumption) rfl) ?_ | refine pops.len rfl rfl rfl rfl rfl rfl rfl rfl (by first | exact SlA.len (by assumption) rfl | exact SlI.len (by assumption) rfl | exact SlS.len (by assumption) rfl | exact Sl.len (by assumption) rfl) ?_)
    refine pops.nil ?_
    repeat (first | refine kthenP.n ?_ | refine kthenP.r ?_ | refine kthenP.e ?_ | refine kblockP.n ?_ | refine kblockP.r ?_ | refine kblockP.e ?_ | refine kblockP.o rfl ?_ | refine Runs.seq ?_ | refine Runs.region ?_ | refine Runs.block ?_ | refine Runs.cond ?_ | refine Runs.skip ?_ | refine Runs.loop ?_ | refine Runs.exit ?_ | refine Runs.ret ?_)
    refine Loops.ind 5 (fun i : Nat => [(1, .int .i64 (most : Int)), (2, .pointer (some ⟨b, 0, none⟩)), (4, .int .i64 0), (5, .int .i64 (min (1 + partsL (p.subs.take i)) (most + 1) : Nat)), (6, .int .i64 (i : Nat))]) (fun i h' => i ≤ p.subs.length ∧ Gr h1 h') (fun i => p.subs.length - i) 0 (by decide) ⟨rfl, rfl, rfl, (by show some (Value.int .i64 1) = some (Value.int .i64 ((min (1 + partsL []) (most + 1) : Nat) : Int)); rw [show min (1 + partsL []) (most + 1) = 1 by simp [partsL]]; rfl), rfl, trivial⟩ ⟨Nat.zero_le _, Gr.refl _⟩ ?_
    rintro i z h' hwf' ⟨hi, g2⟩
    replace hs := PatsV.gr hwf1 g2 hs
    replace hcb := g2.at hwf1 hcb
    repeat (first | refine kthenP.n ?_ | refine kthenP.r ?_ | refine kthenP.e ?_ | refine kblockP.n ?_ | refine kblockP.r ?_ | refine kblockP.e ?_ | refine kblockP.o rfl ?_ | refine Runs.seq ?_ | refine Runs.region ?_ | refine Runs.block ?_ | refine Runs.cond ?_ | refine Runs.skip ?_ | refine Runs.loop ?_ | refine Runs.exit ?_ | refine Runs.ret ?_)
    repeat (first | refine pops.bin rfl rfl rfl rfl rfl rfl (cbin_inc (by omega)) ?_ | refine pops.fd rfl rfl rfl rfl rfl rfl ?_ | refine pops.skip rfl rfl rfl ?_ | refine pops.load rfl rfl rfl rfl rfl (by first | assumption | exact cload_of (by assumption) rfl) ?_ | refine pops.len rfl rfl rfl rfl rfl rfl rfl rfl (by first | exact SlA.len (by assumption) rfl | exact SlI.len (by assumption) rfl | exact SlS.len (by assumption) rfl | exact Sl.len (by assumption) rfl) ?_)
    refine pops.cmp rfl rfl rfl rfl rfl (fun q1 => ?_) (fun q1 => ?_)
    · have q1 := of_decide_eq_true q1
      repeat (first | refine pops.bin rfl rfl rfl rfl rfl rfl (cbin_inc (by omega)) ?_ | refine pops.fd rfl rfl rfl rfl rfl rfl ?_ | refine pops.skip rfl rfl rfl ?_ | refine pops.load rfl rfl rfl rfl rfl (by first | assumption | exact cload_of (by assumption) rfl) ?_ | refine pops.len rfl rfl rfl rfl rfl rfl rfl rfl (by first | exact SlA.len (by assumption) rfl | exact SlI.len (by assumption) rfl | exact SlS.len (by assumption) rfl | exact Sl.len (by assumption) rfl) ?_)
      refine pops.cmp rfl rfl rfl rfl rfl (fun q2 => ?_) (fun q2 => ?_)
      · have q2 := of_decide_eq_true q2
        have hlt : i < p.subs.length := by omega
        obtain ⟨q, hq⟩ : ∃ q, p.subs[i]? = some q := ⟨_, List.getElem?_eq_getElem hlt⟩
        have hpt := partsL_take hq
        generalize hm1 : 1 + partsL (p.subs.take i) = m1 at *
        have hle : min m1 (most + 1) = m1 := by omega
        rw [hle] at *
        have hm1' : m1 ≤ most := by omega
        have h1m : 1 ≤ m1 := by omega
        repeat (first | refine pops.bin rfl rfl rfl rfl rfl rfl (cbin_inc (by omega)) ?_ | refine pops.fl rfl rfl rfl rfl rfl ?_ | refine pops.skip rfl rfl rfl ?_ | refine pops.load rfl rfl rfl rfl rfl (by first | assumption | exact cload_of (by assumption) rfl) ?_ | refine pops.len rfl rfl rfl rfl rfl rfl rfl rfl (by first | exact SlA.len (by assumption) rfl | exact SlI.len (by assumption) rfl | exact SlS.len (by assumption) rfl | exact Sl.len (by assumption) rfl) ?_)
        refine pops.nil ?_
        repeat (first | refine kthenP.n ?_ | refine kthenP.r ?_ | refine kthenP.e ?_ | refine kblockP.n ?_ | refine kblockP.r ?_ | refine kblockP.e ?_ | refine kblockP.o rfl ?_ | refine Runs.seq ?_ | refine Runs.region ?_ | refine Runs.block ?_ | refine Runs.cond ?_ | refine Runs.skip ?_ | refine Runs.loop ?_ | refine Runs.exit ?_ | refine Runs.ret ?_)
        refine pcond.t rfl ?_
        repeat (first | refine kthenP.n ?_ | refine kthenP.r ?_ | refine kthenP.e ?_ | refine kblockP.n ?_ | refine kblockP.r ?_ | refine kblockP.e ?_ | refine kblockP.o rfl ?_ | refine Runs.seq ?_ | refine Runs.region ?_ | refine Runs.block ?_ | refine Runs.cond ?_ | refine Runs.skip ?_ | refine Runs.loop ?_ | refine Runs.exit ?_ | refine Runs.ret ?_)
        refine pops.fl rfl rfl rfl rfl rfl ?_
        refine pops.fl rfl rfl rfl rfl rfl ?_
        refine pops.load rfl rfl rfl rfl rfl (by first | assumption | exact cload_of (by assumption) rfl) ?_
        refine pops.fl rfl rfl rfl rfl rfl ?_
        refine pops.atA rfl rfl rfl rfl rfl rfl rfl hs hq fun a u ha hu => ?_
        refine pops.load rfl rfl rfl rfl rfl (by first | assumption | exact cload_of (by assumption) rfl) ?_
        refine pops.fl rfl rfl rfl rfl rfl ?_
        refine pops.fl rfl rfl rfl rfl rfl ?_
        refine pops.bin rfl rfl rfl rfl rfl rfl (cbin_subI (by omega) (by omega)) ?_
        have e1 : (most : Int) - (m1 : Int) = ((most - m1 : Nat) : Int) := by omega
        rw [e1]
        refine pops.callG rfl rfl rfl rfl rfl fn_Parts28 rfl rfl rfl (ih (most - m1) (by omega) (by omega) hu) fun h5 hwf5 g5 => ?_
        have hb2 : partsM (most - m1) q ≤ most + 1 := by unfold partsM; omega
        refine pops.bin rfl rfl rfl rfl rfl rfl (cbin_addN (by omega)) ?_
        repeat (first | refine pops.bin rfl rfl rfl rfl rfl rfl (cbin_inc (by omega)) ?_ | refine pops.fl rfl rfl rfl rfl rfl ?_ | refine pops.skip rfl rfl rfl ?_ | refine pops.load rfl rfl rfl rfl rfl (by first | assumption | exact cload_of (by assumption) rfl) ?_ | refine pops.len rfl rfl rfl rfl rfl rfl rfl rfl (by first | exact SlA.len (by assumption) rfl | exact SlI.len (by assumption) rfl | exact SlS.len (by assumption) rfl | exact Sl.len (by assumption) rfl) ?_)
        refine pops.nil ?_
        repeat (first | refine kthenP.n ?_ | refine kthenP.r ?_ | refine kthenP.e ?_ | refine kblockP.n ?_ | refine kblockP.r ?_ | refine kblockP.e ?_ | refine kblockP.o rfl ?_ | refine Runs.seq ?_ | refine Runs.region ?_ | refine Runs.block ?_ | refine Runs.cond ?_ | refine Runs.skip ?_ | refine Runs.loop ?_ | refine Runs.exit ?_ | refine Runs.ret ?_)
        repeat (first | refine pops.bin rfl rfl rfl rfl rfl rfl (cbin_inc (by omega)) ?_ | refine pops.fl rfl rfl rfl rfl rfl ?_ | refine pops.skip rfl rfl rfl ?_ | refine pops.load rfl rfl rfl rfl rfl (by first | assumption | exact cload_of (by assumption) rfl) ?_ | refine pops.len rfl rfl rfl rfl rfl rfl rfl rfl (by first | exact SlA.len (by assumption) rfl | exact SlI.len (by assumption) rfl | exact SlS.len (by assumption) rfl | exact Sl.len (by assumption) rfl) ?_)
        refine pops.nil ?_
        refine .n ⟨_, i + 1, rfl, ⟨rfl, rfl, rfl, ?_, rfl, trivial⟩, (by show p.subs.length - (i + 1) < p.subs.length - i; omega), by omega, g2.trans g5⟩
        have e2 : m1 + partsM (most - m1) q = min (1 + partsL (p.subs.take (i + 1))) (most + 1) := by
          unfold partsM
          rw [hpt]
          omega
        rw [← e2]
        rfl
      · have q2 := of_decide_eq_false q2
        repeat (first | refine pops.bin rfl rfl rfl rfl rfl rfl (cbin_inc (by omega)) ?_ | refine pops.fl rfl rfl rfl rfl rfl ?_ | refine pops.skip rfl rfl rfl ?_ | refine pops.load rfl rfl rfl rfl rfl (by first | assumption | exact cload_of (by assumption) rfl) ?_ | refine pops.len rfl rfl rfl rfl rfl rfl rfl rfl (by first | exact SlA.len (by assumption) rfl | exact SlI.len (by assumption) rfl | exact SlS.len (by assumption) rfl | exact Sl.len (by assumption) rfl) ?_)
        refine pops.nil ?_
        repeat (first | refine kthenP.n ?_ | refine kthenP.r ?_ | refine kthenP.e ?_ | refine kblockP.n ?_ | refine kblockP.r ?_ | refine kblockP.e ?_ | refine kblockP.o rfl ?_ | refine Runs.seq ?_ | refine Runs.region ?_ | refine Runs.block ?_ | refine Runs.cond ?_ | refine Runs.skip ?_ | refine Runs.loop ?_ | refine Runs.exit ?_ | refine Runs.ret ?_)
        refine pcond.f rfl ?_
        repeat (first | refine kthenP.n ?_ | refine kthenP.r ?_ | refine kthenP.e ?_ | refine kblockP.n ?_ | refine kblockP.r ?_ | refine kblockP.e ?_ | refine kblockP.o rfl ?_ | refine Runs.seq ?_ | refine Runs.region ?_ | refine Runs.block ?_ | refine Runs.cond ?_ | refine Runs.skip ?_ | refine Runs.loop ?_ | refine Runs.exit ?_ | refine Runs.ret ?_)
        repeat (first | refine pops.bin rfl rfl rfl rfl rfl rfl (cbin_inc (by omega)) ?_ | refine pops.fl rfl rfl rfl rfl rfl ?_ | refine pops.skip rfl rfl rfl ?_ | refine pops.load rfl rfl rfl rfl rfl (by first | assumption | exact cload_of (by assumption) rfl) ?_ | refine pops.len rfl rfl rfl rfl rfl rfl rfl rfl (by first | exact SlA.len (by assumption) rfl | exact SlI.len (by assumption) rfl | exact SlS.len (by assumption) rfl | exact Sl.len (by assumption) rfl) ?_)
        refine pops.nil ?_
        repeat (first | refine kthenP.n ?_ | refine kthenP.r ?_ | refine kthenP.e ?_ | refine kblockP.n ?_ | refine kblockP.r ?_ | refine kblockP.e ?_ | refine kblockP.o rfl ?_ | refine Runs.seq ?_ | refine Runs.region ?_ | refine Runs.block ?_ | refine Runs.cond ?_ | refine Runs.skip ?_ | refine Runs.loop ?_ | refine Runs.exit ?_ | refine Runs.ret ?_)
        refine pleave.r rfl ?_
        refine ⟨?_, g1.trans g2⟩
        have := partsL_le (l := p.subs) i
        have e2 : min (1 + partsL (p.subs.take i)) (most + 1) = partsM most p := by
          unfold partsM
          omega
        rw [e2]
    · have q1 := of_decide_eq_false q1
      repeat (first | refine pops.bin rfl rfl rfl rfl rfl rfl (cbin_inc (by omega)) ?_ | refine pops.fl rfl rfl rfl rfl rfl ?_ | refine pops.skip rfl rfl rfl ?_ | refine pops.load rfl rfl rfl rfl rfl (by first | assumption | exact cload_of (by assumption) rfl) ?_ | refine pops.len rfl rfl rfl rfl rfl rfl rfl rfl (by first | exact SlA.len (by assumption) rfl | exact SlI.len (by assumption) rfl | exact SlS.len (by assumption) rfl | exact Sl.len (by assumption) rfl) ?_)
      refine pops.nil ?_
      repeat (first | refine kthenP.n ?_ | refine kthenP.r ?_ | refine kthenP.e ?_ | refine kblockP.n ?_ | refine kblockP.r ?_ | refine kblockP.e ?_ | refine kblockP.o rfl ?_ | refine Runs.seq ?_ | refine Runs.region ?_ | refine Runs.block ?_ | refine Runs.cond ?_ | refine Runs.skip ?_ | refine Runs.loop ?_ | refine Runs.exit ?_ | refine Runs.ret ?_)
      refine pcond.f rfl ?_
      repeat (first | refine kthenP.n ?_ | refine kthenP.r ?_ | refine kthenP.e ?_ | refine kblockP.n ?_ | refine kblockP.r ?_ | refine kblockP.e ?_ | refine kblockP.o rfl ?_ | refine Runs.seq ?_ | refine Runs.region ?_ | refine Runs.block ?_ | refine Runs.cond ?_ | refine Runs.skip ?_ | refine Runs.loop ?_ | refine Runs.exit ?_ | refine Runs.ret ?_)
      repeat (first | refine pops.bin rfl rfl rfl rfl rfl rfl (cbin_inc (by omega)) ?_ | refine pops.fl rfl rfl rfl rfl rfl ?_ | refine pops.skip rfl rfl rfl ?_ | refine pops.load rfl rfl rfl rfl rfl (by first | assumption | exact cload_of (by assumption) rfl) ?_ | refine pops.len rfl rfl rfl rfl rfl rfl rfl rfl (by first | exact SlA.len (by assumption) rfl | exact SlI.len (by assumption) rfl | exact SlS.len (by assumption) rfl | exact Sl.len (by assumption) rfl) ?_)
      refine pops.nil ?_
      repeat (first | refine kthenP.n ?_ | refine kthenP.r ?_ | refine kthenP.e ?_ | refine kblockP.n ?_ | refine kblockP.r ?_ | refine kblockP.e ?_ | refine kblockP.o rfl ?_ | refine Runs.seq ?_ | refine Runs.region ?_ | refine Runs.block ?_ | refine Runs.cond ?_ | refine Runs.skip ?_ | refine Runs.loop ?_ | refine Runs.exit ?_ | refine Runs.ret ?_)
      refine pleave.r rfl ?_
      refine ⟨?_, g1.trans g2⟩
      have : i = p.subs.length := by omega
      rw [this, List.take_length, ← hpp]
      rfl
theorem fn_deep28 : tab.fn 18 = some Tryz.f18 := by kernel_rfl
theorem deep28_calls : ∀ (L : Nat), L ≤ 1000 → ∀ {h : CH} {v : Value} {p : Pat}, PatV tab kp h v p → CalF (X w) 18 [v, .int .i64 (L : Int)] h fun r h' => r = .ret (.bool (deepB L p)) ∧ Gr h h' := by
  intro L
  induction L with
  | zero =>
    intro hL h v p hv
    refine CalF.wf fun hwf => ?_
    obtain ⟨c, s, rfl, oc, os, hc, hs⟩ := hv.open
    refine CalF.intro fn_deep28 rfl (Nat.le_of_ble_eq_true rfl) ?_
    repeat (first | refine kthenP.n ?_ | refine kthenP.r ?_ | refine kthenP.e ?_ | refine kblockP.n ?_ | refine kblockP.r ?_ | refine kblockP.e ?_ | refine kblockP.o rfl ?_ | refine Runs.seq ?_ | refine Runs.region ?_ | refine Runs.block ?_ | refine Runs.cond ?_ | refine Runs.skip ?_ | refine Runs.loop ?_ | refine Runs.exit ?_ | refine Runs.ret ?_)
    refine pops.box (cs := [.int .i64 p.kind, c, s]) rfl rfl rfl rfl (by simp only [List.all_cons, List.all_nil, oc, os, Bool.and_true]; rfl) rfl rfl hwf fun b h1 hb hwf1 g1 hcb => ?_
    refine pops.fl rfl rfl rfl rfl rfl ?_
    refine pops.nil ?_
    repeat (first | refine kthenP.n ?_ | refine kthenP.r ?_ | refine kthenP.e ?_ | refine kblockP.n ?_ | refine kblockP.r ?_ | refine kblockP.e ?_ | refine kblockP.o rfl ?_ | refine Runs.seq ?_ | refine Runs.region ?_ | refine Runs.block ?_ | refine Runs.cond ?_ | refine Runs.skip ?_ | refine Runs.loop ?_ | refine Runs.exit ?_ | refine Runs.ret ?_)
    repeat (first | refine pops.bin rfl rfl rfl rfl rfl rfl (cbin_inc (by omega)) ?_ | refine pops.fl rfl rfl rfl rfl rfl ?_ | refine pops.skip rfl rfl rfl ?_ | refine pops.load rfl rfl rfl rfl rfl (by first | assumption | exact cload_of (by assumption) rfl) ?_ | refine pops.len rfl rfl rfl rfl rfl rfl rfl rfl (by first | exact SlA.len (by assumption) rfl | exact SlI.len (by assumption) rfl | exact SlS.len (by assumption) rfl | exact Sl.len (by assumption) rfl) ?_)
    refine pops.nil ?_
    repeat (first | refine kthenP.n ?_ | refine kthenP.r ?_ | refine kthenP.e ?_ | refine kblockP.n ?_ | refine kblockP.r ?_ | refine kblockP.e ?_ | refine kblockP.o rfl ?_ | refine Runs.seq ?_ | refine Runs.region ?_ | refine Runs.block ?_ | refine Runs.cond ?_ | refine Runs.skip ?_ | refine Runs.loop ?_ | refine Runs.exit ?_ | refine Runs.ret ?_)
    refine pcond.t rfl ?_
    repeat (first | refine kthenP.n ?_ | refine kthenP.r ?_ | refine kthenP.e ?_ | refine kblockP.n ?_ | refine kblockP.r ?_ | refine kblockP.e ?_ | refine kblockP.o rfl ?_ | refine Runs.seq ?_ | refine Runs.region ?_ | refine Runs.block ?_ | refine Runs.cond ?_ | refine Runs.skip ?_ | refine Runs.loop ?_ | refine Runs.exit ?_ | refine Runs.ret ?_)
    repeat (first | refine pops.bin rfl rfl rfl rfl rfl rfl (cbin_inc (by omega)) ?_ | refine pops.fl rfl rfl rfl rfl rfl ?_ | refine pops.skip rfl rfl rfl ?_ | refine pops.load rfl rfl rfl rfl rfl (by first | assumption | exact cload_of (by assumption) rfl) ?_ | refine pops.len rfl rfl rfl rfl rfl rfl rfl rfl (by first | exact SlA.len (by assumption) rfl | exact SlI.len (by assumption) rfl | exact SlS.len (by assumption) rfl | exact Sl.len (by assumption) rfl) ?_)
    refine pops.nil ?_
    repeat (first | refine kthenP.n ?_ | refine kthenP.r ?_ | refine kthenP.e ?_ | refine kblockP.n ?_ | refine kblockP.r ?_ | refine kblockP.e ?_ | refine kblockP.o rfl ?_ | refine Runs.seq ?_ | refine Runs.region ?_ | refine Runs.block ?_ | refine Runs.cond ?_ | refine Runs.skip ?_ | refine Runs.loop ?_ | refine Runs.exit ?_ | refine Runs.ret ?_)
    refine pleave.r rfl ?_
    exact ⟨rfl, g1⟩
  | succ L ih =>
    intro hL h v p hv
    refine CalF.wf fun hwf => ?_
    obtain ⟨c, s, rfl, oc, os, hc, hs⟩ := hv.open
    have ls := hs.lt
    refine CalF.intro fn_deep28 rfl (Nat.le_of_ble_eq_true rfl) ?_
    repeat (first | refine kthenP.n ?_ | refine kthenP.r ?_ | refine kthenP.e ?_ | refine kblockP.n ?_ | refine kblockP.r ?_ | refine kblockP.e ?_ | refine kblockP.o rfl ?_ | refine Runs.seq ?_ | refine Runs.region ?_ | refine Runs.block ?_ | refine Runs.cond ?_ | refine Runs.skip ?_ | refine Runs.loop ?_ | refine Runs.exit ?_ | refine Runs.ret ?_)
    refine pops.box (cs := [.int .i64 p.kind, c, s]) rfl rfl rfl rfl (by simp only [List.all_cons, List.all_nil, oc, os, Bool.and_true]; rfl) rfl rfl hwf fun b h1 hb hwf1 g1 hcb => ?_
    replace hs := PatsV.gr hwf g1 hs
    replace hc := Sl.gr hc hwf g1
    refine pops.fl rfl rfl rfl rfl rfl ?_
    refine pops.nil ?_
    repeat (first | refine kthenP.n ?_ | refine kthenP.r ?_ | refine kthenP.e ?_ | refine kblockP.n ?_ | refine kblockP.r ?_ | refine kblockP.e ?_ | refine kblockP.o rfl ?_ | refine Runs.seq ?_ | refine Runs.region ?_ | refine Runs.block ?_ | refine Runs.cond ?_ | refine Runs.skip ?_ | refine Runs.loop ?_ | refine Runs.exit ?_ | refine Runs.ret ?_)
    repeat (first | refine pops.bin rfl rfl rfl rfl rfl rfl (cbin_inc (by omega)) ?_ | refine pops.fd rfl rfl rfl rfl rfl rfl ?_ | refine pops.skip rfl rfl rfl ?_ | refine pops.load rfl rfl rfl rfl rfl (by first | assumption | exact cload_of (by assumption) rfl) ?_ | refine pops.len rfl rfl rfl rfl rfl rfl rfl rfl (by first | exact SlA.len (by assumption) rfl | exact SlI.len (by assumption) rfl | exact SlS.len (by assumption) rfl | exact Sl.len (by assumption) rfl) ?_)
    refine pops.cmp rfl rfl rfl rfl rfl (fun q0 => ?_) (fun q0 => ?_)
    · have q0 := of_decide_eq_true q0
      omega
    repeat (first | refine pops.bin rfl rfl rfl rfl rfl rfl (cbin_inc (by omega)) ?_ | refine pops.fd rfl rfl rfl rfl rfl rfl ?_ | refine pops.skip rfl rfl rfl ?_ | refine pops.load rfl rfl rfl rfl rfl (by first | assumption | exact cload_of (by assumption) rfl) ?_ | refine pops.len rfl rfl rfl rfl rfl rfl rfl rfl (by first | exact SlA.len (by assumption) rfl | exact SlI.len (by assumption) rfl | exact SlS.len (by assumption) rfl | exact Sl.len (by assumption) rfl) ?_)
    refine pops.cmp rfl rfl rfl rfl rfl (fun q1 => ?_) (fun q1 => ?_)
    · have q1 := of_decide_eq_true q1
      repeat (first | refine pops.bin rfl rfl rfl rfl rfl rfl (cbin_inc (by omega)) ?_ | refine pops.fl rfl rfl rfl rfl rfl ?_ | refine pops.skip rfl rfl rfl ?_ | refine pops.load rfl rfl rfl rfl rfl (by first | assumption | exact cload_of (by assumption) rfl) ?_ | refine pops.len rfl rfl rfl rfl rfl rfl rfl rfl (by first | exact SlA.len (by assumption) rfl | exact SlI.len (by assumption) rfl | exact SlS.len (by assumption) rfl | exact Sl.len (by assumption) rfl) ?_)
      refine pops.nil ?_
      repeat (first | refine kthenP.n ?_ | refine kthenP.r ?_ | refine kthenP.e ?_ | refine kblockP.n ?_ | refine kblockP.r ?_ | refine kblockP.e ?_ | refine kblockP.o rfl ?_ | refine Runs.seq ?_ | refine Runs.region ?_ | refine Runs.block ?_ | refine Runs.cond ?_ | refine Runs.skip ?_ | refine Runs.loop ?_ | refine Runs.exit ?_ | refine Runs.ret ?_)
      refine pcond.t rfl ?_
      repeat (first | refine kthenP.n ?_ | refine kthenP.r ?_ | refine kthenP.e ?_ | refine kblockP.n ?_ | refine kblockP.r ?_ | refine kblockP.e ?_ | refine kblockP.o rfl ?_ | refine Runs.seq ?_ | refine Runs.region ?_ | refine Runs.block ?_ | refine Runs.cond ?_ | refine Runs.skip ?_ | refine Runs.loop ?_ | refine Runs.exit ?_ | refine Runs.ret ?_)
      repeat (first | refine pops.bin rfl rfl rfl rfl rfl rfl (cbin_inc (by omega)) ?_ | refine pops.fl rfl rfl rfl rfl rfl ?_ | refine pops.skip rfl rfl rfl ?_ | refine pops.load rfl rfl rfl rfl rfl (by first | assumption | exact cload_of (by assumption) rfl) ?_ | refine pops.len rfl rfl rfl rfl rfl rfl rfl rfl (by first | exact SlA.len (by assumption) rfl | exact SlI.len (by assumption) rfl | exact SlS.len (by assumption) rfl | exact Sl.len (by assumption) rfl) ?_)
      refine pops.nil ?_
      repeat (first | refine kthenP.n ?_ | refine kthenP.r ?_ | refine kthenP.e ?_ | refine kblockP.n ?_ | refine kblockP.r ?_ | refine kblockP.e ?_ | refine kblockP.o rfl ?_ | refine Runs.seq ?_ | refine Runs.region ?_ | refine Runs.block ?_ | refine Runs.cond ?_ | refine Runs.skip ?_ | refine Runs.loop ?_ | refine Runs.exit ?_ | refine Runs.ret ?_)
      refine pleave.r rfl ?_
      refine ⟨?_, g1⟩
      show _ = CRes.ret (.bool (decide (p.classes.length ≤ 60) && p.subs.all (deepB L)))
      rw [decide_eq_false (by omega)]
      rfl
    have q1 := of_decide_eq_false q1
    repeat (first | refine pops.bin rfl rfl rfl rfl rfl rfl (cbin_inc (by omega)) ?_ | refine pops.fl rfl rfl rfl rfl rfl ?_ | refine pops.skip rfl rfl rfl ?_ | refine pops.load rfl rfl rfl rfl rfl (by first | assumption | exact cload_of (by assumption) rfl) ?_ | refine pops.len rfl rfl rfl rfl rfl rfl rfl rfl (by first | exact SlA.len (by assumption) rfl | exact SlI.len (by assumption) rfl | exact SlS.len (by assumption) rfl | exact Sl.len (by assumption) rfl) ?_)
    refine pops.nil ?_
    repeat (first | refine kthenP.n ?_ | refine kthenP.r ?_ | refine kthenP.e ?_ | refine kblockP.n ?_ | refine kblockP.r ?_ | refine kblockP.e ?_ | refine kblockP.o rfl ?_ | refine Runs.seq ?_ | refine Runs.region ?_ | refine Runs.block ?_ | refine Runs.cond ?_ | refine Runs.skip ?_ | refine Runs.loop ?_ | refine Runs.exit ?_ | refine Runs.ret ?_)
    refine pcond.f rfl ?_
    repeat (first | refine kthenP.n ?_ | refine kthenP.r ?_ | refine kthenP.e ?_ | refine kblockP.n ?_ | refine kblockP.r ?_ | refine kblockP.e ?_ | refine kblockP.o rfl ?_ | refine Runs.seq ?_ | refine Runs.region ?_ | refine Runs.block ?_ | refine Runs.cond ?_ | refine Runs.skip ?_ | refine Runs.loop ?_ | refine Runs.exit ?_ | refine Runs.ret ?_)
    repeat (first | refine pops.bin rfl rfl rfl rfl rfl rfl (cbin_inc (by omega)) ?_ | refine pops.fl rfl rfl rfl rfl rfl ?_ | refine pops.skip rfl rfl rfl ?_ | refine pops.load rfl rfl rfl rfl rfl (by first | assumption | exact cload_of (by assumption) rfl) ?_ | refine pops.len rfl rfl rfl rfl rfl rfl rfl rfl (by first | exact SlA.len (by assumption) rfl | exact SlI.len (by assumption) rfl | exact SlS.len (by assumption) rfl | exact Sl.len (by assumption) rfl) ?_)
    refine pops.nil ?_
    repeat (first | refine kthenP.n ?_ | refine kthenP.r ?_ | refine kthenP.e ?_ | refine kblockP.n ?_ | refine kblockP.r ?_ | refine kblockP.e ?_ | refine kblockP.o rfl ?_ | refine Runs.seq ?_ | refine Runs.region ?_ | refine Runs.block ?_ | refine Runs.cond ?_ | refine Runs.skip ?_ | refine Runs.loop ?_ | refine Runs.exit ?_ | refine Runs.ret ?_)
    refine Loops.ind 5 (fun i : Nat => [(1, .int .i64 ((L + 1 : Nat) : Int)), (2, .pointer (some ⟨b, 0, none⟩)), (4, .bool false), (5, .int .i64 (i : Nat))]) (fun i h' => i ≤ p.subs.length ∧ Gr h1 h' ∧ ∀ (j : Nat) x, j < i → p.subs[j]? = some x → deepB L x = true) (fun i => p.subs.length - i) 0 (by decide) ⟨rfl, rfl, rfl, rfl, trivial⟩ ⟨Nat.zero_le _, Gr.refl _, all_none⟩ ?_
    rintro i z h' hwf' ⟨hi, g2, hall⟩
    replace hs := PatsV.gr hwf1 g2 hs
    replace hcb := g2.at hwf1 hcb
    repeat (first | refine kthenP.n ?_ | refine kthenP.r ?_ | refine kthenP.e ?_ | refine kblockP.n ?_ | refine kblockP.r ?_ | refine kblockP.e ?_ | refine kblockP.o rfl ?_ | refine Runs.seq ?_ | refine Runs.region ?_ | refine Runs.block ?_ | refine Runs.cond ?_ | refine Runs.skip ?_ | refine Runs.loop ?_ | refine Runs.exit ?_ | refine Runs.ret ?_)
    repeat (first | refine pops.bin rfl rfl rfl rfl rfl rfl (cbin_inc (by omega)) ?_ | refine pops.fl rfl rfl rfl rfl rfl ?_ | refine pops.skip rfl rfl rfl ?_ | refine pops.load rfl rfl rfl rfl rfl (by first | assumption | exact cload_of (by assumption) rfl) ?_ | refine pops.len rfl rfl rfl rfl rfl rfl rfl rfl (by first | exact SlA.len (by assumption) rfl | exact SlI.len (by assumption) rfl | exact SlS.len (by assumption) rfl | exact Sl.len (by assumption) rfl) ?_)
    refine pops.nil ?_
    repeat (first | refine kthenP.n ?_ | refine kthenP.r ?_ | refine kthenP.e ?_ | refine kblockP.n ?_ | refine kblockP.r ?_ | refine kblockP.e ?_ | refine kblockP.o rfl ?_ | refine Runs.seq ?_ | refine Runs.region ?_ | refine Runs.block ?_ | refine Runs.cond ?_ | refine Runs.skip ?_ | refine Runs.loop ?_ | refine Runs.exit ?_ | refine Runs.ret ?_)
    refine pcond.d (p := (i : Int) < (p.subs.length : Nat)) rfl (fun hlt => ?_) (fun hge => ?_)
    · obtain ⟨q, hq⟩ : ∃ q, p.subs[i]? = some q := ⟨_, List.getElem?_eq_getElem (by omega)⟩
      repeat (first | refine kthenP.n ?_ | refine kthenP.r ?_ | refine kthenP.e ?_ | refine kblockP.n ?_ | refine kblockP.r ?_ | refine kblockP.e ?_ | refine kblockP.o rfl ?_ | refine Runs.seq ?_ | refine Runs.region ?_ | refine Runs.block ?_ | refine Runs.cond ?_ | refine Runs.skip ?_ | refine Runs.loop ?_ | refine Runs.exit ?_ | refine Runs.ret ?_)
      refine pops.fl rfl rfl rfl rfl rfl ?_
      refine pops.load rfl rfl rfl rfl rfl (by first | assumption | exact cload_of (by assumption) rfl) ?_
      refine pops.fl rfl rfl rfl rfl rfl ?_
      refine pops.atA rfl rfl rfl rfl rfl rfl rfl hs hq fun a u ha hu => ?_
      refine pops.load rfl rfl rfl rfl rfl (by first | assumption | exact cload_of (by assumption) rfl) ?_
      refine pops.fl rfl rfl rfl rfl rfl ?_
      refine pops.bin rfl rfl rfl rfl rfl rfl (cbin_dec (by omega) (by omega)) ?_
      refine pops.callG rfl rfl rfl rfl rfl fn_deep28 rfl rfl rfl (ih (by omega) hu) fun h5 hwf5 g5 => ?_
      cases hd : deepB L q with
      | true =>
        repeat (first | refine pops.bin rfl rfl rfl rfl rfl rfl (cbin_inc (by omega)) ?_ | refine pops.fl rfl rfl rfl rfl rfl ?_ | refine pops.skip rfl rfl rfl ?_ | refine pops.load rfl rfl rfl rfl rfl (by first | assumption | exact cload_of (by assumption) rfl) ?_ | refine pops.len rfl rfl rfl rfl rfl rfl rfl rfl (by first | exact SlA.len (by assumption) rfl | exact SlI.len (by assumption) rfl | exact SlS.len (by assumption) rfl | exact Sl.len (by assumption) rfl) ?_)
        refine pops.nil ?_
        repeat (first | refine kthenP.n ?_ | refine kthenP.r ?_ | refine kthenP.e ?_ | refine kblockP.n ?_ | refine kblockP.r ?_ | refine kblockP.e ?_ | refine kblockP.o rfl ?_ | refine Runs.seq ?_ | refine Runs.region ?_ | refine Runs.block ?_ | refine Runs.cond ?_ | refine Runs.skip ?_ | refine Runs.loop ?_ | refine Runs.exit ?_ | refine Runs.ret ?_)
        refine pcond.f rfl ?_
        repeat (first | refine kthenP.n ?_ | refine kthenP.r ?_ | refine kthenP.e ?_ | refine kblockP.n ?_ | refine kblockP.r ?_ | refine kblockP.e ?_ | refine kblockP.o rfl ?_ | refine Runs.seq ?_ | refine Runs.region ?_ | refine Runs.block ?_ | refine Runs.cond ?_ | refine Runs.skip ?_ | refine Runs.loop ?_ | refine Runs.exit ?_ | refine Runs.ret ?_)
        repeat (first | refine pops.bin rfl rfl rfl rfl rfl rfl (cbin_inc (by omega)) ?_ | refine pops.fl rfl rfl rfl rfl rfl ?_ | refine pops.skip rfl rfl rfl ?_ | refine pops.load rfl rfl rfl rfl rfl (by first | assumption | exact cload_of (by assumption) rfl) ?_ | refine pops.len rfl rfl rfl rfl rfl rfl rfl rfl (by first | exact SlA.len (by assumption) rfl | exact SlI.len (by assumption) rfl | exact SlS.len (by assumption) rfl | exact Sl.len (by assumption) rfl) ?_)
        refine pops.nil ?_
        refine .n ⟨_, i + 1, rfl, ⟨rfl, rfl, rfl, rfl, trivial⟩, (by show p.subs.length - (i + 1) < p.subs.length - i; omega), by omega, g2.trans g5, all_next hall hq hd⟩
      | false =>
        repeat (first | refine pops.bin rfl rfl rfl rfl rfl rfl (cbin_inc (by omega)) ?_ | refine pops.fl rfl rfl rfl rfl rfl ?_ | refine pops.skip rfl rfl rfl ?_ | refine pops.load rfl rfl rfl rfl rfl (by first | assumption | exact cload_of (by assumption) rfl) ?_ | refine pops.len rfl rfl rfl rfl rfl rfl rfl rfl (by first | exact SlA.len (by assumption) rfl | exact SlI.len (by assumption) rfl | exact SlS.len (by assumption) rfl | exact Sl.len (by assumption) rfl) ?_)
        refine pops.nil ?_
        repeat (first | refine kthenP.n ?_ | refine kthenP.r ?_ | refine kthenP.e ?_ | refine kblockP.n ?_ | refine kblockP.r ?_ | refine kblockP.e ?_ | refine kblockP.o rfl ?_ | refine Runs.seq ?_ | refine Runs.region ?_ | refine Runs.block ?_ | refine Runs.cond ?_ | refine Runs.skip ?_ | refine Runs.loop ?_ | refine Runs.exit ?_ | refine Runs.ret ?_)
        refine pcond.t rfl ?_
        repeat (first | refine kthenP.n ?_ | refine kthenP.r ?_ | refine kthenP.e ?_ | refine kblockP.n ?_ | refine kblockP.r ?_ | refine kblockP.e ?_ | refine kblockP.o rfl ?_ | refine Runs.seq ?_ | refine Runs.region ?_ | refine Runs.block ?_ | refine Runs.cond ?_ | refine Runs.skip ?_ | refine Runs.loop ?_ | refine Runs.exit ?_ | refine Runs.ret ?_)
        repeat (first | refine pops.bin rfl rfl rfl rfl rfl rfl (cbin_inc (by omega)) ?_ | refine pops.fl rfl rfl rfl rfl rfl ?_ | refine pops.skip rfl rfl rfl ?_ | refine pops.load rfl rfl rfl rfl rfl (by first | assumption | exact cload_of (by assumption) rfl) ?_ | refine pops.len rfl rfl rfl rfl rfl rfl rfl rfl (by first | exact SlA.len (by assumption) rfl | exact SlI.len (by assumption) rfl | exact SlS.len (by assumption) rfl | exact Sl.len (by assumption) rfl) ?_)
        refine pops.nil ?_
        repeat (first | refine kthenP.n ?_ | refine kthenP.r ?_ | refine kthenP.e ?_ | refine kblockP.n ?_ | refine kblockP.r ?_ | refine kblockP.e ?_ | refine kblockP.o rfl ?_ | refine Runs.seq ?_ | refine Runs.region ?_ | refine Runs.block ?_ | refine Runs.cond ?_ | refine Runs.skip ?_ | refine Runs.loop ?_ | refine Runs.exit ?_ | refine Runs.ret ?_)
        refine pleave.r rfl ?_
        refine ⟨?_, (g1.trans g2).trans g5⟩
        show _ = CRes.ret (.bool (decide (p.classes.length ≤ 60) && p.subs.all (deepB L)))
        have : p.subs.all (deepB L) = false := by
          rw [List.all_eq_false]
          exact ⟨q, List.mem_of_getElem? hq, by rw [hd]; decide⟩
        rw [this, Bool.and_false]
    · repeat (first | refine kthenP.n ?_ | refine kthenP.r ?_ | refine kthenP.e ?_ | refine kblockP.n ?_ | refine kblockP.r ?_ | refine kblockP.e ?_ | refine kblockP.o rfl ?_ | refine Runs.seq ?_ | refine Runs.region ?_ | refine Runs.block ?_ | refine Runs.cond ?_ | refine Runs.skip ?_ | refine Runs.loop ?_ | refine Runs.exit ?_ | refine Runs.ret ?_)
      repeat (first | refine pops.bin rfl rfl rfl rfl rfl rfl (cbin_inc (by omega)) ?_ | refine pops.fl rfl rfl rfl rfl rfl ?_ | refine pops.skip rfl rfl rfl ?_ | refine pops.load rfl rfl rfl rfl rfl (by first | assumption | exact cload_of (by assumption) rfl) ?_ | refine pops.len rfl rfl rfl rfl rfl rfl rfl rfl (by first | exact SlA.len (by assumption) rfl | exact SlI.len (by assumption) rfl | exact SlS.len (by assumption) rfl | exact Sl.len (by assumption) rfl) ?_)
      refine pops.nil ?_
      repeat (first | refine kthenP.n ?_ | refine kthenP.r ?_ | refine kthenP.e ?_ | refine kblockP.n ?_ | refine kblockP.r ?_ | refine kblockP.e ?_ | refine kblockP.o rfl ?_ | refine Runs.seq ?_ | refine Runs.region ?_ | refine Runs.block ?_ | refine Runs.cond ?_ | refine Runs.skip ?_ | refine Runs.loop ?_ | refine Runs.exit ?_ | refine Runs.ret ?_)
      refine pleave.r rfl ?_
      refine ⟨?_, g1.trans g2⟩
      show _ = CRes.ret (.bool (decide (p.classes.length ≤ 60) && p.subs.all (deepB L)))
      rw [decide_eq_true (by omega), List.all_eq_true.2 (all_end hall (by omega))]
      rfl
theorem fn_smallP : tab.fn 8 = some Tryz.f8 := by kernel_rfl
theorem smallP_calls {v : Value} {p : Pat} (hv : PatV tab kp h v p) : CalF (X w) 8 [v] h fun r h' => r = .ret (.bool (smallPB p)) ∧ Gr h h' := by
  refine CalF.wf fun hwf => ?_
  have hV := hv
  obtain ⟨c, s, rfl, oc, os, hc, hs⟩ := hv.open
  refine CalF.intro fn_smallP rfl (Nat.le_of_ble_eq_true rfl) ?_
  repeat (first | refine kthenP.n ?_ | refine kthenP.r ?_ | refine kthenP.e ?_ | refine kblockP.n ?_ | refine kblockP.r ?_ | refine kblockP.e ?_ | refine kblockP.o rfl ?_ | refine Runs.seq ?_ | refine Runs.region ?_ | refine Runs.block ?_ | refine Runs.cond ?_ | refine Runs.skip ?_ | refine Runs.loop ?_ | refine Runs.exit ?_ | refine Runs.ret ?_)
  refine pops.box (cs := [.int .i64 p.kind, c, s]) rfl rfl rfl rfl (by simp only [List.all_cons, List.all_nil, oc, os, Bool.and_true]; rfl) rfl rfl hwf fun b h1 hb hwf1 g1 hcb => ?_
  replace hV := hV.gr hwf g1
  refine pops.fl rfl rfl rfl rfl rfl ?_
  refine pops.nil ?_
  repeat (first | refine kthenP.n ?_ | refine kthenP.r ?_ | refine kthenP.e ?_ | refine kblockP.n ?_ | refine kblockP.r ?_ | refine kblockP.e ?_ | refine kblockP.o rfl ?_ | refine Runs.seq ?_ | refine Runs.region ?_ | refine Runs.block ?_ | refine Runs.cond ?_ | refine Runs.skip ?_ | refine Runs.loop ?_ | refine Runs.exit ?_ | refine Runs.ret ?_)
  refine pops.load rfl rfl rfl rfl rfl (cload_of hcb rfl) ?_
  refine pops.callG rfl rfl rfl rfl rfl fn_Parts28 rfl rfl rfl (Parts28_calls 300 300 (by omega) (by omega) hV) fun h2 hwf2 g2 => ?_
  replace hV := hV.gr hwf1 g2
  replace hcb := g2.at hwf1 hcb
  refine pops.cmp rfl rfl rfl rfl rfl (fun q1 => ?_) (fun q1 => ?_)
  · have q1 := of_decide_eq_true q1
    have hp : partsOf p ≤ 300 := by unfold partsM at q1; omega
    refine pops.fl rfl rfl rfl rfl rfl ?_
    refine pops.load rfl rfl rfl rfl rfl (cload_of hcb rfl) ?_
    refine pops.callG rfl rfl rfl rfl rfl fn_deep28 rfl rfl rfl (deep28_calls 20 (by omega) hV) fun h3 hwf3 g3 => ?_
    repeat (first | refine pops.bin rfl rfl rfl rfl rfl rfl (cbin_inc (by omega)) ?_ | refine pops.fl rfl rfl rfl rfl rfl ?_ | refine pops.skip rfl rfl rfl ?_ | refine pops.load rfl rfl rfl rfl rfl (by first | assumption | exact cload_of (by assumption) rfl) ?_ | refine pops.len rfl rfl rfl rfl rfl rfl rfl rfl (by first | exact SlA.len (by assumption) rfl | exact SlI.len (by assumption) rfl | exact SlS.len (by assumption) rfl | exact Sl.len (by assumption) rfl) ?_)
    refine pops.nil ?_
    repeat (first | refine kthenP.n ?_ | refine kthenP.r ?_ | refine kthenP.e ?_ | refine kblockP.n ?_ | refine kblockP.r ?_ | refine kblockP.e ?_ | refine kblockP.o rfl ?_ | refine Runs.seq ?_ | refine Runs.region ?_ | refine Runs.block ?_ | refine Runs.cond ?_ | refine Runs.skip ?_ | refine Runs.loop ?_ | refine Runs.exit ?_ | refine Runs.ret ?_)
    refine pleave.r rfl ?_
    refine ⟨?_, (g1.trans g2).trans g3⟩
    unfold smallPB
    rw [decide_eq_true hp]
    rfl
  · have q1 := of_decide_eq_false q1
    have hp : ¬ partsOf p ≤ 300 := by unfold partsM at q1; omega
    repeat (first | refine pops.bin rfl rfl rfl rfl rfl rfl (cbin_inc (by omega)) ?_ | refine pops.fl rfl rfl rfl rfl rfl ?_ | refine pops.skip rfl rfl rfl ?_ | refine pops.load rfl rfl rfl rfl rfl (by first | assumption | exact cload_of (by assumption) rfl) ?_ | refine pops.len rfl rfl rfl rfl rfl rfl rfl rfl (by first | exact SlA.len (by assumption) rfl | exact SlI.len (by assumption) rfl | exact SlS.len (by assumption) rfl | exact Sl.len (by assumption) rfl) ?_)
    refine pops.nil ?_
    repeat (first | refine kthenP.n ?_ | refine kthenP.r ?_ | refine kthenP.e ?_ | refine kblockP.n ?_ | refine kblockP.r ?_ | refine kblockP.e ?_ | refine kblockP.o rfl ?_ | refine Runs.seq ?_ | refine Runs.region ?_ | refine Runs.block ?_ | refine Runs.cond ?_ | refine Runs.skip ?_ | refine Runs.loop ?_ | refine Runs.exit ?_ | refine Runs.ret ?_)
    refine pleave.r rfl ?_
    refine ⟨?_, g1.trans g2⟩
    unfold smallPB
    rw [decide_eq_false hp]
    rfl
end Go.Proofs.YtnchhgjoiboibaaGreatDoor

set_option maxRecDepth 100000
set_option linter.unusedVariables false
set_option linter.unusedSimpArgs false
namespace Go.Proofs.YtnchhgjoiboibaaGreatDoor
open Go.Cx
variable {w : World} {h : CH}
theorem fn_right28 : tab.fn 16 = some Tryz.f16 := by kernel_rfl
set_option maxHeartbeats 1000000 in
theorem right28_calls {n : Int} (hn : -1 ≤ n) (hn2 : n < 1000000) : ∀ (L : Nat), L ≤ 1000 → ∀ {h : CH} {v : Value} {p : Pat}, PatV tab kp h v p → CalF (X w) 16 [v, .int .i64 n, .int .i64 (L : Int)] h fun r h' => r = .ret (.bool (patOk n L p)) ∧ Gr h h' := by
  intro L
  induction L with
  | zero =>
    intro hL h v p hv
    refine CalF.wf fun hwf => ?_
    obtain ⟨c, s, rfl, oc, os, hc, hs⟩ := hv.open
    refine CalF.intro fn_right28 rfl (Nat.le_of_ble_eq_true rfl) ?_
    repeat (first | refine kthenP.n ?_ | refine kthenP.r ?_ | refine kthenP.e ?_ | refine kblockP.n ?_ | refine kblockP.r ?_ | refine kblockP.e ?_ | refine kblockP.o rfl ?_ | refine Runs.seq ?_ | refine Runs.region ?_ | refine Runs.block ?_ | refine Runs.cond ?_ | refine Runs.skip ?_ | refine Runs.loop ?_ | refine Runs.exit ?_ | refine Runs.ret ?_)
    refine pops.box (cs := [.int .i64 p.kind, c, s]) rfl rfl rfl rfl (by simp only [List.all_cons, List.all_nil, oc, os, Bool.and_true]; rfl) rfl rfl hwf fun b h1 hb hwf1 g1 hcb => ?_
    refine pops.fl rfl rfl rfl rfl rfl ?_
    refine pops.nil ?_
    repeat (first | refine kthenP.n ?_ | refine kthenP.r ?_ | refine kthenP.e ?_ | refine kblockP.n ?_ | refine kblockP.r ?_ | refine kblockP.e ?_ | refine kblockP.o rfl ?_ | refine Runs.seq ?_ | refine Runs.region ?_ | refine Runs.block ?_ | refine Runs.cond ?_ | refine Runs.skip ?_ | refine Runs.loop ?_ | refine Runs.exit ?_ | refine Runs.ret ?_)
    repeat (first | refine pops.bin rfl rfl rfl rfl rfl rfl (cbin_inc (by omega)) ?_ | refine pops.fl rfl rfl rfl rfl rfl ?_ | refine pops.skip rfl rfl rfl ?_ | refine pops.load rfl rfl rfl rfl rfl (by first | assumption | exact cload_of (by assumption) rfl) ?_ | refine pops.len rfl rfl rfl rfl rfl rfl rfl rfl (by first | exact SlA.len (by assumption) rfl | exact SlI.len (by assumption) rfl | exact SlS.len (by assumption) rfl | exact Sl.len (by assumption) rfl) ?_)
    refine pops.nil ?_
    repeat (first | refine kthenP.n ?_ | refine kthenP.r ?_ | refine kthenP.e ?_ | refine kblockP.n ?_ | refine kblockP.r ?_ | refine kblockP.e ?_ | refine kblockP.o rfl ?_ | refine Runs.seq ?_ | refine Runs.region ?_ | refine Runs.block ?_ | refine Runs.cond ?_ | refine Runs.skip ?_ | refine Runs.loop ?_ | refine Runs.exit ?_ | refine Runs.ret ?_)
    refine pcond.t rfl ?_
    repeat (first | refine kthenP.n ?_ | refine kthenP.r ?_ | refine kthenP.e ?_ | refine kblockP.n ?_ | refine kblockP.r ?_ | refine kblockP.e ?_ | refine kblockP.o rfl ?_ | refine Runs.seq ?_ | refine Runs.region ?_ | refine Runs.block ?_ | refine Runs.cond ?_ | refine Runs.skip ?_ | refine Runs.loop ?_ | refine Runs.exit ?_ | refine Runs.ret ?_)
    repeat (first | refine pops.bin rfl rfl rfl rfl rfl rfl (cbin_inc (by omega)) ?_ | refine pops.fl rfl rfl rfl rfl rfl ?_ | refine pops.skip rfl rfl rfl ?_ | refine pops.load rfl rfl rfl rfl rfl (by first | assumption | exact cload_of (by assumption) rfl) ?_ | refine pops.len rfl rfl rfl rfl rfl rfl rfl rfl (by first | exact SlA.len (by assumption) rfl | exact SlI.len (by assumption) rfl | exact SlS.len (by assumption) rfl | exact Sl.len (by assumption) rfl) ?_)
    refine pops.nil ?_
    repeat (first | refine kthenP.n ?_ | refine kthenP.r ?_ | refine kthenP.e ?_ | refine kblockP.n ?_ | refine kblockP.r ?_ | refine kblockP.e ?_ | refine kblockP.o rfl ?_ | refine Runs.seq ?_ | refine Runs.region ?_ | refine Runs.block ?_ | refine Runs.cond ?_ | refine Runs.skip ?_ | refine Runs.loop ?_ | refine Runs.exit ?_ | refine Runs.ret ?_)
    refine pleave.r rfl ?_
    exact ⟨rfl, g1⟩
  | succ L ih =>
    intro hL h v p hv
    refine CalF.wf fun hwf => ?_
    obtain ⟨c, s, rfl, oc, os, hc, hs⟩ := hv.open
    have lc := hc.lt
    have ls := hs.lt
    refine CalF.intro fn_right28 rfl (Nat.le_of_ble_eq_true rfl) ?_
    repeat (first | refine kthenP.n ?_ | refine kthenP.r ?_ | refine kthenP.e ?_ | refine kblockP.n ?_ | refine kblockP.r ?_ | refine kblockP.e ?_ | refine kblockP.o rfl ?_ | refine Runs.seq ?_ | refine Runs.region ?_ | refine Runs.block ?_ | refine Runs.cond ?_ | refine Runs.skip ?_ | refine Runs.loop ?_ | refine Runs.exit ?_ | refine Runs.ret ?_)
    refine pops.box (cs := [.int .i64 p.kind, c, s]) rfl rfl rfl rfl (by simp only [List.all_cons, List.all_nil, oc, os, Bool.and_true]; rfl) rfl rfl hwf fun b h1 hb hwf1 g1 hcb => ?_
    replace hs := PatsV.gr hwf g1 hs
    replace hc := Sl.gr hc hwf g1
    refine pops.fl rfl rfl rfl rfl rfl ?_
    refine pops.nil ?_
    repeat (first | refine kthenP.n ?_ | refine kthenP.r ?_ | refine kthenP.e ?_ | refine kblockP.n ?_ | refine kblockP.r ?_ | refine kblockP.e ?_ | refine kblockP.o rfl ?_ | refine Runs.seq ?_ | refine Runs.region ?_ | refine Runs.block ?_ | refine Runs.cond ?_ | refine Runs.skip ?_ | refine Runs.loop ?_ | refine Runs.exit ?_ | refine Runs.ret ?_)
    repeat (first | refine pops.bin rfl rfl rfl rfl rfl rfl (cbin_inc (by omega)) ?_ | refine pops.fd rfl rfl rfl rfl rfl rfl ?_ | refine pops.skip rfl rfl rfl ?_ | refine pops.load rfl rfl rfl rfl rfl (by first | assumption | exact cload_of (by assumption) rfl) ?_ | refine pops.len rfl rfl rfl rfl rfl rfl rfl rfl (by first | exact SlA.len (by assumption) rfl | exact SlI.len (by assumption) rfl | exact SlS.len (by assumption) rfl | exact Sl.len (by assumption) rfl) ?_)
    refine pops.cmp rfl rfl rfl rfl rfl (fun q0 => ?_) (fun q0 => ?_)
    · have q0 := of_decide_eq_true q0
      omega
    refine pops.nil ?_
    repeat (first | refine kthenP.n ?_ | refine kthenP.r ?_ | refine kthenP.e ?_ | refine kblockP.n ?_ | refine kblockP.r ?_ | refine kblockP.e ?_ | refine kblockP.o rfl ?_ | refine Runs.seq ?_ | refine Runs.region ?_ | refine Runs.block ?_ | refine Runs.cond ?_ | refine Runs.skip ?_ | refine Runs.loop ?_ | refine Runs.exit ?_ | refine Runs.ret ?_)
    refine pcond.f rfl ?_
    repeat (first | refine kthenP.n ?_ | refine kthenP.r ?_ | refine kthenP.e ?_ | refine kblockP.n ?_ | refine kblockP.r ?_ | refine kblockP.e ?_ | refine kblockP.o rfl ?_ | refine Runs.seq ?_ | refine Runs.region ?_ | refine Runs.block ?_ | refine Runs.cond ?_ | refine Runs.skip ?_ | refine Runs.loop ?_ | refine Runs.exit ?_ | refine Runs.ret ?_)
    repeat (first | refine pops.bin rfl rfl rfl rfl rfl rfl (cbin_inc (by omega)) ?_ | refine pops.fd rfl rfl rfl rfl rfl rfl ?_ | refine pops.skip rfl rfl rfl ?_ | refine pops.load rfl rfl rfl rfl rfl (by first | assumption | exact cload_of (by assumption) rfl) ?_ | refine pops.len rfl rfl rfl rfl rfl rfl rfl rfl (by first | exact SlA.len (by assumption) rfl | exact SlI.len (by assumption) rfl | exact SlS.len (by assumption) rfl | exact Sl.len (by assumption) rfl) ?_)
    refine pops.cmp rfl rfl rfl rfl rfl (fun q1 => ?_) (fun q1 => ?_)
    · have q1 := of_decide_eq_true q1
      have eP : patOk n (L + 1) p = (decide (p.subs.length = 0) && tt (SingleP n p.classes)) := by
        show cond (decide (p.kind = 1)) _ _ = _
        rw [decide_eq_true q1]
        rfl
      rw [eP]
      refine pops.nil ?_
      repeat (first | refine kthenP.n ?_ | refine kthenP.r ?_ | refine kthenP.e ?_ | refine kblockP.n ?_ | refine kblockP.r ?_ | refine kblockP.e ?_ | refine kblockP.o rfl ?_ | refine Runs.seq ?_ | refine Runs.region ?_ | refine Runs.block ?_ | refine Runs.cond ?_ | refine Runs.skip ?_ | refine Runs.loop ?_ | refine Runs.exit ?_ | refine Runs.ret ?_)
      refine pcond.t rfl ?_
      repeat (first | refine kthenP.n ?_ | refine kthenP.r ?_ | refine kthenP.e ?_ | refine kblockP.n ?_ | refine kblockP.r ?_ | refine kblockP.e ?_ | refine kblockP.o rfl ?_ | refine Runs.seq ?_ | refine Runs.region ?_ | refine Runs.block ?_ | refine Runs.cond ?_ | refine Runs.skip ?_ | refine Runs.loop ?_ | refine Runs.exit ?_ | refine Runs.ret ?_)
      repeat (first | refine pops.bin rfl rfl rfl rfl rfl rfl (cbin_inc (by omega)) ?_ | refine pops.fd rfl rfl rfl rfl rfl rfl ?_ | refine pops.skip rfl rfl rfl ?_ | refine pops.load rfl rfl rfl rfl rfl (by first | assumption | exact cload_of (by assumption) rfl) ?_ | refine pops.len rfl rfl rfl rfl rfl rfl rfl rfl (by first | exact SlA.len (by assumption) rfl | exact SlI.len (by assumption) rfl | exact SlS.len (by assumption) rfl | exact Sl.len (by assumption) rfl) ?_)
      refine pops.cmp rfl rfl rfl rfl rfl (fun q2 => ?_) (fun q2 => ?_)
      · have q2 := of_decide_eq_true q2
        repeat (first | refine pops.bin rfl rfl rfl rfl rfl rfl (cbin_inc (by omega)) ?_ | refine pops.fl rfl rfl rfl rfl rfl ?_ | refine pops.skip rfl rfl rfl ?_ | refine pops.load rfl rfl rfl rfl rfl (by first | assumption | exact cload_of (by assumption) rfl) ?_ | refine pops.len rfl rfl rfl rfl rfl rfl rfl rfl (by first | exact SlA.len (by assumption) rfl | exact SlI.len (by assumption) rfl | exact SlS.len (by assumption) rfl | exact Sl.len (by assumption) rfl) ?_)
        refine pops.nil ?_
        repeat (first | refine kthenP.n ?_ | refine kthenP.r ?_ | refine kthenP.e ?_ | refine kblockP.n ?_ | refine kblockP.r ?_ | refine kblockP.e ?_ | refine kblockP.o rfl ?_ | refine Runs.seq ?_ | refine Runs.region ?_ | refine Runs.block ?_ | refine Runs.cond ?_ | refine Runs.skip ?_ | refine Runs.loop ?_ | refine Runs.exit ?_ | refine Runs.ret ?_)
        refine pcond.t rfl ?_
        repeat (first | refine kthenP.n ?_ | refine kthenP.r ?_ | refine kthenP.e ?_ | refine kblockP.n ?_ | refine kblockP.r ?_ | refine kblockP.e ?_ | refine kblockP.o rfl ?_ | refine Runs.seq ?_ | refine Runs.region ?_ | refine Runs.block ?_ | refine Runs.cond ?_ | refine Runs.skip ?_ | refine Runs.loop ?_ | refine Runs.exit ?_ | refine Runs.ret ?_)
        repeat (first | refine pops.bin rfl rfl rfl rfl rfl rfl (cbin_inc (by omega)) ?_ | refine pops.fl rfl rfl rfl rfl rfl ?_ | refine pops.skip rfl rfl rfl ?_ | refine pops.load rfl rfl rfl rfl rfl (by first | assumption | exact cload_of (by assumption) rfl) ?_ | refine pops.len rfl rfl rfl rfl rfl rfl rfl rfl (by first | exact SlA.len (by assumption) rfl | exact SlI.len (by assumption) rfl | exact SlS.len (by assumption) rfl | exact Sl.len (by assumption) rfl) ?_)
        refine pops.nil ?_
        repeat (first | refine kthenP.n ?_ | refine kthenP.r ?_ | refine kthenP.e ?_ | refine kblockP.n ?_ | refine kblockP.r ?_ | refine kblockP.e ?_ | refine kblockP.o rfl ?_ | refine Runs.seq ?_ | refine Runs.region ?_ | refine Runs.block ?_ | refine Runs.cond ?_ | refine Runs.skip ?_ | refine Runs.loop ?_ | refine Runs.exit ?_ | refine Runs.ret ?_)
        refine pleave.r rfl ?_
        refine ⟨?_, g1⟩
        rw [single_bad (fun hh => by have := hh.1; omega), Bool.and_false]
      have q2 := of_decide_eq_false q2
      repeat (first | refine pops.bin rfl rfl rfl rfl rfl rfl (cbin_inc (by omega)) ?_ | refine pops.fd rfl rfl rfl rfl rfl rfl ?_ | refine pops.skip rfl rfl rfl ?_ | refine pops.load rfl rfl rfl rfl rfl (by first | assumption | exact cload_of (by assumption) rfl) ?_ | refine pops.len rfl rfl rfl rfl rfl rfl rfl rfl (by first | exact SlA.len (by assumption) rfl | exact SlI.len (by assumption) rfl | exact SlS.len (by assumption) rfl | exact Sl.len (by assumption) rfl) ?_)
      refine pops.cmp rfl rfl rfl rfl rfl (fun q3 => ?_) (fun q3 => ?_)
      · have q3 := of_decide_eq_true q3
        repeat (first | refine pops.bin rfl rfl rfl rfl rfl rfl (cbin_inc (by omega)) ?_ | refine pops.fl rfl rfl rfl rfl rfl ?_ | refine pops.skip rfl rfl rfl ?_ | refine pops.load rfl rfl rfl rfl rfl (by first | assumption | exact cload_of (by assumption) rfl) ?_ | refine pops.len rfl rfl rfl rfl rfl rfl rfl rfl (by first | exact SlA.len (by assumption) rfl | exact SlI.len (by assumption) rfl | exact SlS.len (by assumption) rfl | exact Sl.len (by assumption) rfl) ?_)
        refine pops.nil ?_
        repeat (first | refine kthenP.n ?_ | refine kthenP.r ?_ | refine kthenP.e ?_ | refine kblockP.n ?_ | refine kblockP.r ?_ | refine kblockP.e ?_ | refine kblockP.o rfl ?_ | refine Runs.seq ?_ | refine Runs.region ?_ | refine Runs.block ?_ | refine Runs.cond ?_ | refine Runs.skip ?_ | refine Runs.loop ?_ | refine Runs.exit ?_ | refine Runs.ret ?_)
        refine pcond.t rfl ?_
        repeat (first | refine kthenP.n ?_ | refine kthenP.r ?_ | refine kthenP.e ?_ | refine kblockP.n ?_ | refine kblockP.r ?_ | refine kblockP.e ?_ | refine kblockP.o rfl ?_ | refine Runs.seq ?_ | refine Runs.region ?_ | refine Runs.block ?_ | refine Runs.cond ?_ | refine Runs.skip ?_ | refine Runs.loop ?_ | refine Runs.exit ?_ | refine Runs.ret ?_)
        repeat (first | refine pops.bin rfl rfl rfl rfl rfl rfl (cbin_inc (by omega)) ?_ | refine pops.fl rfl rfl rfl rfl rfl ?_ | refine pops.skip rfl rfl rfl ?_ | refine pops.load rfl rfl rfl rfl rfl (by first | assumption | exact cload_of (by assumption) rfl) ?_ | refine pops.len rfl rfl rfl rfl rfl rfl rfl rfl (by first | exact SlA.len (by assumption) rfl | exact SlI.len (by assumption) rfl | exact SlS.len (by assumption) rfl | exact Sl.len (by assumption) rfl) ?_)
        refine pops.nil ?_
        repeat (first | refine kthenP.n ?_ | refine kthenP.r ?_ | refine kthenP.e ?_ | refine kblockP.n ?_ | refine kblockP.r ?_ | refine kblockP.e ?_ | refine kblockP.o rfl ?_ | refine Runs.seq ?_ | refine Runs.region ?_ | refine Runs.block ?_ | refine Runs.cond ?_ | refine Runs.skip ?_ | refine Runs.loop ?_ | refine Runs.exit ?_ | refine Runs.ret ?_)
        refine pleave.r rfl ?_
        refine ⟨?_, g1⟩
        rw [decide_eq_false (by omega)]
        rfl
      have q3 := of_decide_eq_false q3
      obtain ⟨first, hfirst⟩ : ∃ c, p.classes[0]? = some c := ⟨_, List.getElem?_eq_getElem (by omega)⟩
      repeat (first | refine pops.bin rfl rfl rfl rfl rfl rfl (cbin_inc (by omega)) ?_ | refine pops.fd rfl rfl rfl rfl rfl rfl ?_ | refine pops.skip rfl rfl rfl ?_ | refine pops.load rfl rfl rfl rfl rfl (by first | assumption | exact cload_of (by assumption) rfl) ?_ | refine pops.len rfl rfl rfl rfl rfl rfl rfl rfl (by first | exact SlA.len (by assumption) rfl | exact SlI.len (by assumption) rfl | exact SlS.len (by assumption) rfl | exact Sl.len (by assumption) rfl) ?_)
      refine pops.atI (f := Value.int .i64) (i := 0) rfl rfl rfl rfl rfl rfl rfl hc hfirst fun a ha => ?_
      refine pops.load rfl rfl rfl rfl rfl (by first | assumption | exact cload_of (by assumption) rfl) ?_
      refine pops.cmp rfl rfl rfl rfl rfl (fun q4 => ?_) (fun q4 => ?_)
      · have q4 := of_decide_eq_true q4
        repeat (first | refine pops.bin rfl rfl rfl rfl rfl rfl (cbin_inc (by omega)) ?_ | refine pops.fl rfl rfl rfl rfl rfl ?_ | refine pops.skip rfl rfl rfl ?_ | refine pops.load rfl rfl rfl rfl rfl (by first | assumption | exact cload_of (by assumption) rfl) ?_ | refine pops.len rfl rfl rfl rfl rfl rfl rfl rfl (by first | exact SlA.len (by assumption) rfl | exact SlI.len (by assumption) rfl | exact SlS.len (by assumption) rfl | exact Sl.len (by assumption) rfl) ?_)
        refine pops.nil ?_
        repeat (first | refine kthenP.n ?_ | refine kthenP.r ?_ | refine kthenP.e ?_ | refine kblockP.n ?_ | refine kblockP.r ?_ | refine kblockP.e ?_ | refine kblockP.o rfl ?_ | refine Runs.seq ?_ | refine Runs.region ?_ | refine Runs.block ?_ | refine Runs.cond ?_ | refine Runs.skip ?_ | refine Runs.loop ?_ | refine Runs.exit ?_ | refine Runs.ret ?_)
        refine pcond.t rfl ?_
        repeat (first | refine kthenP.n ?_ | refine kthenP.r ?_ | refine kthenP.e ?_ | refine kblockP.n ?_ | refine kblockP.r ?_ | refine kblockP.e ?_ | refine kblockP.o rfl ?_ | refine Runs.seq ?_ | refine Runs.region ?_ | refine Runs.block ?_ | refine Runs.cond ?_ | refine Runs.skip ?_ | refine Runs.loop ?_ | refine Runs.exit ?_ | refine Runs.ret ?_)
        repeat (first | refine pops.bin rfl rfl rfl rfl rfl rfl (cbin_inc (by omega)) ?_ | refine pops.fl rfl rfl rfl rfl rfl ?_ | refine pops.skip rfl rfl rfl ?_ | refine pops.load rfl rfl rfl rfl rfl (by first | assumption | exact cload_of (by assumption) rfl) ?_ | refine pops.len rfl rfl rfl rfl rfl rfl rfl rfl (by first | exact SlA.len (by assumption) rfl | exact SlI.len (by assumption) rfl | exact SlS.len (by assumption) rfl | exact Sl.len (by assumption) rfl) ?_)
        refine pops.nil ?_
        repeat (first | refine kthenP.n ?_ | refine kthenP.r ?_ | refine kthenP.e ?_ | refine kblockP.n ?_ | refine kblockP.r ?_ | refine kblockP.e ?_ | refine kblockP.o rfl ?_ | refine Runs.seq ?_ | refine Runs.region ?_ | refine Runs.block ?_ | refine Runs.cond ?_ | refine Runs.skip ?_ | refine Runs.loop ?_ | refine Runs.exit ?_ | refine Runs.ret ?_)
        refine pleave.r rfl ?_
        refine ⟨?_, g1⟩
        rw [single_bad (fun hh => by have := hh.2.1 _ hfirst; omega), Bool.and_false]
      have q4 := of_decide_eq_false q4
      repeat (first | refine pops.bin rfl rfl rfl rfl rfl rfl (cbin_inc (by omega)) ?_ | refine pops.fl rfl rfl rfl rfl rfl ?_ | refine pops.skip rfl rfl rfl ?_ | refine pops.load rfl rfl rfl rfl rfl (by first | assumption | exact cload_of (by assumption) rfl) ?_ | refine pops.len rfl rfl rfl rfl rfl rfl rfl rfl (by first | exact SlA.len (by assumption) rfl | exact SlI.len (by assumption) rfl | exact SlS.len (by assumption) rfl | exact Sl.len (by assumption) rfl) ?_)
      refine pops.nil ?_
      repeat (first | refine kthenP.n ?_ | refine kthenP.r ?_ | refine kthenP.e ?_ | refine kblockP.n ?_ | refine kblockP.r ?_ | refine kblockP.e ?_ | refine kblockP.o rfl ?_ | refine Runs.seq ?_ | refine Runs.region ?_ | refine Runs.block ?_ | refine Runs.cond ?_ | refine Runs.skip ?_ | refine Runs.loop ?_ | refine Runs.exit ?_ | refine Runs.ret ?_)
      refine pcond.f rfl ?_
      repeat (first | refine kthenP.n ?_ | refine kthenP.r ?_ | refine kthenP.e ?_ | refine kblockP.n ?_ | refine kblockP.r ?_ | refine kblockP.e ?_ | refine kblockP.o rfl ?_ | refine Runs.seq ?_ | refine Runs.region ?_ | refine Runs.block ?_ | refine Runs.cond ?_ | refine Runs.skip ?_ | refine Runs.loop ?_ | refine Runs.exit ?_ | refine Runs.ret ?_)
      repeat (first | refine pops.bin rfl rfl rfl rfl rfl rfl (cbin_inc (by omega)) ?_ | refine pops.fl rfl rfl rfl rfl rfl ?_ | refine pops.skip rfl rfl rfl ?_ | refine pops.load rfl rfl rfl rfl rfl (by first | assumption | exact cload_of (by assumption) rfl) ?_ | refine pops.len rfl rfl rfl rfl rfl rfl rfl rfl (by first | exact SlA.len (by assumption) rfl | exact SlI.len (by assumption) rfl | exact SlS.len (by assumption) rfl | exact Sl.len (by assumption) rfl) ?_)
      refine pops.nil ?_
      repeat (first | refine kthenP.n ?_ | refine kthenP.r ?_ | refine kthenP.e ?_ | refine kblockP.n ?_ | refine kblockP.r ?_ | refine kblockP.e ?_ | refine kblockP.o rfl ?_ | refine Runs.seq ?_ | refine Runs.region ?_ | refine Runs.block ?_ | refine Runs.cond ?_ | refine Runs.skip ?_ | refine Runs.loop ?_ | refine Runs.exit ?_ | refine Runs.ret ?_)
      refine Loops.ind 8 (fun i : Nat => [(1, .int .i64 n), (3, .pointer (some ⟨b, 0, none⟩)), (6, .bool false), (7, .int .i64 ((i + 1 : Nat) : Int))]) (fun i h' => i + 1 ≤ p.classes.length ∧ h' = h1 ∧ ∀ (j : Nat) a b, 0 < j → j < i + 1 → p.classes[j]? = some b → p.classes[j - 1]? = some a → a < b) (fun i => p.classes.length - i) 0 (by decide) ⟨rfl, rfl, rfl, rfl, trivial⟩ ⟨by omega, rfl, fun j a b h1 h2 => by omega⟩ ?_
      rintro i z h' hwf' ⟨hi, rfl, hall⟩
      repeat (first | refine kthenP.n ?_ | refine kthenP.r ?_ | refine kthenP.e ?_ | refine kblockP.n ?_ | refine kblockP.r ?_ | refine kblockP.e ?_ | refine kblockP.o rfl ?_ | refine Runs.seq ?_ | refine Runs.region ?_ | refine Runs.block ?_ | refine Runs.cond ?_ | refine Runs.skip ?_ | refine Runs.loop ?_ | refine Runs.exit ?_ | refine Runs.ret ?_)
      repeat (first | refine pops.bin rfl rfl rfl rfl rfl rfl (cbin_inc (by omega)) ?_ | refine pops.fl rfl rfl rfl rfl rfl ?_ | refine pops.skip rfl rfl rfl ?_ | refine pops.load rfl rfl rfl rfl rfl (by first | assumption | exact cload_of (by assumption) rfl) ?_ | refine pops.len rfl rfl rfl rfl rfl rfl rfl rfl (by first | exact SlA.len (by assumption) rfl | exact SlI.len (by assumption) rfl | exact SlS.len (by assumption) rfl | exact Sl.len (by assumption) rfl) ?_)
      refine pops.nil ?_
      repeat (first | refine kthenP.n ?_ | refine kthenP.r ?_ | refine kthenP.e ?_ | refine kblockP.n ?_ | refine kblockP.r ?_ | refine kblockP.e ?_ | refine kblockP.o rfl ?_ | refine Runs.seq ?_ | refine Runs.region ?_ | refine Runs.block ?_ | refine Runs.cond ?_ | refine Runs.skip ?_ | refine Runs.loop ?_ | refine Runs.exit ?_ | refine Runs.ret ?_)
      refine pcond.d (p := ((i + 1 : Nat) : Int) < (p.classes.length : Nat)) rfl (fun hlt => ?_) (fun hge => ?_)
      · obtain ⟨x, hx⟩ : ∃ c, p.classes[i + 1]? = some c := ⟨_, List.getElem?_eq_getElem (by omega)⟩
        obtain ⟨y, hy⟩ : ∃ c, p.classes[i]? = some c := ⟨_, List.getElem?_eq_getElem (by omega)⟩
        obtain ⟨p1, hp1, hq1⟩ := Sl.readM hc hwf' (ts := 31) rfl hx .i64
        obtain ⟨p2, hp2, hq2⟩ := Sl.readM hc hwf' (ts := 31) rfl hy .i64
        have hq1' : cload (X w).T h' 3 p1 = some (.int .i64 x) := hq1 _ (Gr.refl _)
        have hq2' : cload (X w).T h' 3 p2 = some (.int .i64 y) := hq2 _ (Gr.refl _)
        have e1 : ((i + 1 : Nat) : Int) - 1 = (i : Int) := by omega
        repeat (first | refine kthenP.n ?_ | refine kthenP.r ?_ | refine kthenP.e ?_ | refine kblockP.n ?_ | refine kblockP.r ?_ | refine kblockP.e ?_ | refine kblockP.o rfl ?_ | refine Runs.seq ?_ | refine Runs.region ?_ | refine Runs.block ?_ | refine Runs.cond ?_ | refine Runs.skip ?_ | refine Runs.loop ?_ | refine Runs.exit ?_ | refine Runs.ret ?_)
        refine PG.start _ rfl rfl ?_
        refine PG.take (by decide +kernel) rfl rfl rfl rfl ?_
        refine PG.load (by decide +kernel) rfl rfl rfl rfl rfl (by first | assumption | exact cload_of (by assumption) rfl) ?_
        refine PG.take (by decide +kernel) rfl rfl rfl rfl ?_
        refine PG.take (by decide +kernel) rfl rfl rfl (hp1) ?_
        refine PG.load (by decide +kernel) rfl rfl rfl rfl rfl (by first | assumption | exact cload_of (by assumption) rfl) ?_
        refine PG.take (by decide +kernel) rfl rfl rfl rfl ?_
        refine PG.load (by decide +kernel) rfl rfl rfl rfl rfl (by first | assumption | exact cload_of (by assumption) rfl) ?_
        refine PG.take (by decide +kernel) rfl rfl rfl rfl ?_
        refine PG.take (by decide +kernel) rfl rfl rfl ((cbin_subI (T := tab) (h := h') (t := 3) (xo := .tmp 46) (yo := .const (.int .i64 1)) (n := ((i + 1 : Nat) : Int)) (m := 1) (by omega) (by omega))) ?_
        rw [e1]
        refine PG.take (by decide +kernel) rfl rfl rfl (hp2) ?_
        refine PG.load (by decide +kernel) rfl rfl rfl rfl rfl (by first | assumption | exact cload_of (by assumption) rfl) ?_
        cases hcmp : decide (x ≤ y) with
        | true =>
          refine PG.take (by decide +kernel) rfl rfl rfl ((congrArg (fun b => some (Value.bool b)) hcmp)) ?_
          refine PG.nil ?_
          refine pd1.fin (by kernel_rfl) (by kernel_rfl) ?_
          have hcmp := of_decide_eq_true hcmp
          repeat (first | refine kthenP.n ?_ | refine kthenP.r ?_ | refine kthenP.e ?_ | refine kblockP.n ?_ | refine kblockP.r ?_ | refine kblockP.e ?_ | refine kblockP.o rfl ?_ | refine Runs.seq ?_ | refine Runs.region ?_ | refine Runs.block ?_ | refine Runs.cond ?_ | refine Runs.skip ?_ | refine Runs.loop ?_ | refine Runs.exit ?_ | refine Runs.ret ?_)
          refine pcond.t rfl ?_
          repeat (first | refine kthenP.n ?_ | refine kthenP.r ?_ | refine kthenP.e ?_ | refine kblockP.n ?_ | refine kblockP.r ?_ | refine kblockP.e ?_ | refine kblockP.o rfl ?_ | refine Runs.seq ?_ | refine Runs.region ?_ | refine Runs.block ?_ | refine Runs.cond ?_ | refine Runs.skip ?_ | refine Runs.loop ?_ | refine Runs.exit ?_ | refine Runs.ret ?_)
          repeat (first | refine pops.bin rfl rfl rfl rfl rfl rfl (cbin_inc (by omega)) ?_ | refine pops.fl rfl rfl rfl rfl rfl ?_ | refine pops.skip rfl rfl rfl ?_ | refine pops.load rfl rfl rfl rfl rfl (by first | assumption | exact cload_of (by assumption) rfl) ?_ | refine pops.len rfl rfl rfl rfl rfl rfl rfl rfl (by first | exact SlA.len (by assumption) rfl | exact SlI.len (by assumption) rfl | exact SlS.len (by assumption) rfl | exact Sl.len (by assumption) rfl) ?_)
          refine pops.nil ?_
          repeat (first | refine kthenP.n ?_ | refine kthenP.r ?_ | refine kthenP.e ?_ | refine kblockP.n ?_ | refine kblockP.r ?_ | refine kblockP.e ?_ | refine kblockP.o rfl ?_ | refine Runs.seq ?_ | refine Runs.region ?_ | refine Runs.block ?_ | refine Runs.cond ?_ | refine Runs.skip ?_ | refine Runs.loop ?_ | refine Runs.exit ?_ | refine Runs.ret ?_)
          refine pleave.r rfl ?_
          refine ⟨?_, g1⟩
          rw [single_bad (fun hh => by have := hh.2.2 (i + 1) y x (by omega) hx (by rw [Nat.add_sub_cancel]; exact hy); omega), Bool.and_false]
        | false =>
          refine PG.take (by decide +kernel) rfl rfl rfl ((congrArg (fun b => some (Value.bool b)) hcmp)) ?_
          refine PG.nil ?_
          refine pd1.fin (by kernel_rfl) (by kernel_rfl) ?_
          have hcmp := of_decide_eq_false hcmp
          repeat (first | refine kthenP.n ?_ | refine kthenP.r ?_ | refine kthenP.e ?_ | refine kblockP.n ?_ | refine kblockP.r ?_ | refine kblockP.e ?_ | refine kblockP.o rfl ?_ | refine Runs.seq ?_ | refine Runs.region ?_ | refine Runs.block ?_ | refine Runs.cond ?_ | refine Runs.skip ?_ | refine Runs.loop ?_ | refine Runs.exit ?_ | refine Runs.ret ?_)
          refine pcond.f rfl ?_
          repeat (first | refine kthenP.n ?_ | refine kthenP.r ?_ | refine kthenP.e ?_ | refine kblockP.n ?_ | refine kblockP.r ?_ | refine kblockP.e ?_ | refine kblockP.o rfl ?_ | refine Runs.seq ?_ | refine Runs.region ?_ | refine Runs.block ?_ | refine Runs.cond ?_ | refine Runs.skip ?_ | refine Runs.loop ?_ | refine Runs.exit ?_ | refine Runs.ret ?_)
          repeat (first | refine pops.bin rfl rfl rfl rfl rfl rfl (cbin_inc (by omega)) ?_ | refine pops.fl rfl rfl rfl rfl rfl ?_ | refine pops.skip rfl rfl rfl ?_ | refine pops.load rfl rfl rfl rfl rfl (by first | assumption | exact cload_of (by assumption) rfl) ?_ | refine pops.len rfl rfl rfl rfl rfl rfl rfl rfl (by first | exact SlA.len (by assumption) rfl | exact SlI.len (by assumption) rfl | exact SlS.len (by assumption) rfl | exact Sl.len (by assumption) rfl) ?_)
          refine pops.nil ?_
          refine .n ⟨_, i + 1, rfl, ⟨rfl, rfl, rfl, rfl, trivial⟩, (by show p.classes.length - (i + 1) < p.classes.length - i; omega), by omega, rfl, fun j a b' h1 h2 h3 h4 => ?_⟩
          rcases Nat.lt_or_ge j (i + 1) with h5 | h5
          · exact hall j a b' h1 h5 h3 h4
          · obtain rfl : j = i + 1 := by omega
            rw [hx] at h3
            rw [Nat.add_sub_cancel, hy] at h4
            cases h3
            cases h4
            omega
      · repeat (first | refine kthenP.n ?_ | refine kthenP.r ?_ | refine kthenP.e ?_ | refine kblockP.n ?_ | refine kblockP.r ?_ | refine kblockP.e ?_ | refine kblockP.o rfl ?_ | refine Runs.seq ?_ | refine Runs.region ?_ | refine Runs.block ?_ | refine Runs.cond ?_ | refine Runs.skip ?_ | refine Runs.loop ?_ | refine Runs.exit ?_ | refine Runs.ret ?_)
        have hi' : i + 1 = p.classes.length := by omega
        obtain ⟨last, hlast⟩ : ∃ c, p.classes[p.classes.length - 1]? = some c := ⟨_, List.getElem?_eq_getElem (by omega)⟩
        have hR := single_ref (n := n) (by omega) hlast hfirst (by omega) (fun j a b h1 h2 h3 => hall j a b h1 (by have := (List.getElem?_eq_some_iff.1 h2).1; omega) h2 h3)
        rw [hR, decide_eq_true (show p.subs.length = 0 by omega), Bool.true_and]
        refine pops.fl rfl rfl rfl rfl rfl ?_
        refine pops.load rfl rfl rfl rfl rfl (by first | assumption | exact cload_of (by assumption) rfl) ?_
        refine pops.fl rfl rfl rfl rfl rfl ?_
        refine pops.load rfl rfl rfl rfl rfl (by first | assumption | exact cload_of (by assumption) rfl) ?_
        refine pops.len rfl rfl rfl rfl rfl rfl rfl rfl (by first | exact SlA.len (by assumption) rfl | exact SlI.len (by assumption) rfl | exact SlS.len (by assumption) rfl | exact Sl.len (by assumption) rfl) ?_
        refine pops.bin rfl rfl rfl rfl rfl rfl (cbin_dec (by omega) (by omega)) ?_
        refine pops.atI (f := Value.int .i64) rfl rfl rfl rfl rfl rfl rfl hc hlast fun a ha => ?_
        refine pops.load rfl rfl rfl rfl rfl (by first | assumption | exact cload_of (by assumption) rfl) ?_
        repeat (first | refine pops.bin rfl rfl rfl rfl rfl rfl (cbin_inc (by omega)) ?_ | refine pops.fl rfl rfl rfl rfl rfl ?_ | refine pops.skip rfl rfl rfl ?_ | refine pops.load rfl rfl rfl rfl rfl (by first | assumption | exact cload_of (by assumption) rfl) ?_ | refine pops.len rfl rfl rfl rfl rfl rfl rfl rfl (by first | exact SlA.len (by assumption) rfl | exact SlI.len (by assumption) rfl | exact SlS.len (by assumption) rfl | exact Sl.len (by assumption) rfl) ?_)
        refine pops.nil ?_
        repeat (first | refine kthenP.n ?_ | refine kthenP.r ?_ | refine kthenP.e ?_ | refine kblockP.n ?_ | refine kblockP.r ?_ | refine kblockP.e ?_ | refine kblockP.o rfl ?_ | refine Runs.seq ?_ | refine Runs.region ?_ | refine Runs.block ?_ | refine Runs.cond ?_ | refine Runs.skip ?_ | refine Runs.loop ?_ | refine Runs.exit ?_ | refine Runs.ret ?_)
        repeat (first | refine pops.bin rfl rfl rfl rfl rfl rfl (cbin_inc (by omega)) ?_ | refine pops.fd rfl rfl rfl rfl rfl rfl ?_ | refine pops.skip rfl rfl rfl ?_ | refine pops.load rfl rfl rfl rfl rfl (by first | assumption | exact cload_of (by assumption) rfl) ?_ | refine pops.len rfl rfl rfl rfl rfl rfl rfl rfl (by first | exact SlA.len (by assumption) rfl | exact SlI.len (by assumption) rfl | exact SlS.len (by assumption) rfl | exact Sl.len (by assumption) rfl) ?_)
        refine pops.cmp rfl rfl rfl rfl rfl (fun q5 => ?_) (fun q5 => ?_)
        · repeat (first | refine pops.bin rfl rfl rfl rfl rfl rfl (cbin_inc (by omega)) ?_ | refine pops.fl rfl rfl rfl rfl rfl ?_ | refine pops.skip rfl rfl rfl ?_ | refine pops.load rfl rfl rfl rfl rfl (by first | assumption | exact cload_of (by assumption) rfl) ?_ | refine pops.len rfl rfl rfl rfl rfl rfl rfl rfl (by first | exact SlA.len (by assumption) rfl | exact SlI.len (by assumption) rfl | exact SlS.len (by assumption) rfl | exact Sl.len (by assumption) rfl) ?_)
          refine pops.nil ?_
          repeat (first | refine kthenP.n ?_ | refine kthenP.r ?_ | refine kthenP.e ?_ | refine kblockP.n ?_ | refine kblockP.r ?_ | refine kblockP.e ?_ | refine kblockP.o rfl ?_ | refine Runs.seq ?_ | refine Runs.region ?_ | refine Runs.block ?_ | refine Runs.cond ?_ | refine Runs.skip ?_ | refine Runs.loop ?_ | refine Runs.exit ?_ | refine Runs.ret ?_)
          refine pleave.r rfl ?_
          refine ⟨?_, g1⟩
          rw [q5]
          rfl
        repeat (first | refine pops.bin rfl rfl rfl rfl rfl rfl (cbin_inc (by omega)) ?_ | refine pops.fd rfl rfl rfl rfl rfl rfl ?_ | refine pops.skip rfl rfl rfl ?_ | refine pops.load rfl rfl rfl rfl rfl (by first | assumption | exact cload_of (by assumption) rfl) ?_ | refine pops.len rfl rfl rfl rfl rfl rfl rfl rfl (by first | exact SlA.len (by assumption) rfl | exact SlI.len (by assumption) rfl | exact SlS.len (by assumption) rfl | exact Sl.len (by assumption) rfl) ?_)
        refine pops.cmp rfl rfl rfl rfl rfl (fun q6 => ?_) (fun q6 => ?_)
        · repeat (first | refine pops.bin rfl rfl rfl rfl rfl rfl (cbin_inc (by omega)) ?_ | refine pops.fl rfl rfl rfl rfl rfl ?_ | refine pops.skip rfl rfl rfl ?_ | refine pops.load rfl rfl rfl rfl rfl (by first | assumption | exact cload_of (by assumption) rfl) ?_ | refine pops.len rfl rfl rfl rfl rfl rfl rfl rfl (by first | exact SlA.len (by assumption) rfl | exact SlI.len (by assumption) rfl | exact SlS.len (by assumption) rfl | exact Sl.len (by assumption) rfl) ?_)
          refine pops.nil ?_
          repeat (first | refine kthenP.n ?_ | refine kthenP.r ?_ | refine kthenP.e ?_ | refine kblockP.n ?_ | refine kblockP.r ?_ | refine kblockP.e ?_ | refine kblockP.o rfl ?_ | refine Runs.seq ?_ | refine Runs.region ?_ | refine Runs.block ?_ | refine Runs.cond ?_ | refine Runs.skip ?_ | refine Runs.loop ?_ | refine Runs.exit ?_ | refine Runs.ret ?_)
          refine pleave.r rfl ?_
          refine ⟨?_, g1⟩
          rw [q6, q5]
          rfl
        refine pops.fl rfl rfl rfl rfl rfl ?_
        refine pops.fl rfl rfl rfl rfl rfl ?_
        refine pops.fl rfl rfl rfl rfl rfl ?_
        refine pops.fl rfl rfl rfl rfl rfl ?_
        refine pops.bin rfl rfl rfl rfl rfl rfl (cbin_addI (by omega) (by omega)) ?_
        refine pops.cmp rfl rfl rfl rfl rfl (fun q7 => ?_) (fun q7 => ?_)
        · repeat (first | refine pops.bin rfl rfl rfl rfl rfl rfl (cbin_inc (by omega)) ?_ | refine pops.fd rfl rfl rfl rfl rfl rfl ?_ | refine pops.skip rfl rfl rfl ?_ | refine pops.load rfl rfl rfl rfl rfl (by first | assumption | exact cload_of (by assumption) rfl) ?_ | refine pops.len rfl rfl rfl rfl rfl rfl rfl rfl (by first | exact SlA.len (by assumption) rfl | exact SlI.len (by assumption) rfl | exact SlS.len (by assumption) rfl | exact Sl.len (by assumption) rfl) ?_)
          refine pops.cmp rfl rfl rfl rfl rfl (fun q8 => ?_) (fun q8 => ?_)
          · have q8 := of_decide_eq_true q8
            repeat (first | refine pops.bin rfl rfl rfl rfl rfl rfl (cbin_inc (by omega)) ?_ | refine pops.fl rfl rfl rfl rfl rfl ?_ | refine pops.skip rfl rfl rfl ?_ | refine pops.load rfl rfl rfl rfl rfl (by first | assumption | exact cload_of (by assumption) rfl) ?_ | refine pops.len rfl rfl rfl rfl rfl rfl rfl rfl (by first | exact SlA.len (by assumption) rfl | exact SlI.len (by assumption) rfl | exact SlS.len (by assumption) rfl | exact Sl.len (by assumption) rfl) ?_)
            refine pops.nil ?_
            repeat (first | refine kthenP.n ?_ | refine kthenP.r ?_ | refine kthenP.e ?_ | refine kblockP.n ?_ | refine kblockP.r ?_ | refine kblockP.e ?_ | refine kblockP.o rfl ?_ | refine Runs.seq ?_ | refine Runs.region ?_ | refine Runs.block ?_ | refine Runs.cond ?_ | refine Runs.skip ?_ | refine Runs.loop ?_ | refine Runs.exit ?_ | refine Runs.ret ?_)
            refine pleave.r rfl ?_
            refine ⟨?_, g1⟩
            rw [q7, q6, q5, decide_eq_true (show p.classes.length = 1 by omega)]
            rfl
          · have q8 := of_decide_eq_false q8
            repeat (first | refine pops.bin rfl rfl rfl rfl rfl rfl (cbin_inc (by omega)) ?_ | refine pops.fl rfl rfl rfl rfl rfl ?_ | refine pops.skip rfl rfl rfl ?_ | refine pops.load rfl rfl rfl rfl rfl (by first | assumption | exact cload_of (by assumption) rfl) ?_ | refine pops.len rfl rfl rfl rfl rfl rfl rfl rfl (by first | exact SlA.len (by assumption) rfl | exact SlI.len (by assumption) rfl | exact SlS.len (by assumption) rfl | exact Sl.len (by assumption) rfl) ?_)
            refine pops.nil ?_
            repeat (first | refine kthenP.n ?_ | refine kthenP.r ?_ | refine kthenP.e ?_ | refine kblockP.n ?_ | refine kblockP.r ?_ | refine kblockP.e ?_ | refine kblockP.o rfl ?_ | refine Runs.seq ?_ | refine Runs.region ?_ | refine Runs.block ?_ | refine Runs.cond ?_ | refine Runs.skip ?_ | refine Runs.loop ?_ | refine Runs.exit ?_ | refine Runs.ret ?_)
            refine pleave.r rfl ?_
            refine ⟨?_, g1⟩
            rw [q7, q6, q5, decide_eq_false (show ¬ p.classes.length = 1 by omega)]
            rfl
        · repeat (first | refine pops.bin rfl rfl rfl rfl rfl rfl (cbin_inc (by omega)) ?_ | refine pops.fl rfl rfl rfl rfl rfl ?_ | refine pops.skip rfl rfl rfl ?_ | refine pops.load rfl rfl rfl rfl rfl (by first | assumption | exact cload_of (by assumption) rfl) ?_ | refine pops.len rfl rfl rfl rfl rfl rfl rfl rfl (by first | exact SlA.len (by assumption) rfl | exact SlI.len (by assumption) rfl | exact SlS.len (by assumption) rfl | exact Sl.len (by assumption) rfl) ?_)
          refine pops.nil ?_
          repeat (first | refine kthenP.n ?_ | refine kthenP.r ?_ | refine kthenP.e ?_ | refine kblockP.n ?_ | refine kblockP.r ?_ | refine kblockP.e ?_ | refine kblockP.o rfl ?_ | refine Runs.seq ?_ | refine Runs.region ?_ | refine Runs.block ?_ | refine Runs.cond ?_ | refine Runs.skip ?_ | refine Runs.loop ?_ | refine Runs.exit ?_ | refine Runs.ret ?_)
          refine pleave.r rfl ?_
          refine ⟨?_, g1⟩
          rw [q7, q6, q5]
          rfl
    have q1 := of_decide_eq_false q1
    have eP : patOk n (L + 1) p = (kindB p && decide (p.classes.length = 0) && p.subs.all (patOk n L)) := by
      show cond (decide (p.kind = 1)) _ _ = _
      rw [decide_eq_false q1]
      rfl
    rw [eP]
    clear eP
    have noKind : p.kind < 2 ∨ 4 < p.kind → kindB p = false := fun hk => by
      unfold kindB
      rw [decide_eq_false (by omega), decide_eq_false (by omega), decide_eq_false (by omega)]
      rfl
    refine pops.nil ?_
    repeat (first | refine kthenP.n ?_ | refine kthenP.r ?_ | refine kthenP.e ?_ | refine kblockP.n ?_ | refine kblockP.r ?_ | refine kblockP.e ?_ | refine kblockP.o rfl ?_ | refine Runs.seq ?_ | refine Runs.region ?_ | refine Runs.block ?_ | refine Runs.cond ?_ | refine Runs.skip ?_ | refine Runs.loop ?_ | refine Runs.exit ?_ | refine Runs.ret ?_)
    refine pcond.f rfl ?_
    repeat (first | refine kthenP.n ?_ | refine kthenP.r ?_ | refine kthenP.e ?_ | refine kblockP.n ?_ | refine kblockP.r ?_ | refine kblockP.e ?_ | refine kblockP.o rfl ?_ | refine Runs.seq ?_ | refine Runs.region ?_ | refine Runs.block ?_ | refine Runs.cond ?_ | refine Runs.skip ?_ | refine Runs.loop ?_ | refine Runs.exit ?_ | refine Runs.ret ?_)
    repeat (first | refine pops.bin rfl rfl rfl rfl rfl rfl (cbin_inc (by omega)) ?_ | refine pops.fd rfl rfl rfl rfl rfl rfl ?_ | refine pops.skip rfl rfl rfl ?_ | refine pops.load rfl rfl rfl rfl rfl (by first | assumption | exact cload_of (by assumption) rfl) ?_ | refine pops.len rfl rfl rfl rfl rfl rfl rfl rfl (by first | exact SlA.len (by assumption) rfl | exact SlI.len (by assumption) rfl | exact SlS.len (by assumption) rfl | exact Sl.len (by assumption) rfl) ?_)
    refine pops.cmp rfl rfl rfl rfl rfl (fun q2 => ?_) (fun q2 => ?_)
    · have q2 := of_decide_eq_true q2
      repeat (first | refine pops.bin rfl rfl rfl rfl rfl rfl (cbin_inc (by omega)) ?_ | refine pops.fl rfl rfl rfl rfl rfl ?_ | refine pops.skip rfl rfl rfl ?_ | refine pops.load rfl rfl rfl rfl rfl (by first | assumption | exact cload_of (by assumption) rfl) ?_ | refine pops.len rfl rfl rfl rfl rfl rfl rfl rfl (by first | exact SlA.len (by assumption) rfl | exact SlI.len (by assumption) rfl | exact SlS.len (by assumption) rfl | exact Sl.len (by assumption) rfl) ?_)
      refine pops.nil ?_
      repeat (first | refine kthenP.n ?_ | refine kthenP.r ?_ | refine kthenP.e ?_ | refine kblockP.n ?_ | refine kblockP.r ?_ | refine kblockP.e ?_ | refine kblockP.o rfl ?_ | refine Runs.seq ?_ | refine Runs.region ?_ | refine Runs.block ?_ | refine Runs.cond ?_ | refine Runs.skip ?_ | refine Runs.loop ?_ | refine Runs.exit ?_ | refine Runs.ret ?_)
      refine pcond.t rfl ?_
      repeat (first | refine kthenP.n ?_ | refine kthenP.r ?_ | refine kthenP.e ?_ | refine kblockP.n ?_ | refine kblockP.r ?_ | refine kblockP.e ?_ | refine kblockP.o rfl ?_ | refine Runs.seq ?_ | refine Runs.region ?_ | refine Runs.block ?_ | refine Runs.cond ?_ | refine Runs.skip ?_ | refine Runs.loop ?_ | refine Runs.exit ?_ | refine Runs.ret ?_)
      repeat (first | refine pops.bin rfl rfl rfl rfl rfl rfl (cbin_inc (by omega)) ?_ | refine pops.fl rfl rfl rfl rfl rfl ?_ | refine pops.skip rfl rfl rfl ?_ | refine pops.load rfl rfl rfl rfl rfl (by first | assumption | exact cload_of (by assumption) rfl) ?_ | refine pops.len rfl rfl rfl rfl rfl rfl rfl rfl (by first | exact SlA.len (by assumption) rfl | exact SlI.len (by assumption) rfl | exact SlS.len (by assumption) rfl | exact Sl.len (by assumption) rfl) ?_)
      refine pops.nil ?_
      repeat (first | refine kthenP.n ?_ | refine kthenP.r ?_ | refine kthenP.e ?_ | refine kblockP.n ?_ | refine kblockP.r ?_ | refine kblockP.e ?_ | refine kblockP.o rfl ?_ | refine Runs.seq ?_ | refine Runs.region ?_ | refine Runs.block ?_ | refine Runs.cond ?_ | refine Runs.skip ?_ | refine Runs.loop ?_ | refine Runs.exit ?_ | refine Runs.ret ?_)
      refine pleave.r rfl ?_
      refine ⟨?_, g1⟩
      rw [noKind (by omega)]
      rfl
    have q2 := of_decide_eq_false q2
    repeat (first | refine pops.bin rfl rfl rfl rfl rfl rfl (cbin_inc (by omega)) ?_ | refine pops.fd rfl rfl rfl rfl rfl rfl ?_ | refine pops.skip rfl rfl rfl ?_ | refine pops.load rfl rfl rfl rfl rfl (by first | assumption | exact cload_of (by assumption) rfl) ?_ | refine pops.len rfl rfl rfl rfl rfl rfl rfl rfl (by first | exact SlA.len (by assumption) rfl | exact SlI.len (by assumption) rfl | exact SlS.len (by assumption) rfl | exact Sl.len (by assumption) rfl) ?_)
    refine pops.cmp rfl rfl rfl rfl rfl (fun q3 => ?_) (fun q3 => ?_)
    · have q3 := of_decide_eq_true q3
      repeat (first | refine pops.bin rfl rfl rfl rfl rfl rfl (cbin_inc (by omega)) ?_ | refine pops.fl rfl rfl rfl rfl rfl ?_ | refine pops.skip rfl rfl rfl ?_ | refine pops.load rfl rfl rfl rfl rfl (by first | assumption | exact cload_of (by assumption) rfl) ?_ | refine pops.len rfl rfl rfl rfl rfl rfl rfl rfl (by first | exact SlA.len (by assumption) rfl | exact SlI.len (by assumption) rfl | exact SlS.len (by assumption) rfl | exact Sl.len (by assumption) rfl) ?_)
      refine pops.nil ?_
      repeat (first | refine kthenP.n ?_ | refine kthenP.r ?_ | refine kthenP.e ?_ | refine kblockP.n ?_ | refine kblockP.r ?_ | refine kblockP.e ?_ | refine kblockP.o rfl ?_ | refine Runs.seq ?_ | refine Runs.region ?_ | refine Runs.block ?_ | refine Runs.cond ?_ | refine Runs.skip ?_ | refine Runs.loop ?_ | refine Runs.exit ?_ | refine Runs.ret ?_)
      refine pcond.t rfl ?_
      repeat (first | refine kthenP.n ?_ | refine kthenP.r ?_ | refine kthenP.e ?_ | refine kblockP.n ?_ | refine kblockP.r ?_ | refine kblockP.e ?_ | refine kblockP.o rfl ?_ | refine Runs.seq ?_ | refine Runs.region ?_ | refine Runs.block ?_ | refine Runs.cond ?_ | refine Runs.skip ?_ | refine Runs.loop ?_ | refine Runs.exit ?_ | refine Runs.ret ?_)
      repeat (first | refine pops.bin rfl rfl rfl rfl rfl rfl (cbin_inc (by omega)) ?_ | refine pops.fl rfl rfl rfl rfl rfl ?_ | refine pops.skip rfl rfl rfl ?_ | refine pops.load rfl rfl rfl rfl rfl (by first | assumption | exact cload_of (by assumption) rfl) ?_ | refine pops.len rfl rfl rfl rfl rfl rfl rfl rfl (by first | exact SlA.len (by assumption) rfl | exact SlI.len (by assumption) rfl | exact SlS.len (by assumption) rfl | exact Sl.len (by assumption) rfl) ?_)
      refine pops.nil ?_
      repeat (first | refine kthenP.n ?_ | refine kthenP.r ?_ | refine kthenP.e ?_ | refine kblockP.n ?_ | refine kblockP.r ?_ | refine kblockP.e ?_ | refine kblockP.o rfl ?_ | refine Runs.seq ?_ | refine Runs.region ?_ | refine Runs.block ?_ | refine Runs.cond ?_ | refine Runs.skip ?_ | refine Runs.loop ?_ | refine Runs.exit ?_ | refine Runs.ret ?_)
      refine pleave.r rfl ?_
      refine ⟨?_, g1⟩
      rw [noKind (by omega)]
      rfl
    have q3 := of_decide_eq_false q3
    clear noKind
    repeat (first | refine pops.bin rfl rfl rfl rfl rfl rfl (cbin_inc (by omega)) ?_ | refine pops.fd rfl rfl rfl rfl rfl rfl ?_ | refine pops.skip rfl rfl rfl ?_ | refine pops.load rfl rfl rfl rfl rfl (by first | assumption | exact cload_of (by assumption) rfl) ?_ | refine pops.len rfl rfl rfl rfl rfl rfl rfl rfl (by first | exact SlA.len (by assumption) rfl | exact SlI.len (by assumption) rfl | exact SlS.len (by assumption) rfl | exact Sl.len (by assumption) rfl) ?_)
    refine pops.cmp rfl rfl rfl rfl rfl (fun q4 => ?_) (fun q4 => ?_)
    · have q4 := of_decide_eq_true q4
      repeat (first | refine pops.bin rfl rfl rfl rfl rfl rfl (cbin_inc (by omega)) ?_ | refine pops.fl rfl rfl rfl rfl rfl ?_ | refine pops.skip rfl rfl rfl ?_ | refine pops.load rfl rfl rfl rfl rfl (by first | assumption | exact cload_of (by assumption) rfl) ?_ | refine pops.len rfl rfl rfl rfl rfl rfl rfl rfl (by first | exact SlA.len (by assumption) rfl | exact SlI.len (by assumption) rfl | exact SlS.len (by assumption) rfl | exact Sl.len (by assumption) rfl) ?_)
      refine pops.nil ?_
      repeat (first | refine kthenP.n ?_ | refine kthenP.r ?_ | refine kthenP.e ?_ | refine kblockP.n ?_ | refine kblockP.r ?_ | refine kblockP.e ?_ | refine kblockP.o rfl ?_ | refine Runs.seq ?_ | refine Runs.region ?_ | refine Runs.block ?_ | refine Runs.cond ?_ | refine Runs.skip ?_ | refine Runs.loop ?_ | refine Runs.exit ?_ | refine Runs.ret ?_)
      refine pcond.t rfl ?_
      repeat (first | refine kthenP.n ?_ | refine kthenP.r ?_ | refine kthenP.e ?_ | refine kblockP.n ?_ | refine kblockP.r ?_ | refine kblockP.e ?_ | refine kblockP.o rfl ?_ | refine Runs.seq ?_ | refine Runs.region ?_ | refine Runs.block ?_ | refine Runs.cond ?_ | refine Runs.skip ?_ | refine Runs.loop ?_ | refine Runs.exit ?_ | refine Runs.ret ?_)
      repeat (first | refine pops.bin rfl rfl rfl rfl rfl rfl (cbin_inc (by omega)) ?_ | refine pops.fl rfl rfl rfl rfl rfl ?_ | refine pops.skip rfl rfl rfl ?_ | refine pops.load rfl rfl rfl rfl rfl (by first | assumption | exact cload_of (by assumption) rfl) ?_ | refine pops.len rfl rfl rfl rfl rfl rfl rfl rfl (by first | exact SlA.len (by assumption) rfl | exact SlI.len (by assumption) rfl | exact SlS.len (by assumption) rfl | exact Sl.len (by assumption) rfl) ?_)
      refine pops.nil ?_
      repeat (first | refine kthenP.n ?_ | refine kthenP.r ?_ | refine kthenP.e ?_ | refine kblockP.n ?_ | refine kblockP.r ?_ | refine kblockP.e ?_ | refine kblockP.o rfl ?_ | refine Runs.seq ?_ | refine Runs.region ?_ | refine Runs.block ?_ | refine Runs.cond ?_ | refine Runs.skip ?_ | refine Runs.loop ?_ | refine Runs.exit ?_ | refine Runs.ret ?_)
      refine pleave.r rfl ?_
      refine ⟨?_, g1⟩
      rw [decide_eq_false (show ¬ p.classes.length = 0 by omega), Bool.and_false]
      rfl
    have q4 := of_decide_eq_false q4
    rw [decide_eq_true (show p.classes.length = 0 by omega), Bool.and_true]
    repeat (first | refine pops.bin rfl rfl rfl rfl rfl rfl (cbin_inc (by omega)) ?_ | refine pops.fl rfl rfl rfl rfl rfl ?_ | refine pops.skip rfl rfl rfl ?_ | refine pops.load rfl rfl rfl rfl rfl (by first | assumption | exact cload_of (by assumption) rfl) ?_ | refine pops.len rfl rfl rfl rfl rfl rfl rfl rfl (by first | exact SlA.len (by assumption) rfl | exact SlI.len (by assumption) rfl | exact SlS.len (by assumption) rfl | exact Sl.len (by assumption) rfl) ?_)
    refine pops.nil ?_
    repeat (first | refine kthenP.n ?_ | refine kthenP.r ?_ | refine kthenP.e ?_ | refine kblockP.n ?_ | refine kblockP.r ?_ | refine kblockP.e ?_ | refine kblockP.o rfl ?_ | refine Runs.seq ?_ | refine Runs.region ?_ | refine Runs.block ?_ | refine Runs.cond ?_ | refine Runs.skip ?_ | refine Runs.loop ?_ | refine Runs.exit ?_ | refine Runs.ret ?_)
    refine pcond.f rfl ?_
    repeat (first | refine kthenP.n ?_ | refine kthenP.r ?_ | refine kthenP.e ?_ | refine kblockP.n ?_ | refine kblockP.r ?_ | refine kblockP.e ?_ | refine kblockP.o rfl ?_ | refine Runs.seq ?_ | refine Runs.region ?_ | refine Runs.block ?_ | refine Runs.cond ?_ | refine Runs.skip ?_ | refine Runs.loop ?_ | refine Runs.exit ?_ | refine Runs.ret ?_)
    repeat (first | refine pops.bin rfl rfl rfl rfl rfl rfl (cbin_inc (by omega)) ?_ | refine pops.fd rfl rfl rfl rfl rfl rfl ?_ | refine pops.skip rfl rfl rfl ?_ | refine pops.load rfl rfl rfl rfl rfl (by first | assumption | exact cload_of (by assumption) rfl) ?_ | refine pops.len rfl rfl rfl rfl rfl rfl rfl rfl (by first | exact SlA.len (by assumption) rfl | exact SlI.len (by assumption) rfl | exact SlS.len (by assumption) rfl | exact Sl.len (by assumption) rfl) ?_)
    refine pops.cmp rfl rfl rfl rfl rfl (fun k2 => ?_) (fun k2 => ?_)
    · have k2 := of_decide_eq_true k2
      repeat (first | refine pops.bin rfl rfl rfl rfl rfl rfl (cbin_inc (by omega)) ?_ | refine pops.fd rfl rfl rfl rfl rfl rfl ?_ | refine pops.skip rfl rfl rfl ?_ | refine pops.load rfl rfl rfl rfl rfl (by first | assumption | exact cload_of (by assumption) rfl) ?_ | refine pops.len rfl rfl rfl rfl rfl rfl rfl rfl (by first | exact SlA.len (by assumption) rfl | exact SlI.len (by assumption) rfl | exact SlS.len (by assumption) rfl | exact Sl.len (by assumption) rfl) ?_)
      refine pops.cmp rfl rfl rfl rfl rfl (fun z => ?_) (fun z => ?_)
      · have z := of_decide_eq_true z
        have z : p.subs.length = 1 := by omega
        have hk : kindB p = false := by unfold kindB; simp [k2, z]
        repeat (first | refine pops.bin rfl rfl rfl rfl rfl rfl (cbin_inc (by omega)) ?_ | refine pops.fl rfl rfl rfl rfl rfl ?_ | refine pops.skip rfl rfl rfl ?_ | refine pops.load rfl rfl rfl rfl rfl (by first | assumption | exact cload_of (by assumption) rfl) ?_ | refine pops.len rfl rfl rfl rfl rfl rfl rfl rfl (by first | exact SlA.len (by assumption) rfl | exact SlI.len (by assumption) rfl | exact SlS.len (by assumption) rfl | exact Sl.len (by assumption) rfl) ?_)
        refine pops.nil ?_
        repeat (first | refine kthenP.n ?_ | refine kthenP.r ?_ | refine kthenP.e ?_ | refine kblockP.n ?_ | refine kblockP.r ?_ | refine kblockP.e ?_ | refine kblockP.o rfl ?_ | refine Runs.seq ?_ | refine Runs.region ?_ | refine Runs.block ?_ | refine Runs.cond ?_ | refine Runs.skip ?_ | refine Runs.loop ?_ | refine Runs.exit ?_ | refine Runs.ret ?_)
        refine pcond.t rfl ?_
        repeat (first | refine kthenP.n ?_ | refine kthenP.r ?_ | refine kthenP.e ?_ | refine kblockP.n ?_ | refine kblockP.r ?_ | refine kblockP.e ?_ | refine kblockP.o rfl ?_ | refine Runs.seq ?_ | refine Runs.region ?_ | refine Runs.block ?_ | refine Runs.cond ?_ | refine Runs.skip ?_ | refine Runs.loop ?_ | refine Runs.exit ?_ | refine Runs.ret ?_)
        repeat (first | refine pops.bin rfl rfl rfl rfl rfl rfl (cbin_inc (by omega)) ?_ | refine pops.fl rfl rfl rfl rfl rfl ?_ | refine pops.skip rfl rfl rfl ?_ | refine pops.load rfl rfl rfl rfl rfl (by first | assumption | exact cload_of (by assumption) rfl) ?_ | refine pops.len rfl rfl rfl rfl rfl rfl rfl rfl (by first | exact SlA.len (by assumption) rfl | exact SlI.len (by assumption) rfl | exact SlS.len (by assumption) rfl | exact Sl.len (by assumption) rfl) ?_)
        refine pops.nil ?_
        repeat (first | refine kthenP.n ?_ | refine kthenP.r ?_ | refine kthenP.e ?_ | refine kblockP.n ?_ | refine kblockP.r ?_ | refine kblockP.e ?_ | refine kblockP.o rfl ?_ | refine Runs.seq ?_ | refine Runs.region ?_ | refine Runs.block ?_ | refine Runs.cond ?_ | refine Runs.skip ?_ | refine Runs.loop ?_ | refine Runs.exit ?_ | refine Runs.ret ?_)
        refine pleave.r rfl ?_
        refine ⟨?_, g1⟩
        rw [hk]
        rfl
      have z := of_decide_eq_false z
      have z : ¬ p.subs.length = 1 := by omega
      have hk : kindB p = true := by unfold kindB; simp [k2, z]
      repeat (first | refine pops.bin rfl rfl rfl rfl rfl rfl (cbin_inc (by omega)) ?_ | refine pops.fd rfl rfl rfl rfl rfl rfl ?_ | refine pops.skip rfl rfl rfl ?_ | refine pops.load rfl rfl rfl rfl rfl (by first | assumption | exact cload_of (by assumption) rfl) ?_ | refine pops.len rfl rfl rfl rfl rfl rfl rfl rfl (by first | exact SlA.len (by assumption) rfl | exact SlI.len (by assumption) rfl | exact SlS.len (by assumption) rfl | exact Sl.len (by assumption) rfl) ?_)
      refine pops.cmp rfl rfl rfl rfl rfl (fun k3 => ?_) (fun k3 => ?_)
      · have k3 := of_decide_eq_true k3
        omega
      clear k3
      repeat (first | refine pops.bin rfl rfl rfl rfl rfl rfl (cbin_inc (by omega)) ?_ | refine pops.fd rfl rfl rfl rfl rfl rfl ?_ | refine pops.skip rfl rfl rfl ?_ | refine pops.load rfl rfl rfl rfl rfl (by first | assumption | exact cload_of (by assumption) rfl) ?_ | refine pops.len rfl rfl rfl rfl rfl rfl rfl rfl (by first | exact SlA.len (by assumption) rfl | exact SlI.len (by assumption) rfl | exact SlS.len (by assumption) rfl | exact Sl.len (by assumption) rfl) ?_)
      refine pops.cmp rfl rfl rfl rfl rfl (fun k4 => ?_) (fun k4 => ?_)
      · have k4 := of_decide_eq_true k4
        omega
      clear k4
      repeat (first | refine pops.bin rfl rfl rfl rfl rfl rfl (cbin_inc (by omega)) ?_ | refine pops.fl rfl rfl rfl rfl rfl ?_ | refine pops.skip rfl rfl rfl ?_ | refine pops.load rfl rfl rfl rfl rfl (by first | assumption | exact cload_of (by assumption) rfl) ?_ | refine pops.len rfl rfl rfl rfl rfl rfl rfl rfl (by first | exact SlA.len (by assumption) rfl | exact SlI.len (by assumption) rfl | exact SlS.len (by assumption) rfl | exact Sl.len (by assumption) rfl) ?_)
      refine pops.nil ?_
      repeat (first | refine kthenP.n ?_ | refine kthenP.r ?_ | refine kthenP.e ?_ | refine kblockP.n ?_ | refine kblockP.r ?_ | refine kblockP.e ?_ | refine kblockP.o rfl ?_ | refine Runs.seq ?_ | refine Runs.region ?_ | refine Runs.block ?_ | refine Runs.cond ?_ | refine Runs.skip ?_ | refine Runs.loop ?_ | refine Runs.exit ?_ | refine Runs.ret ?_)
      refine pcond.f rfl ?_
      repeat (first | refine kthenP.n ?_ | refine kthenP.r ?_ | refine kthenP.e ?_ | refine kblockP.n ?_ | refine kblockP.r ?_ | refine kblockP.e ?_ | refine kblockP.o rfl ?_ | refine Runs.seq ?_ | refine Runs.region ?_ | refine Runs.block ?_ | refine Runs.cond ?_ | refine Runs.skip ?_ | refine Runs.loop ?_ | refine Runs.exit ?_ | refine Runs.ret ?_)
      repeat (first | refine pops.bin rfl rfl rfl rfl rfl rfl (cbin_inc (by omega)) ?_ | refine pops.fl rfl rfl rfl rfl rfl ?_ | refine pops.skip rfl rfl rfl ?_ | refine pops.load rfl rfl rfl rfl rfl (by first | assumption | exact cload_of (by assumption) rfl) ?_ | refine pops.len rfl rfl rfl rfl rfl rfl rfl rfl (by first | exact SlA.len (by assumption) rfl | exact SlI.len (by assumption) rfl | exact SlS.len (by assumption) rfl | exact Sl.len (by assumption) rfl) ?_)
      refine pops.nil ?_
      repeat (first | refine kthenP.n ?_ | refine kthenP.r ?_ | refine kthenP.e ?_ | refine kblockP.n ?_ | refine kblockP.r ?_ | refine kblockP.e ?_ | refine kblockP.o rfl ?_ | refine Runs.seq ?_ | refine Runs.region ?_ | refine Runs.block ?_ | refine Runs.cond ?_ | refine Runs.skip ?_ | refine Runs.loop ?_ | refine Runs.exit ?_ | refine Runs.ret ?_)
      refine Loops.ind 8 (fun i : Nat => [(1, .int .i64 n), (2, .int .i64 ((L + 1 : Nat) : Int)), (3, .pointer (some ⟨b, 0, none⟩)), (6, .bool false), (9, .int .i64 (i : Nat))]) (fun i h' => i ≤ p.subs.length ∧ Gr h1 h' ∧ ∀ (j : Nat) x, j < i → p.subs[j]? = some x → patOk n L x = true) (fun i => p.subs.length - i) 0 (by decide) ⟨rfl, rfl, rfl, rfl, rfl, trivial⟩ ⟨Nat.zero_le _, Gr.refl _, all_none⟩ ?_
      rintro i z h' hwf' ⟨hi, g2, hall⟩
      replace hs := PatsV.gr hwf1 g2 hs
      replace hcb := g2.at hwf1 hcb
      repeat (first | refine kthenP.n ?_ | refine kthenP.r ?_ | refine kthenP.e ?_ | refine kblockP.n ?_ | refine kblockP.r ?_ | refine kblockP.e ?_ | refine kblockP.o rfl ?_ | refine Runs.seq ?_ | refine Runs.region ?_ | refine Runs.block ?_ | refine Runs.cond ?_ | refine Runs.skip ?_ | refine Runs.loop ?_ | refine Runs.exit ?_ | refine Runs.ret ?_)
      repeat (first | refine pops.bin rfl rfl rfl rfl rfl rfl (cbin_inc (by omega)) ?_ | refine pops.fl rfl rfl rfl rfl rfl ?_ | refine pops.skip rfl rfl rfl ?_ | refine pops.load rfl rfl rfl rfl rfl (by first | assumption | exact cload_of (by assumption) rfl) ?_ | refine pops.len rfl rfl rfl rfl rfl rfl rfl rfl (by first | exact SlA.len (by assumption) rfl | exact SlI.len (by assumption) rfl | exact SlS.len (by assumption) rfl | exact Sl.len (by assumption) rfl) ?_)
      refine pops.nil ?_
      repeat (first | refine kthenP.n ?_ | refine kthenP.r ?_ | refine kthenP.e ?_ | refine kblockP.n ?_ | refine kblockP.r ?_ | refine kblockP.e ?_ | refine kblockP.o rfl ?_ | refine Runs.seq ?_ | refine Runs.region ?_ | refine Runs.block ?_ | refine Runs.cond ?_ | refine Runs.skip ?_ | refine Runs.loop ?_ | refine Runs.exit ?_ | refine Runs.ret ?_)
      refine pcond.d (p := (i : Int) < (p.subs.length : Nat)) rfl (fun hlt => ?_) (fun hge => ?_)
      · obtain ⟨q, hq⟩ : ∃ q, p.subs[i]? = some q := ⟨_, List.getElem?_eq_getElem (by omega)⟩
        repeat (first | refine kthenP.n ?_ | refine kthenP.r ?_ | refine kthenP.e ?_ | refine kblockP.n ?_ | refine kblockP.r ?_ | refine kblockP.e ?_ | refine kblockP.o rfl ?_ | refine Runs.seq ?_ | refine Runs.region ?_ | refine Runs.block ?_ | refine Runs.cond ?_ | refine Runs.skip ?_ | refine Runs.loop ?_ | refine Runs.exit ?_ | refine Runs.ret ?_)
        refine pops.fl rfl rfl rfl rfl rfl ?_
        refine pops.load rfl rfl rfl rfl rfl (by first | assumption | exact cload_of (by assumption) rfl) ?_
        refine pops.fl rfl rfl rfl rfl rfl ?_
        refine pops.atA rfl rfl rfl rfl rfl rfl rfl hs hq fun a u ha hu => ?_
        refine pops.load rfl rfl rfl rfl rfl (by first | assumption | exact cload_of (by assumption) rfl) ?_
        refine pops.fl rfl rfl rfl rfl rfl ?_
        refine pops.fl rfl rfl rfl rfl rfl ?_
        refine pops.bin rfl rfl rfl rfl rfl rfl (cbin_dec (by omega) (by omega)) ?_
        refine pops.callG rfl rfl rfl rfl rfl fn_right28 rfl rfl rfl (ih (by omega) hu) fun h5 hwf5 g5 => ?_
        cases hd : patOk n L q with
        | true =>
          repeat (first | refine pops.bin rfl rfl rfl rfl rfl rfl (cbin_inc (by omega)) ?_ | refine pops.fl rfl rfl rfl rfl rfl ?_ | refine pops.skip rfl rfl rfl ?_ | refine pops.load rfl rfl rfl rfl rfl (by first | assumption | exact cload_of (by assumption) rfl) ?_ | refine pops.len rfl rfl rfl rfl rfl rfl rfl rfl (by first | exact SlA.len (by assumption) rfl | exact SlI.len (by assumption) rfl | exact SlS.len (by assumption) rfl | exact Sl.len (by assumption) rfl) ?_)
          refine pops.nil ?_
          repeat (first | refine kthenP.n ?_ | refine kthenP.r ?_ | refine kthenP.e ?_ | refine kblockP.n ?_ | refine kblockP.r ?_ | refine kblockP.e ?_ | refine kblockP.o rfl ?_ | refine Runs.seq ?_ | refine Runs.region ?_ | refine Runs.block ?_ | refine Runs.cond ?_ | refine Runs.skip ?_ | refine Runs.loop ?_ | refine Runs.exit ?_ | refine Runs.ret ?_)
          refine pcond.f rfl ?_
          repeat (first | refine kthenP.n ?_ | refine kthenP.r ?_ | refine kthenP.e ?_ | refine kblockP.n ?_ | refine kblockP.r ?_ | refine kblockP.e ?_ | refine kblockP.o rfl ?_ | refine Runs.seq ?_ | refine Runs.region ?_ | refine Runs.block ?_ | refine Runs.cond ?_ | refine Runs.skip ?_ | refine Runs.loop ?_ | refine Runs.exit ?_ | refine Runs.ret ?_)
          repeat (first | refine pops.bin rfl rfl rfl rfl rfl rfl (cbin_inc (by omega)) ?_ | refine pops.fl rfl rfl rfl rfl rfl ?_ | refine pops.skip rfl rfl rfl ?_ | refine pops.load rfl rfl rfl rfl rfl (by first | assumption | exact cload_of (by assumption) rfl) ?_ | refine pops.len rfl rfl rfl rfl rfl rfl rfl rfl (by first | exact SlA.len (by assumption) rfl | exact SlI.len (by assumption) rfl | exact SlS.len (by assumption) rfl | exact Sl.len (by assumption) rfl) ?_)
          refine pops.nil ?_
          refine .n ⟨_, i + 1, rfl, ⟨rfl, rfl, rfl, rfl, rfl, trivial⟩, (by show p.subs.length - (i + 1) < p.subs.length - i; omega), by omega, g2.trans g5, all_next hall hq hd⟩
        | false =>
          repeat (first | refine pops.bin rfl rfl rfl rfl rfl rfl (cbin_inc (by omega)) ?_ | refine pops.fl rfl rfl rfl rfl rfl ?_ | refine pops.skip rfl rfl rfl ?_ | refine pops.load rfl rfl rfl rfl rfl (by first | assumption | exact cload_of (by assumption) rfl) ?_ | refine pops.len rfl rfl rfl rfl rfl rfl rfl rfl (by first | exact SlA.len (by assumption) rfl | exact SlI.len (by assumption) rfl | exact SlS.len (by assumption) rfl | exact Sl.len (by assumption) rfl) ?_)
          refine pops.nil ?_
          repeat (first | refine kthenP.n ?_ | refine kthenP.r ?_ | refine kthenP.e ?_ | refine kblockP.n ?_ | refine kblockP.r ?_ | refine kblockP.e ?_ | refine kblockP.o rfl ?_ | refine Runs.seq ?_ | refine Runs.region ?_ | refine Runs.block ?_ | refine Runs.cond ?_ | refine Runs.skip ?_ | refine Runs.loop ?_ | refine Runs.exit ?_ | refine Runs.ret ?_)
          refine pcond.t rfl ?_
          repeat (first | refine kthenP.n ?_ | refine kthenP.r ?_ | refine kthenP.e ?_ | refine kblockP.n ?_ | refine kblockP.r ?_ | refine kblockP.e ?_ | refine kblockP.o rfl ?_ | refine Runs.seq ?_ | refine Runs.region ?_ | refine Runs.block ?_ | refine Runs.cond ?_ | refine Runs.skip ?_ | refine Runs.loop ?_ | refine Runs.exit ?_ | refine Runs.ret ?_)
          repeat (first | refine pops.bin rfl rfl rfl rfl rfl rfl (cbin_inc (by omega)) ?_ | refine pops.fl rfl rfl rfl rfl rfl ?_ | refine pops.skip rfl rfl rfl ?_ | refine pops.load rfl rfl rfl rfl rfl (by first | assumption | exact cload_of (by assumption) rfl) ?_ | refine pops.len rfl rfl rfl rfl rfl rfl rfl rfl (by first | exact SlA.len (by assumption) rfl | exact SlI.len (by assumption) rfl | exact SlS.len (by assumption) rfl | exact Sl.len (by assumption) rfl) ?_)
          refine pops.nil ?_
          repeat (first | refine kthenP.n ?_ | refine kthenP.r ?_ | refine kthenP.e ?_ | refine kblockP.n ?_ | refine kblockP.r ?_ | refine kblockP.e ?_ | refine kblockP.o rfl ?_ | refine Runs.seq ?_ | refine Runs.region ?_ | refine Runs.block ?_ | refine Runs.cond ?_ | refine Runs.skip ?_ | refine Runs.loop ?_ | refine Runs.exit ?_ | refine Runs.ret ?_)
          refine pleave.r rfl ?_
          refine ⟨?_, (g1.trans g2).trans g5⟩
          have : p.subs.all (patOk n L) = false := by
            rw [List.all_eq_false]
            exact ⟨q, List.mem_of_getElem? hq, by rw [hd]; decide⟩
          rw [this, Bool.and_false]
      · repeat (first | refine kthenP.n ?_ | refine kthenP.r ?_ | refine kthenP.e ?_ | refine kblockP.n ?_ | refine kblockP.r ?_ | refine kblockP.e ?_ | refine kblockP.o rfl ?_ | refine Runs.seq ?_ | refine Runs.region ?_ | refine Runs.block ?_ | refine Runs.cond ?_ | refine Runs.skip ?_ | refine Runs.loop ?_ | refine Runs.exit ?_ | refine Runs.ret ?_)
        repeat (first | refine pops.bin rfl rfl rfl rfl rfl rfl (cbin_inc (by omega)) ?_ | refine pops.fl rfl rfl rfl rfl rfl ?_ | refine pops.skip rfl rfl rfl ?_ | refine pops.load rfl rfl rfl rfl rfl (by first | assumption | exact cload_of (by assumption) rfl) ?_ | refine pops.len rfl rfl rfl rfl rfl rfl rfl rfl (by first | exact SlA.len (by assumption) rfl | exact SlI.len (by assumption) rfl | exact SlS.len (by assumption) rfl | exact Sl.len (by assumption) rfl) ?_)
        refine pops.nil ?_
        repeat (first | refine kthenP.n ?_ | refine kthenP.r ?_ | refine kthenP.e ?_ | refine kblockP.n ?_ | refine kblockP.r ?_ | refine kblockP.e ?_ | refine kblockP.o rfl ?_ | refine Runs.seq ?_ | refine Runs.region ?_ | refine Runs.block ?_ | refine Runs.cond ?_ | refine Runs.skip ?_ | refine Runs.loop ?_ | refine Runs.exit ?_ | refine Runs.ret ?_)
        refine pleave.r rfl ?_
        refine ⟨?_, g1.trans g2⟩
        rw [hk, List.all_eq_true.2 (all_end hall (by omega))]
        rfl
    have k2 := of_decide_eq_false k2
    repeat (first | refine pops.bin rfl rfl rfl rfl rfl rfl (cbin_inc (by omega)) ?_ | refine pops.fd rfl rfl rfl rfl rfl rfl ?_ | refine pops.skip rfl rfl rfl ?_ | refine pops.load rfl rfl rfl rfl rfl (by first | assumption | exact cload_of (by assumption) rfl) ?_ | refine pops.len rfl rfl rfl rfl rfl rfl rfl rfl (by first | exact SlA.len (by assumption) rfl | exact SlI.len (by assumption) rfl | exact SlS.len (by assumption) rfl | exact Sl.len (by assumption) rfl) ?_)
    refine pops.cmp rfl rfl rfl rfl rfl (fun k3 => ?_) (fun k3 => ?_)
    · have k3 := of_decide_eq_true k3
      repeat (first | refine pops.bin rfl rfl rfl rfl rfl rfl (cbin_inc (by omega)) ?_ | refine pops.fd rfl rfl rfl rfl rfl rfl ?_ | refine pops.skip rfl rfl rfl ?_ | refine pops.load rfl rfl rfl rfl rfl (by first | assumption | exact cload_of (by assumption) rfl) ?_ | refine pops.len rfl rfl rfl rfl rfl rfl rfl rfl (by first | exact SlA.len (by assumption) rfl | exact SlI.len (by assumption) rfl | exact SlS.len (by assumption) rfl | exact Sl.len (by assumption) rfl) ?_)
      refine pops.cmp rfl rfl rfl rfl rfl (fun z => ?_) (fun z => ?_)
      · have z := of_decide_eq_true z
        have z : ¬ 2 ≤ p.subs.length := by omega
        have hk : kindB p = false := by unfold kindB; simp [k3]; omega
        repeat (first | refine pops.bin rfl rfl rfl rfl rfl rfl (cbin_inc (by omega)) ?_ | refine pops.fl rfl rfl rfl rfl rfl ?_ | refine pops.skip rfl rfl rfl ?_ | refine pops.load rfl rfl rfl rfl rfl (by first | assumption | exact cload_of (by assumption) rfl) ?_ | refine pops.len rfl rfl rfl rfl rfl rfl rfl rfl (by first | exact SlA.len (by assumption) rfl | exact SlI.len (by assumption) rfl | exact SlS.len (by assumption) rfl | exact Sl.len (by assumption) rfl) ?_)
        refine pops.nil ?_
        repeat (first | refine kthenP.n ?_ | refine kthenP.r ?_ | refine kthenP.e ?_ | refine kblockP.n ?_ | refine kblockP.r ?_ | refine kblockP.e ?_ | refine kblockP.o rfl ?_ | refine Runs.seq ?_ | refine Runs.region ?_ | refine Runs.block ?_ | refine Runs.cond ?_ | refine Runs.skip ?_ | refine Runs.loop ?_ | refine Runs.exit ?_ | refine Runs.ret ?_)
        refine pcond.t rfl ?_
        repeat (first | refine kthenP.n ?_ | refine kthenP.r ?_ | refine kthenP.e ?_ | refine kblockP.n ?_ | refine kblockP.r ?_ | refine kblockP.e ?_ | refine kblockP.o rfl ?_ | refine Runs.seq ?_ | refine Runs.region ?_ | refine Runs.block ?_ | refine Runs.cond ?_ | refine Runs.skip ?_ | refine Runs.loop ?_ | refine Runs.exit ?_ | refine Runs.ret ?_)
        repeat (first | refine pops.bin rfl rfl rfl rfl rfl rfl (cbin_inc (by omega)) ?_ | refine pops.fl rfl rfl rfl rfl rfl ?_ | refine pops.skip rfl rfl rfl ?_ | refine pops.load rfl rfl rfl rfl rfl (by first | assumption | exact cload_of (by assumption) rfl) ?_ | refine pops.len rfl rfl rfl rfl rfl rfl rfl rfl (by first | exact SlA.len (by assumption) rfl | exact SlI.len (by assumption) rfl | exact SlS.len (by assumption) rfl | exact Sl.len (by assumption) rfl) ?_)
        refine pops.nil ?_
        repeat (first | refine kthenP.n ?_ | refine kthenP.r ?_ | refine kthenP.e ?_ | refine kblockP.n ?_ | refine kblockP.r ?_ | refine kblockP.e ?_ | refine kblockP.o rfl ?_ | refine Runs.seq ?_ | refine Runs.region ?_ | refine Runs.block ?_ | refine Runs.cond ?_ | refine Runs.skip ?_ | refine Runs.loop ?_ | refine Runs.exit ?_ | refine Runs.ret ?_)
        refine pleave.r rfl ?_
        refine ⟨?_, g1⟩
        rw [hk]
        rfl
      have z := of_decide_eq_false z
      have z : 2 ≤ p.subs.length := by omega
      have hk : kindB p = true := by unfold kindB; simp [k3, z]
      repeat (first | refine pops.bin rfl rfl rfl rfl rfl rfl (cbin_inc (by omega)) ?_ | refine pops.fd rfl rfl rfl rfl rfl rfl ?_ | refine pops.skip rfl rfl rfl ?_ | refine pops.load rfl rfl rfl rfl rfl (by first | assumption | exact cload_of (by assumption) rfl) ?_ | refine pops.len rfl rfl rfl rfl rfl rfl rfl rfl (by first | exact SlA.len (by assumption) rfl | exact SlI.len (by assumption) rfl | exact SlS.len (by assumption) rfl | exact Sl.len (by assumption) rfl) ?_)
      refine pops.cmp rfl rfl rfl rfl rfl (fun k4 => ?_) (fun k4 => ?_)
      · have k4 := of_decide_eq_true k4
        omega
      clear k4
      repeat (first | refine pops.bin rfl rfl rfl rfl rfl rfl (cbin_inc (by omega)) ?_ | refine pops.fl rfl rfl rfl rfl rfl ?_ | refine pops.skip rfl rfl rfl ?_ | refine pops.load rfl rfl rfl rfl rfl (by first | assumption | exact cload_of (by assumption) rfl) ?_ | refine pops.len rfl rfl rfl rfl rfl rfl rfl rfl (by first | exact SlA.len (by assumption) rfl | exact SlI.len (by assumption) rfl | exact SlS.len (by assumption) rfl | exact Sl.len (by assumption) rfl) ?_)
      refine pops.nil ?_
      repeat (first | refine kthenP.n ?_ | refine kthenP.r ?_ | refine kthenP.e ?_ | refine kblockP.n ?_ | refine kblockP.r ?_ | refine kblockP.e ?_ | refine kblockP.o rfl ?_ | refine Runs.seq ?_ | refine Runs.region ?_ | refine Runs.block ?_ | refine Runs.cond ?_ | refine Runs.skip ?_ | refine Runs.loop ?_ | refine Runs.exit ?_ | refine Runs.ret ?_)
      refine pcond.f rfl ?_
      repeat (first | refine kthenP.n ?_ | refine kthenP.r ?_ | refine kthenP.e ?_ | refine kblockP.n ?_ | refine kblockP.r ?_ | refine kblockP.e ?_ | refine kblockP.o rfl ?_ | refine Runs.seq ?_ | refine Runs.region ?_ | refine Runs.block ?_ | refine Runs.cond ?_ | refine Runs.skip ?_ | refine Runs.loop ?_ | refine Runs.exit ?_ | refine Runs.ret ?_)
      repeat (first | refine pops.bin rfl rfl rfl rfl rfl rfl (cbin_inc (by omega)) ?_ | refine pops.fl rfl rfl rfl rfl rfl ?_ | refine pops.skip rfl rfl rfl ?_ | refine pops.load rfl rfl rfl rfl rfl (by first | assumption | exact cload_of (by assumption) rfl) ?_ | refine pops.len rfl rfl rfl rfl rfl rfl rfl rfl (by first | exact SlA.len (by assumption) rfl | exact SlI.len (by assumption) rfl | exact SlS.len (by assumption) rfl | exact Sl.len (by assumption) rfl) ?_)
      refine pops.nil ?_
      repeat (first | refine kthenP.n ?_ | refine kthenP.r ?_ | refine kthenP.e ?_ | refine kblockP.n ?_ | refine kblockP.r ?_ | refine kblockP.e ?_ | refine kblockP.o rfl ?_ | refine Runs.seq ?_ | refine Runs.region ?_ | refine Runs.block ?_ | refine Runs.cond ?_ | refine Runs.skip ?_ | refine Runs.loop ?_ | refine Runs.exit ?_ | refine Runs.ret ?_)
      refine Loops.ind 8 (fun i : Nat => [(1, .int .i64 n), (2, .int .i64 ((L + 1 : Nat) : Int)), (3, .pointer (some ⟨b, 0, none⟩)), (6, .bool false), (9, .int .i64 (i : Nat))]) (fun i h' => i ≤ p.subs.length ∧ Gr h1 h' ∧ ∀ (j : Nat) x, j < i → p.subs[j]? = some x → patOk n L x = true) (fun i => p.subs.length - i) 0 (by decide) ⟨rfl, rfl, rfl, rfl, rfl, trivial⟩ ⟨Nat.zero_le _, Gr.refl _, all_none⟩ ?_
      rintro i z h' hwf' ⟨hi, g2, hall⟩
      replace hs := PatsV.gr hwf1 g2 hs
      replace hcb := g2.at hwf1 hcb
      repeat (first | refine kthenP.n ?_ | refine kthenP.r ?_ | refine kthenP.e ?_ | refine kblockP.n ?_ | refine kblockP.r ?_ | refine kblockP.e ?_ | refine kblockP.o rfl ?_ | refine Runs.seq ?_ | refine Runs.region ?_ | refine Runs.block ?_ | refine Runs.cond ?_ | refine Runs.skip ?_ | refine Runs.loop ?_ | refine Runs.exit ?_ | refine Runs.ret ?_)
      repeat (first | refine pops.bin rfl rfl rfl rfl rfl rfl (cbin_inc (by omega)) ?_ | refine pops.fl rfl rfl rfl rfl rfl ?_ | refine pops.skip rfl rfl rfl ?_ | refine pops.load rfl rfl rfl rfl rfl (by first | assumption | exact cload_of (by assumption) rfl) ?_ | refine pops.len rfl rfl rfl rfl rfl rfl rfl rfl (by first | exact SlA.len (by assumption) rfl | exact SlI.len (by assumption) rfl | exact SlS.len (by assumption) rfl | exact Sl.len (by assumption) rfl) ?_)
      refine pops.nil ?_
      repeat (first | refine kthenP.n ?_ | refine kthenP.r ?_ | refine kthenP.e ?_ | refine kblockP.n ?_ | refine kblockP.r ?_ | refine kblockP.e ?_ | refine kblockP.o rfl ?_ | refine Runs.seq ?_ | refine Runs.region ?_ | refine Runs.block ?_ | refine Runs.cond ?_ | refine Runs.skip ?_ | refine Runs.loop ?_ | refine Runs.exit ?_ | refine Runs.ret ?_)
      refine pcond.d (p := (i : Int) < (p.subs.length : Nat)) rfl (fun hlt => ?_) (fun hge => ?_)
      · obtain ⟨q, hq⟩ : ∃ q, p.subs[i]? = some q := ⟨_, List.getElem?_eq_getElem (by omega)⟩
        repeat (first | refine kthenP.n ?_ | refine kthenP.r ?_ | refine kthenP.e ?_ | refine kblockP.n ?_ | refine kblockP.r ?_ | refine kblockP.e ?_ | refine kblockP.o rfl ?_ | refine Runs.seq ?_ | refine Runs.region ?_ | refine Runs.block ?_ | refine Runs.cond ?_ | refine Runs.skip ?_ | refine Runs.loop ?_ | refine Runs.exit ?_ | refine Runs.ret ?_)
        refine pops.fl rfl rfl rfl rfl rfl ?_
        refine pops.load rfl rfl rfl rfl rfl (by first | assumption | exact cload_of (by assumption) rfl) ?_
        refine pops.fl rfl rfl rfl rfl rfl ?_
        refine pops.atA rfl rfl rfl rfl rfl rfl rfl hs hq fun a u ha hu => ?_
        refine pops.load rfl rfl rfl rfl rfl (by first | assumption | exact cload_of (by assumption) rfl) ?_
        refine pops.fl rfl rfl rfl rfl rfl ?_
        refine pops.fl rfl rfl rfl rfl rfl ?_
        refine pops.bin rfl rfl rfl rfl rfl rfl (cbin_dec (by omega) (by omega)) ?_
        refine pops.callG rfl rfl rfl rfl rfl fn_right28 rfl rfl rfl (ih (by omega) hu) fun h5 hwf5 g5 => ?_
        cases hd : patOk n L q with
        | true =>
          repeat (first | refine pops.bin rfl rfl rfl rfl rfl rfl (cbin_inc (by omega)) ?_ | refine pops.fl rfl rfl rfl rfl rfl ?_ | refine pops.skip rfl rfl rfl ?_ | refine pops.load rfl rfl rfl rfl rfl (by first | assumption | exact cload_of (by assumption) rfl) ?_ | refine pops.len rfl rfl rfl rfl rfl rfl rfl rfl (by first | exact SlA.len (by assumption) rfl | exact SlI.len (by assumption) rfl | exact SlS.len (by assumption) rfl | exact Sl.len (by assumption) rfl) ?_)
          refine pops.nil ?_
          repeat (first | refine kthenP.n ?_ | refine kthenP.r ?_ | refine kthenP.e ?_ | refine kblockP.n ?_ | refine kblockP.r ?_ | refine kblockP.e ?_ | refine kblockP.o rfl ?_ | refine Runs.seq ?_ | refine Runs.region ?_ | refine Runs.block ?_ | refine Runs.cond ?_ | refine Runs.skip ?_ | refine Runs.loop ?_ | refine Runs.exit ?_ | refine Runs.ret ?_)
          refine pcond.f rfl ?_
          repeat (first | refine kthenP.n ?_ | refine kthenP.r ?_ | refine kthenP.e ?_ | refine kblockP.n ?_ | refine kblockP.r ?_ | refine kblockP.e ?_ | refine kblockP.o rfl ?_ | refine Runs.seq ?_ | refine Runs.region ?_ | refine Runs.block ?_ | refine Runs.cond ?_ | refine Runs.skip ?_ | refine Runs.loop ?_ | refine Runs.exit ?_ | refine Runs.ret ?_)
          repeat (first | refine pops.bin rfl rfl rfl rfl rfl rfl (cbin_inc (by omega)) ?_ | refine pops.fl rfl rfl rfl rfl rfl ?_ | refine pops.skip rfl rfl rfl ?_ | refine pops.load rfl rfl rfl rfl rfl (by first | assumption | exact cload_of (by assumption) rfl) ?_ | refine pops.len rfl rfl rfl rfl rfl rfl rfl rfl (by first | exact SlA.len (by assumption) rfl | exact SlI.len (by assumption) rfl | exact SlS.len (by assumption) rfl | exact Sl.len (by assumption) rfl) ?_)
          refine pops.nil ?_
          refine .n ⟨_, i + 1, rfl, ⟨rfl, rfl, rfl, rfl, rfl, trivial⟩, (by show p.subs.length - (i + 1) < p.subs.length - i; omega), by omega, g2.trans g5, all_next hall hq hd⟩
        | false =>
          repeat (first | refine pops.bin rfl rfl rfl rfl rfl rfl (cbin_inc (by omega)) ?_ | refine pops.fl rfl rfl rfl rfl rfl ?_ | refine pops.skip rfl rfl rfl ?_ | refine pops.load rfl rfl rfl rfl rfl (by first | assumption | exact cload_of (by assumption) rfl) ?_ | refine pops.len rfl rfl rfl rfl rfl rfl rfl rfl (by first | exact SlA.len (by assumption) rfl | exact SlI.len (by assumption) rfl | exact SlS.len (by assumption) rfl | exact Sl.len (by assumption) rfl) ?_)
          refine pops.nil ?_
          repeat (first | refine kthenP.n ?_ | refine kthenP.r ?_ | refine kthenP.e ?_ | refine kblockP.n ?_ | refine kblockP.r ?_ | refine kblockP.e ?_ | refine kblockP.o rfl ?_ | refine Runs.seq ?_ | refine Runs.region ?_ | refine Runs.block ?_ | refine Runs.cond ?_ | refine Runs.skip ?_ | refine Runs.loop ?_ | refine Runs.exit ?_ | refine Runs.ret ?_)
          refine pcond.t rfl ?_
          repeat (first | refine kthenP.n ?_ | refine kthenP.r ?_ | refine kthenP.e ?_ | refine kblockP.n ?_ | refine kblockP.r ?_ | refine kblockP.e ?_ | refine kblockP.o rfl ?_ | refine Runs.seq ?_ | refine Runs.region ?_ | refine Runs.block ?_ | refine Runs.cond ?_ | refine Runs.skip ?_ | refine Runs.loop ?_ | refine Runs.exit ?_ | refine Runs.ret ?_)
          repeat (first | refine pops.bin rfl rfl rfl rfl rfl rfl (cbin_inc (by omega)) ?_ | refine pops.fl rfl rfl rfl rfl rfl ?_ | refine pops.skip rfl rfl rfl ?_ | refine pops.load rfl rfl rfl rfl rfl (by first | assumption | exact cload_of (by assumption) rfl) ?_ | refine pops.len rfl rfl rfl rfl rfl rfl rfl rfl (by first | exact SlA.len (by assumption) rfl | exact SlI.len (by assumption) rfl | exact SlS.len (by assumption) rfl | exact Sl.len (by assumption) rfl) ?_)
          refine pops.nil ?_
          repeat (first | refine kthenP.n ?_ | refine kthenP.r ?_ | refine kthenP.e ?_ | refine kblockP.n ?_ | refine kblockP.r ?_ | refine kblockP.e ?_ | refine kblockP.o rfl ?_ | refine Runs.seq ?_ | refine Runs.region ?_ | refine Runs.block ?_ | refine Runs.cond ?_ | refine Runs.skip ?_ | refine Runs.loop ?_ | refine Runs.exit ?_ | refine Runs.ret ?_)
          refine pleave.r rfl ?_
          refine ⟨?_, (g1.trans g2).trans g5⟩
          have : p.subs.all (patOk n L) = false := by
            rw [List.all_eq_false]
            exact ⟨q, List.mem_of_getElem? hq, by rw [hd]; decide⟩
          rw [this, Bool.and_false]
      · repeat (first | refine kthenP.n ?_ | refine kthenP.r ?_ | refine kthenP.e ?_ | refine kblockP.n ?_ | refine kblockP.r ?_ | refine kblockP.e ?_ | refine kblockP.o rfl ?_ | refine Runs.seq ?_ | refine Runs.region ?_ | refine Runs.block ?_ | refine Runs.cond ?_ | refine Runs.skip ?_ | refine Runs.loop ?_ | refine Runs.exit ?_ | refine Runs.ret ?_)
        repeat (first | refine pops.bin rfl rfl rfl rfl rfl rfl (cbin_inc (by omega)) ?_ | refine pops.fl rfl rfl rfl rfl rfl ?_ | refine pops.skip rfl rfl rfl ?_ | refine pops.load rfl rfl rfl rfl rfl (by first | assumption | exact cload_of (by assumption) rfl) ?_ | refine pops.len rfl rfl rfl rfl rfl rfl rfl rfl (by first | exact SlA.len (by assumption) rfl | exact SlI.len (by assumption) rfl | exact SlS.len (by assumption) rfl | exact Sl.len (by assumption) rfl) ?_)
        refine pops.nil ?_
        repeat (first | refine kthenP.n ?_ | refine kthenP.r ?_ | refine kthenP.e ?_ | refine kblockP.n ?_ | refine kblockP.r ?_ | refine kblockP.e ?_ | refine kblockP.o rfl ?_ | refine Runs.seq ?_ | refine Runs.region ?_ | refine Runs.block ?_ | refine Runs.cond ?_ | refine Runs.skip ?_ | refine Runs.loop ?_ | refine Runs.exit ?_ | refine Runs.ret ?_)
        refine pleave.r rfl ?_
        refine ⟨?_, g1.trans g2⟩
        rw [hk, List.all_eq_true.2 (all_end hall (by omega))]
        rfl
    have k3 := of_decide_eq_false k3
    have k4 : p.kind = 4 := by omega
    repeat (first | refine pops.bin rfl rfl rfl rfl rfl rfl (cbin_inc (by omega)) ?_ | refine pops.fd rfl rfl rfl rfl rfl rfl ?_ | refine pops.skip rfl rfl rfl ?_ | refine pops.load rfl rfl rfl rfl rfl (by first | assumption | exact cload_of (by assumption) rfl) ?_ | refine pops.len rfl rfl rfl rfl rfl rfl rfl rfl (by first | exact SlA.len (by assumption) rfl | exact SlI.len (by assumption) rfl | exact SlS.len (by assumption) rfl | exact Sl.len (by assumption) rfl) ?_)
    refine pops.cmp rfl rfl rfl rfl rfl (fun k => ?_) (fun k => ?_)
    rotate_left
    · have k := of_decide_eq_false k
      omega
    repeat (first | refine pops.bin rfl rfl rfl rfl rfl rfl (cbin_inc (by omega)) ?_ | refine pops.fd rfl rfl rfl rfl rfl rfl ?_ | refine pops.skip rfl rfl rfl ?_ | refine pops.load rfl rfl rfl rfl rfl (by first | assumption | exact cload_of (by assumption) rfl) ?_ | refine pops.len rfl rfl rfl rfl rfl rfl rfl rfl (by first | exact SlA.len (by assumption) rfl | exact SlI.len (by assumption) rfl | exact SlS.len (by assumption) rfl | exact Sl.len (by assumption) rfl) ?_)
    refine pops.cmp rfl rfl rfl rfl rfl (fun z => ?_) (fun z => ?_)
    · have z : ¬ p.subs.length = 1 := by simp at z; omega
      have hk : kindB p = false := by unfold kindB; simp [k4, z]
      repeat (first | refine pops.bin rfl rfl rfl rfl rfl rfl (cbin_inc (by omega)) ?_ | refine pops.fl rfl rfl rfl rfl rfl ?_ | refine pops.skip rfl rfl rfl ?_ | refine pops.load rfl rfl rfl rfl rfl (by first | assumption | exact cload_of (by assumption) rfl) ?_ | refine pops.len rfl rfl rfl rfl rfl rfl rfl rfl (by first | exact SlA.len (by assumption) rfl | exact SlI.len (by assumption) rfl | exact SlS.len (by assumption) rfl | exact Sl.len (by assumption) rfl) ?_)
      refine pops.nil ?_
      repeat (first | refine kthenP.n ?_ | refine kthenP.r ?_ | refine kthenP.e ?_ | refine kblockP.n ?_ | refine kblockP.r ?_ | refine kblockP.e ?_ | refine kblockP.o rfl ?_ | refine Runs.seq ?_ | refine Runs.region ?_ | refine Runs.block ?_ | refine Runs.cond ?_ | refine Runs.skip ?_ | refine Runs.loop ?_ | refine Runs.exit ?_ | refine Runs.ret ?_)
      refine pcond.t rfl ?_
      repeat (first | refine kthenP.n ?_ | refine kthenP.r ?_ | refine kthenP.e ?_ | refine kblockP.n ?_ | refine kblockP.r ?_ | refine kblockP.e ?_ | refine kblockP.o rfl ?_ | refine Runs.seq ?_ | refine Runs.region ?_ | refine Runs.block ?_ | refine Runs.cond ?_ | refine Runs.skip ?_ | refine Runs.loop ?_ | refine Runs.exit ?_ | refine Runs.ret ?_)
      repeat (first | refine pops.bin rfl rfl rfl rfl rfl rfl (cbin_inc (by omega)) ?_ | refine pops.fl rfl rfl rfl rfl rfl ?_ | refine pops.skip rfl rfl rfl ?_ | refine pops.load rfl rfl rfl rfl rfl (by first | assumption | exact cload_of (by assumption) rfl) ?_ | refine pops.len rfl rfl rfl rfl rfl rfl rfl rfl (by first | exact SlA.len (by assumption) rfl | exact SlI.len (by assumption) rfl | exact SlS.len (by assumption) rfl | exact Sl.len (by assumption) rfl) ?_)
      refine pops.nil ?_
      repeat (first | refine kthenP.n ?_ | refine kthenP.r ?_ | refine kthenP.e ?_ | refine kblockP.n ?_ | refine kblockP.r ?_ | refine kblockP.e ?_ | refine kblockP.o rfl ?_ | refine Runs.seq ?_ | refine Runs.region ?_ | refine Runs.block ?_ | refine Runs.cond ?_ | refine Runs.skip ?_ | refine Runs.loop ?_ | refine Runs.exit ?_ | refine Runs.ret ?_)
      refine pleave.r rfl ?_
      refine ⟨?_, g1⟩
      rw [hk]
      rfl
    have z : p.subs.length = 1 := by simp at z; omega
    have hk : kindB p = true := by unfold kindB; simp [k4, z]
    repeat (first | refine pops.bin rfl rfl rfl rfl rfl rfl (cbin_inc (by omega)) ?_ | refine pops.fl rfl rfl rfl rfl rfl ?_ | refine pops.skip rfl rfl rfl ?_ | refine pops.load rfl rfl rfl rfl rfl (by first | assumption | exact cload_of (by assumption) rfl) ?_ | refine pops.len rfl rfl rfl rfl rfl rfl rfl rfl (by first | exact SlA.len (by assumption) rfl | exact SlI.len (by assumption) rfl | exact SlS.len (by assumption) rfl | exact Sl.len (by assumption) rfl) ?_)
    refine pops.nil ?_
    repeat (first | refine kthenP.n ?_ | refine kthenP.r ?_ | refine kthenP.e ?_ | refine kblockP.n ?_ | refine kblockP.r ?_ | refine kblockP.e ?_ | refine kblockP.o rfl ?_ | refine Runs.seq ?_ | refine Runs.region ?_ | refine Runs.block ?_ | refine Runs.cond ?_ | refine Runs.skip ?_ | refine Runs.loop ?_ | refine Runs.exit ?_ | refine Runs.ret ?_)
    refine pcond.f rfl ?_
    repeat (first | refine kthenP.n ?_ | refine kthenP.r ?_ | refine kthenP.e ?_ | refine kblockP.n ?_ | refine kblockP.r ?_ | refine kblockP.e ?_ | refine kblockP.o rfl ?_ | refine Runs.seq ?_ | refine Runs.region ?_ | refine Runs.block ?_ | refine Runs.cond ?_ | refine Runs.skip ?_ | refine Runs.loop ?_ | refine Runs.exit ?_ | refine Runs.ret ?_)
    repeat (first | refine pops.bin rfl rfl rfl rfl rfl rfl (cbin_inc (by omega)) ?_ | refine pops.fl rfl rfl rfl rfl rfl ?_ | refine pops.skip rfl rfl rfl ?_ | refine pops.load rfl rfl rfl rfl rfl (by first | assumption | exact cload_of (by assumption) rfl) ?_ | refine pops.len rfl rfl rfl rfl rfl rfl rfl rfl (by first | exact SlA.len (by assumption) rfl | exact SlI.len (by assumption) rfl | exact SlS.len (by assumption) rfl | exact Sl.len (by assumption) rfl) ?_)
    refine pops.nil ?_
    repeat (first | refine kthenP.n ?_ | refine kthenP.r ?_ | refine kthenP.e ?_ | refine kblockP.n ?_ | refine kblockP.r ?_ | refine kblockP.e ?_ | refine kblockP.o rfl ?_ | refine Runs.seq ?_ | refine Runs.region ?_ | refine Runs.block ?_ | refine Runs.cond ?_ | refine Runs.skip ?_ | refine Runs.loop ?_ | refine Runs.exit ?_ | refine Runs.ret ?_)
    refine Loops.ind 8 (fun i : Nat => [(1, .int .i64 n), (2, .int .i64 ((L + 1 : Nat) : Int)), (3, .pointer (some ⟨b, 0, none⟩)), (6, .bool false), (9, .int .i64 (i : Nat))]) (fun i h' => i ≤ p.subs.length ∧ Gr h1 h' ∧ ∀ (j : Nat) x, j < i → p.subs[j]? = some x → patOk n L x = true) (fun i => p.subs.length - i) 0 (by decide) ⟨rfl, rfl, rfl, rfl, rfl, trivial⟩ ⟨Nat.zero_le _, Gr.refl _, all_none⟩ ?_
    rintro i z h' hwf' ⟨hi, g2, hall⟩
    replace hs := PatsV.gr hwf1 g2 hs
    replace hcb := g2.at hwf1 hcb
    repeat (first | refine kthenP.n ?_ | refine kthenP.r ?_ | refine kthenP.e ?_ | refine kblockP.n ?_ | refine kblockP.r ?_ | refine kblockP.e ?_ | refine kblockP.o rfl ?_ | refine Runs.seq ?_ | refine Runs.region ?_ | refine Runs.block ?_ | refine Runs.cond ?_ | refine Runs.skip ?_ | refine Runs.loop ?_ | refine Runs.exit ?_ | refine Runs.ret ?_)
    repeat (first | refine pops.bin rfl rfl rfl rfl rfl rfl (cbin_inc (by omega)) ?_ | refine pops.fl rfl rfl rfl rfl rfl ?_ | refine pops.skip rfl rfl rfl ?_ | refine pops.load rfl rfl rfl rfl rfl (by first | assumption | exact cload_of (by assumption) rfl) ?_ | refine pops.len rfl rfl rfl rfl rfl rfl rfl rfl (by first | exact SlA.len (by assumption) rfl | exact SlI.len (by assumption) rfl | exact SlS.len (by assumption) rfl | exact Sl.len (by assumption) rfl) ?_)
    refine pops.nil ?_
    repeat (first | refine kthenP.n ?_ | refine kthenP.r ?_ | refine kthenP.e ?_ | refine kblockP.n ?_ | refine kblockP.r ?_ | refine kblockP.e ?_ | refine kblockP.o rfl ?_ | refine Runs.seq ?_ | refine Runs.region ?_ | refine Runs.block ?_ | refine Runs.cond ?_ | refine Runs.skip ?_ | refine Runs.loop ?_ | refine Runs.exit ?_ | refine Runs.ret ?_)
    refine pcond.d (p := (i : Int) < (p.subs.length : Nat)) rfl (fun hlt => ?_) (fun hge => ?_)
    · obtain ⟨q, hq⟩ : ∃ q, p.subs[i]? = some q := ⟨_, List.getElem?_eq_getElem (by omega)⟩
      repeat (first | refine kthenP.n ?_ | refine kthenP.r ?_ | refine kthenP.e ?_ | refine kblockP.n ?_ | refine kblockP.r ?_ | refine kblockP.e ?_ | refine kblockP.o rfl ?_ | refine Runs.seq ?_ | refine Runs.region ?_ | refine Runs.block ?_ | refine Runs.cond ?_ | refine Runs.skip ?_ | refine Runs.loop ?_ | refine Runs.exit ?_ | refine Runs.ret ?_)
      refine pops.fl rfl rfl rfl rfl rfl ?_
      refine pops.load rfl rfl rfl rfl rfl (by first | assumption | exact cload_of (by assumption) rfl) ?_
      refine pops.fl rfl rfl rfl rfl rfl ?_
      refine pops.atA rfl rfl rfl rfl rfl rfl rfl hs hq fun a u ha hu => ?_
      refine pops.load rfl rfl rfl rfl rfl (by first | assumption | exact cload_of (by assumption) rfl) ?_
      refine pops.fl rfl rfl rfl rfl rfl ?_
      refine pops.fl rfl rfl rfl rfl rfl ?_
      refine pops.bin rfl rfl rfl rfl rfl rfl (cbin_dec (by omega) (by omega)) ?_
      refine pops.callG rfl rfl rfl rfl rfl fn_right28 rfl rfl rfl (ih (by omega) hu) fun h5 hwf5 g5 => ?_
      cases hd : patOk n L q with
      | true =>
        repeat (first | refine pops.bin rfl rfl rfl rfl rfl rfl (cbin_inc (by omega)) ?_ | refine pops.fl rfl rfl rfl rfl rfl ?_ | refine pops.skip rfl rfl rfl ?_ | refine pops.load rfl rfl rfl rfl rfl (by first | assumption | exact cload_of (by assumption) rfl) ?_ | refine pops.len rfl rfl rfl rfl rfl rfl rfl rfl (by first | exact SlA.len (by assumption) rfl | exact SlI.len (by assumption) rfl | exact SlS.len (by assumption) rfl | exact Sl.len (by assumption) rfl) ?_)
        refine pops.nil ?_
        repeat (first | refine kthenP.n ?_ | refine kthenP.r ?_ | refine kthenP.e ?_ | refine kblockP.n ?_ | refine kblockP.r ?_ | refine kblockP.e ?_ | refine kblockP.o rfl ?_ | refine Runs.seq ?_ | refine Runs.region ?_ | refine Runs.block ?_ | refine Runs.cond ?_ | refine Runs.skip ?_ | refine Runs.loop ?_ | refine Runs.exit ?_ | refine Runs.ret ?_)
        refine pcond.f rfl ?_
        repeat (first | refine kthenP.n ?_ | refine kthenP.r ?_ | refine kthenP.e ?_ | refine kblockP.n ?_ | refine kblockP.r ?_ | refine kblockP.e ?_ | refine kblockP.o rfl ?_ | refine Runs.seq ?_ | refine Runs.region ?_ | refine Runs.block ?_ | refine Runs.cond ?_ | refine Runs.skip ?_ | refine Runs.loop ?_ | refine Runs.exit ?_ | refine Runs.ret ?_)
        repeat (first | refine pops.bin rfl rfl rfl rfl rfl rfl (cbin_inc (by omega)) ?_ | refine pops.fl rfl rfl rfl rfl rfl ?_ | refine pops.skip rfl rfl rfl ?_ | refine pops.load rfl rfl rfl rfl rfl (by first | assumption | exact cload_of (by assumption) rfl) ?_ | refine pops.len rfl rfl rfl rfl rfl rfl rfl rfl (by first | exact SlA.len (by assumption) rfl | exact SlI.len (by assumption) rfl | exact SlS.len (by assumption) rfl | exact Sl.len (by assumption) rfl) ?_)
        refine pops.nil ?_
        refine .n ⟨_, i + 1, rfl, ⟨rfl, rfl, rfl, rfl, rfl, trivial⟩, (by show p.subs.length - (i + 1) < p.subs.length - i; omega), by omega, g2.trans g5, all_next hall hq hd⟩
      | false =>
        repeat (first | refine pops.bin rfl rfl rfl rfl rfl rfl (cbin_inc (by omega)) ?_ | refine pops.fl rfl rfl rfl rfl rfl ?_ | refine pops.skip rfl rfl rfl ?_ | refine pops.load rfl rfl rfl rfl rfl (by first | assumption | exact cload_of (by assumption) rfl) ?_ | refine pops.len rfl rfl rfl rfl rfl rfl rfl rfl (by first | exact SlA.len (by assumption) rfl | exact SlI.len (by assumption) rfl | exact SlS.len (by assumption) rfl | exact Sl.len (by assumption) rfl) ?_)
        refine pops.nil ?_
        repeat (first | refine kthenP.n ?_ | refine kthenP.r ?_ | refine kthenP.e ?_ | refine kblockP.n ?_ | refine kblockP.r ?_ | refine kblockP.e ?_ | refine kblockP.o rfl ?_ | refine Runs.seq ?_ | refine Runs.region ?_ | refine Runs.block ?_ | refine Runs.cond ?_ | refine Runs.skip ?_ | refine Runs.loop ?_ | refine Runs.exit ?_ | refine Runs.ret ?_)
        refine pcond.t rfl ?_
        repeat (first | refine kthenP.n ?_ | refine kthenP.r ?_ | refine kthenP.e ?_ | refine kblockP.n ?_ | refine kblockP.r ?_ | refine kblockP.e ?_ | refine kblockP.o rfl ?_ | refine Runs.seq ?_ | refine Runs.region ?_ | refine Runs.block ?_ | refine Runs.cond ?_ | refine Runs.skip ?_ | refine Runs.loop ?_ | refine Runs.exit ?_ | refine Runs.ret ?_)
        repeat (first | refine pops.bin rfl rfl rfl rfl rfl rfl (cbin_inc (by omega)) ?_ | refine pops.fl rfl rfl rfl rfl rfl ?_ | refine pops.skip rfl rfl rfl ?_ | refine pops.load rfl rfl rfl rfl rfl (by first | assumption | exact cload_of (by assumption) rfl) ?_ | refine pops.len rfl rfl rfl rfl rfl rfl rfl rfl (by first | exact SlA.len (by assumption) rfl | exact SlI.len (by assumption) rfl | exact SlS.len (by assumption) rfl | exact Sl.len (by assumption) rfl) ?_)
        refine pops.nil ?_
        repeat (first | refine kthenP.n ?_ | refine kthenP.r ?_ | refine kthenP.e ?_ | refine kblockP.n ?_ | refine kblockP.r ?_ | refine kblockP.e ?_ | refine kblockP.o rfl ?_ | refine Runs.seq ?_ | refine Runs.region ?_ | refine Runs.block ?_ | refine Runs.cond ?_ | refine Runs.skip ?_ | refine Runs.loop ?_ | refine Runs.exit ?_ | refine Runs.ret ?_)
        refine pleave.r rfl ?_
        refine ⟨?_, (g1.trans g2).trans g5⟩
        have : p.subs.all (patOk n L) = false := by
          rw [List.all_eq_false]
          exact ⟨q, List.mem_of_getElem? hq, by rw [hd]; decide⟩
        rw [this, Bool.and_false]
    · repeat (first | refine kthenP.n ?_ | refine kthenP.r ?_ | refine kthenP.e ?_ | refine kblockP.n ?_ | refine kblockP.r ?_ | refine kblockP.e ?_ | refine kblockP.o rfl ?_ | refine Runs.seq ?_ | refine Runs.region ?_ | refine Runs.block ?_ | refine Runs.cond ?_ | refine Runs.skip ?_ | refine Runs.loop ?_ | refine Runs.exit ?_ | refine Runs.ret ?_)
      repeat (first | refine pops.bin rfl rfl rfl rfl rfl rfl (cbin_inc (by omega)) ?_ | refine pops.fl rfl rfl rfl rfl rfl ?_ | refine pops.skip rfl rfl rfl ?_ | refine pops.load rfl rfl rfl rfl rfl (by first | assumption | exact cload_of (by assumption) rfl) ?_ | refine pops.len rfl rfl rfl rfl rfl rfl rfl rfl (by first | exact SlA.len (by assumption) rfl | exact SlI.len (by assumption) rfl | exact SlS.len (by assumption) rfl | exact Sl.len (by assumption) rfl) ?_)
      refine pops.nil ?_
      repeat (first | refine kthenP.n ?_ | refine kthenP.r ?_ | refine kthenP.e ?_ | refine kblockP.n ?_ | refine kblockP.r ?_ | refine kblockP.e ?_ | refine kblockP.o rfl ?_ | refine Runs.seq ?_ | refine Runs.region ?_ | refine Runs.block ?_ | refine Runs.cond ?_ | refine Runs.skip ?_ | refine Runs.loop ?_ | refine Runs.exit ?_ | refine Runs.ret ?_)
      refine pleave.r rfl ?_
      refine ⟨?_, g1.trans g2⟩
      rw [hk, List.all_eq_true.2 (all_end hall (by omega))]
      rfl
end Go.Proofs.YtnchhgjoiboibaaGreatDoor

set_option maxRecDepth 100000
set_option linter.unusedVariables false
set_option linter.unusedSimpArgs false
namespace Go.Proofs.YtnchhgjoiboibaaGreatDoor
open Go.Cx
variable {w : World} {h : CH}
theorem fn_Wide28 : tab.fn 4 = some Tryz.f4 := by kernel_rfl
theorem und_rule : ∃ fs, tab.und 36 = some (.struct fs) := ⟨_, rfl⟩
theorem und_pat : ∃ fs, tab.und 34 = some (.struct fs) := ⟨_, rfl⟩
theorem Wide28_calls {v : Value} {r : RulesD} (hv : BreakV tab 9 kp 36 h v r) : CalF (X w) 4 [v] h fun x h' => x = .ret (.bool (wideB r)) ∧ Gr h h' := by
  refine CalF.wf fun hwf => ?_
  obtain ⟨c, s, rfl, oc, os, hc, hs⟩ := hv
  obtain ⟨rfs, hru⟩ := und_rule
  obtain ⟨pfs, hpu⟩ := und_pat
  have lc := hc.lt
  have ls := hs.lt
  refine CalF.intro fn_Wide28 rfl (Nat.le_of_ble_eq_true rfl) ?_
  repeat (first | refine kthenP.n ?_ | refine kthenP.r ?_ | refine kthenP.e ?_ | refine kblockP.n ?_ | refine kblockP.r ?_ | refine kblockP.e ?_ | refine kblockP.o rfl ?_ | refine Runs.seq ?_ | refine Runs.region ?_ | refine Runs.block ?_ | refine Runs.cond ?_ | refine Runs.skip ?_ | refine Runs.loop ?_ | refine Runs.exit ?_ | refine Runs.ret ?_)
  refine pops.box (cs := [c, s]) rfl rfl rfl rfl (by simp only [List.all_cons, List.all_nil, oc, os, Bool.and_true]) rfl rfl hwf fun b h1 hb hwf1 g1 hcb => ?_
  replace hc := Sl.gr hc hwf g1
  replace hs := RulesV.gr hwf g1 hs
  repeat (first | refine pops.bin rfl rfl rfl rfl rfl rfl (cbin_inc (by omega)) ?_ | refine pops.fl rfl rfl rfl rfl rfl ?_ | refine pops.skip rfl rfl rfl ?_ | refine pops.load rfl rfl rfl rfl rfl (by first | assumption | exact cload_of (by assumption) rfl) ?_ | refine pops.len rfl rfl rfl rfl rfl rfl rfl rfl (by first | exact SlA.len (by assumption) rfl | exact SlI.len (by assumption) rfl | exact SlS.len (by assumption) rfl | exact Sl.len (by assumption) rfl) ?_)
  refine pops.nil ?_
  repeat (first | refine kthenP.n ?_ | refine kthenP.r ?_ | refine kthenP.e ?_ | refine kblockP.n ?_ | refine kblockP.r ?_ | refine kblockP.e ?_ | refine kblockP.o rfl ?_ | refine Runs.seq ?_ | refine Runs.region ?_ | refine Runs.block ?_ | refine Runs.cond ?_ | refine Runs.skip ?_ | refine Runs.loop ?_ | refine Runs.exit ?_ | refine Runs.ret ?_)
  repeat (first | refine pops.bin rfl rfl rfl rfl rfl rfl (cbin_inc (by omega)) ?_ | refine pops.fd rfl rfl rfl rfl rfl rfl ?_ | refine pops.skip rfl rfl rfl ?_ | refine pops.load rfl rfl rfl rfl rfl (by first | assumption | exact cload_of (by assumption) rfl) ?_ | refine pops.len rfl rfl rfl rfl rfl rfl rfl rfl (by first | exact SlA.len (by assumption) rfl | exact SlI.len (by assumption) rfl | exact SlS.len (by assumption) rfl | exact Sl.len (by assumption) rfl) ?_)
  refine pops.cmp rfl rfl rfl rfl rfl (fun q1 => ?_) (fun q1 => ?_)
  · have q1 := of_decide_eq_true q1
    repeat (first | refine pops.bin rfl rfl rfl rfl rfl rfl (cbin_inc (by omega)) ?_ | refine pops.fl rfl rfl rfl rfl rfl ?_ | refine pops.skip rfl rfl rfl ?_ | refine pops.load rfl rfl rfl rfl rfl (by first | assumption | exact cload_of (by assumption) rfl) ?_ | refine pops.len rfl rfl rfl rfl rfl rfl rfl rfl (by first | exact SlA.len (by assumption) rfl | exact SlI.len (by assumption) rfl | exact SlS.len (by assumption) rfl | exact Sl.len (by assumption) rfl) ?_)
    refine pops.nil ?_
    repeat (first | refine kthenP.n ?_ | refine kthenP.r ?_ | refine kthenP.e ?_ | refine kblockP.n ?_ | refine kblockP.r ?_ | refine kblockP.e ?_ | refine kblockP.o rfl ?_ | refine Runs.seq ?_ | refine Runs.region ?_ | refine Runs.block ?_ | refine Runs.cond ?_ | refine Runs.skip ?_ | refine Runs.loop ?_ | refine Runs.exit ?_ | refine Runs.ret ?_)
    refine pcond.t rfl ?_
    repeat (first | refine kthenP.n ?_ | refine kthenP.r ?_ | refine kthenP.e ?_ | refine kblockP.n ?_ | refine kblockP.r ?_ | refine kblockP.e ?_ | refine kblockP.o rfl ?_ | refine Runs.seq ?_ | refine Runs.region ?_ | refine Runs.block ?_ | refine Runs.cond ?_ | refine Runs.skip ?_ | refine Runs.loop ?_ | refine Runs.exit ?_ | refine Runs.ret ?_)
    repeat (first | refine pops.bin rfl rfl rfl rfl rfl rfl (cbin_inc (by omega)) ?_ | refine pops.fl rfl rfl rfl rfl rfl ?_ | refine pops.skip rfl rfl rfl ?_ | refine pops.load rfl rfl rfl rfl rfl (by first | assumption | exact cload_of (by assumption) rfl) ?_ | refine pops.len rfl rfl rfl rfl rfl rfl rfl rfl (by first | exact SlA.len (by assumption) rfl | exact SlI.len (by assumption) rfl | exact SlS.len (by assumption) rfl | exact Sl.len (by assumption) rfl) ?_)
    refine pops.nil ?_
    repeat (first | refine kthenP.n ?_ | refine kthenP.r ?_ | refine kthenP.e ?_ | refine kblockP.n ?_ | refine kblockP.r ?_ | refine kblockP.e ?_ | refine kblockP.o rfl ?_ | refine Runs.seq ?_ | refine Runs.region ?_ | refine Runs.block ?_ | refine Runs.cond ?_ | refine Runs.skip ?_ | refine Runs.loop ?_ | refine Runs.exit ?_ | refine Runs.ret ?_)
    refine pleave.r rfl ?_
    refine ⟨?_, g1⟩
    unfold wideB
    rw [decide_eq_false (by omega)]
    rfl
  have q1 := of_decide_eq_false q1
  repeat (first | refine pops.bin rfl rfl rfl rfl rfl rfl (cbin_inc (by omega)) ?_ | refine pops.fd rfl rfl rfl rfl rfl rfl ?_ | refine pops.skip rfl rfl rfl ?_ | refine pops.load rfl rfl rfl rfl rfl (by first | assumption | exact cload_of (by assumption) rfl) ?_ | refine pops.len rfl rfl rfl rfl rfl rfl rfl rfl (by first | exact SlA.len (by assumption) rfl | exact SlI.len (by assumption) rfl | exact SlS.len (by assumption) rfl | exact Sl.len (by assumption) rfl) ?_)
  refine pops.cmp rfl rfl rfl rfl rfl (fun q2 => ?_) (fun q2 => ?_)
  · have q2 := of_decide_eq_true q2
    repeat (first | refine pops.bin rfl rfl rfl rfl rfl rfl (cbin_inc (by omega)) ?_ | refine pops.fl rfl rfl rfl rfl rfl ?_ | refine pops.skip rfl rfl rfl ?_ | refine pops.load rfl rfl rfl rfl rfl (by first | assumption | exact cload_of (by assumption) rfl) ?_ | refine pops.len rfl rfl rfl rfl rfl rfl rfl rfl (by first | exact SlA.len (by assumption) rfl | exact SlI.len (by assumption) rfl | exact SlS.len (by assumption) rfl | exact Sl.len (by assumption) rfl) ?_)
    refine pops.nil ?_
    repeat (first | refine kthenP.n ?_ | refine kthenP.r ?_ | refine kthenP.e ?_ | refine kblockP.n ?_ | refine kblockP.r ?_ | refine kblockP.e ?_ | refine kblockP.o rfl ?_ | refine Runs.seq ?_ | refine Runs.region ?_ | refine Runs.block ?_ | refine Runs.cond ?_ | refine Runs.skip ?_ | refine Runs.loop ?_ | refine Runs.exit ?_ | refine Runs.ret ?_)
    refine pcond.t rfl ?_
    repeat (first | refine kthenP.n ?_ | refine kthenP.r ?_ | refine kthenP.e ?_ | refine kblockP.n ?_ | refine kblockP.r ?_ | refine kblockP.e ?_ | refine kblockP.o rfl ?_ | refine Runs.seq ?_ | refine Runs.region ?_ | refine Runs.block ?_ | refine Runs.cond ?_ | refine Runs.skip ?_ | refine Runs.loop ?_ | refine Runs.exit ?_ | refine Runs.ret ?_)
    repeat (first | refine pops.bin rfl rfl rfl rfl rfl rfl (cbin_inc (by omega)) ?_ | refine pops.fl rfl rfl rfl rfl rfl ?_ | refine pops.skip rfl rfl rfl ?_ | refine pops.load rfl rfl rfl rfl rfl (by first | assumption | exact cload_of (by assumption) rfl) ?_ | refine pops.len rfl rfl rfl rfl rfl rfl rfl rfl (by first | exact SlA.len (by assumption) rfl | exact SlI.len (by assumption) rfl | exact SlS.len (by assumption) rfl | exact Sl.len (by assumption) rfl) ?_)
    refine pops.nil ?_
    repeat (first | refine kthenP.n ?_ | refine kthenP.r ?_ | refine kthenP.e ?_ | refine kblockP.n ?_ | refine kblockP.r ?_ | refine kblockP.e ?_ | refine kblockP.o rfl ?_ | refine Runs.seq ?_ | refine Runs.region ?_ | refine Runs.block ?_ | refine Runs.cond ?_ | refine Runs.skip ?_ | refine Runs.loop ?_ | refine Runs.exit ?_ | refine Runs.ret ?_)
    refine pleave.r rfl ?_
    refine ⟨?_, g1⟩
    unfold wideB
    rw [decide_eq_false (show ¬ r.rules.length ≤ 110 by omega), Bool.and_false]
    rfl
  have q2 := of_decide_eq_false q2
  have hwide : wideB r = r.rules.all fun x => smallPB x.left && smallPB x.right := by
    unfold wideB
    rw [decide_eq_true (by omega), decide_eq_true (by omega)]
    rfl
  rw [hwide]
  clear hwide
  repeat (first | refine pops.bin rfl rfl rfl rfl rfl rfl (cbin_inc (by omega)) ?_ | refine pops.fl rfl rfl rfl rfl rfl ?_ | refine pops.skip rfl rfl rfl ?_ | refine pops.load rfl rfl rfl rfl rfl (by first | assumption | exact cload_of (by assumption) rfl) ?_ | refine pops.len rfl rfl rfl rfl rfl rfl rfl rfl (by first | exact SlA.len (by assumption) rfl | exact SlI.len (by assumption) rfl | exact SlS.len (by assumption) rfl | exact Sl.len (by assumption) rfl) ?_)
  refine pops.nil ?_
  repeat (first | refine kthenP.n ?_ | refine kthenP.r ?_ | refine kthenP.e ?_ | refine kblockP.n ?_ | refine kblockP.r ?_ | refine kblockP.e ?_ | refine kblockP.o rfl ?_ | refine Runs.seq ?_ | refine Runs.region ?_ | refine Runs.block ?_ | refine Runs.cond ?_ | refine Runs.skip ?_ | refine Runs.loop ?_ | refine Runs.exit ?_ | refine Runs.ret ?_)
  refine pcond.f rfl ?_
  repeat (first | refine kthenP.n ?_ | refine kthenP.r ?_ | refine kthenP.e ?_ | refine kblockP.n ?_ | refine kblockP.r ?_ | refine kblockP.e ?_ | refine kblockP.o rfl ?_ | refine Runs.seq ?_ | refine Runs.region ?_ | refine Runs.block ?_ | refine Runs.cond ?_ | refine Runs.skip ?_ | refine Runs.loop ?_ | refine Runs.exit ?_ | refine Runs.ret ?_)
  repeat (first | refine pops.bin rfl rfl rfl rfl rfl rfl (cbin_inc (by omega)) ?_ | refine pops.fl rfl rfl rfl rfl rfl ?_ | refine pops.skip rfl rfl rfl ?_ | refine pops.load rfl rfl rfl rfl rfl (by first | assumption | exact cload_of (by assumption) rfl) ?_ | refine pops.len rfl rfl rfl rfl rfl rfl rfl rfl (by first | exact SlA.len (by assumption) rfl | exact SlI.len (by assumption) rfl | exact SlS.len (by assumption) rfl | exact Sl.len (by assumption) rfl) ?_)
  refine pops.nil ?_
  repeat (first | refine kthenP.n ?_ | refine kthenP.r ?_ | refine kthenP.e ?_ | refine kblockP.n ?_ | refine kblockP.r ?_ | refine kblockP.e ?_ | refine kblockP.o rfl ?_ | refine Runs.seq ?_ | refine Runs.region ?_ | refine Runs.block ?_ | refine Runs.cond ?_ | refine Runs.skip ?_ | refine Runs.loop ?_ | refine Runs.exit ?_ | refine Runs.ret ?_)
  refine Loops.ind 6 (fun i : Nat => [(1, .pointer (some ⟨b, 0, none⟩)), (2, .bool false), (3, .int .i64 (i : Nat))]) (fun i h' => i ≤ r.rules.length ∧ Gr h1 h' ∧ ∀ (j : Nat) q, j < i → r.rules[j]? = some q → (smallPB q.left && smallPB q.right) = true) (fun i => r.rules.length - i) 0 (by decide) ⟨rfl, rfl, rfl, trivial⟩ ⟨Nat.zero_le _, Gr.refl _, all_none⟩ ?_
  rintro i z h' hwf' ⟨hi, g2, hall⟩
  replace hcb := g2.at hwf1 hcb
  replace hs := RulesV.gr hwf1 g2 hs
  repeat (first | refine kthenP.n ?_ | refine kthenP.r ?_ | refine kthenP.e ?_ | refine kblockP.n ?_ | refine kblockP.r ?_ | refine kblockP.e ?_ | refine kblockP.o rfl ?_ | refine Runs.seq ?_ | refine Runs.region ?_ | refine Runs.block ?_ | refine Runs.cond ?_ | refine Runs.skip ?_ | refine Runs.loop ?_ | refine Runs.exit ?_ | refine Runs.ret ?_)
  repeat (first | refine pops.bin rfl rfl rfl rfl rfl rfl (cbin_inc (by omega)) ?_ | refine pops.fl rfl rfl rfl rfl rfl ?_ | refine pops.skip rfl rfl rfl ?_ | refine pops.load rfl rfl rfl rfl rfl (by first | assumption | exact cload_of (by assumption) rfl) ?_ | refine pops.len rfl rfl rfl rfl rfl rfl rfl rfl (by first | exact SlA.len (by assumption) rfl | exact SlI.len (by assumption) rfl | exact SlS.len (by assumption) rfl | exact Sl.len (by assumption) rfl) ?_)
  refine pops.nil ?_
  repeat (first | refine kthenP.n ?_ | refine kthenP.r ?_ | refine kthenP.e ?_ | refine kblockP.n ?_ | refine kblockP.r ?_ | refine kblockP.e ?_ | refine kblockP.o rfl ?_ | refine Runs.seq ?_ | refine Runs.region ?_ | refine Runs.block ?_ | refine Runs.cond ?_ | refine Runs.skip ?_ | refine Runs.loop ?_ | refine Runs.exit ?_ | refine Runs.ret ?_)
  refine pcond.d (p := (i : Int) < (r.rules.length : Nat)) rfl (fun hlt => ?_) (fun hge => ?_)
  · obtain ⟨q, hq⟩ : ∃ q, r.rules[i]? = some q := ⟨_, List.getElem?_eq_getElem (by omega)⟩
    have bad : (smallPB q.left && smallPB q.right) = false → (r.rules.all fun x => smallPB x.left && smallPB x.right) = false := fun hb => by rw [List.all_eq_false]; exact ⟨q, List.mem_of_getElem? hq, by rw [hb]; decide⟩
    obtain ⟨b1, o1, cs1, ro1, fz1, lc1, ls1, rc1, rs1, hix, hg1, hone, hsub, hL, _⟩ := RulesV.read (ts := 23) hru rfl rfl hs hq .i64
    repeat (first | refine kthenP.n ?_ | refine kthenP.r ?_ | refine kthenP.e ?_ | refine kblockP.n ?_ | refine kblockP.r ?_ | refine kblockP.e ?_ | refine kblockP.o rfl ?_ | refine Runs.seq ?_ | refine Runs.region ?_ | refine Runs.block ?_ | refine Runs.cond ?_ | refine Runs.skip ?_ | refine Runs.loop ?_ | refine Runs.exit ?_ | refine Runs.ret ?_)
    refine pops.fl rfl rfl rfl rfl rfl ?_
    refine pops.load rfl rfl rfl rfl rfl (by first | assumption | exact cload_of (by assumption) rfl) ?_
    refine pops.fl rfl rfl rfl rfl rfl ?_
    refine pops.indexAddr rfl rfl rfl rfl rfl rfl hix ?_
    refine pops.fl rfl rfl rfl rfl rfl ?_
    refine pops.load rfl rfl rfl rfl rfl (cload_sub (o' := 1) (n' := 3) hpu rfl hg1 hsub (by omega)) ?_
    refine pops.callG rfl rfl rfl rfl rfl fn_smallP rfl rfl rfl (smallP_calls hL) fun h2 hwf2 g3 => ?_
    replace hcb := g3.at hwf' hcb
    replace hs := RulesV.gr hwf' g3 hs
    cases e1 : smallPB q.left with
    | false =>
      repeat (first | refine pops.bin rfl rfl rfl rfl rfl rfl (cbin_inc (by omega)) ?_ | refine pops.fl rfl rfl rfl rfl rfl ?_ | refine pops.skip rfl rfl rfl ?_ | refine pops.load rfl rfl rfl rfl rfl (by first | assumption | exact cload_of (by assumption) rfl) ?_ | refine pops.len rfl rfl rfl rfl rfl rfl rfl rfl (by first | exact SlA.len (by assumption) rfl | exact SlI.len (by assumption) rfl | exact SlS.len (by assumption) rfl | exact Sl.len (by assumption) rfl) ?_)
      refine pops.nil ?_
      repeat (first | refine kthenP.n ?_ | refine kthenP.r ?_ | refine kthenP.e ?_ | refine kblockP.n ?_ | refine kblockP.r ?_ | refine kblockP.e ?_ | refine kblockP.o rfl ?_ | refine Runs.seq ?_ | refine Runs.region ?_ | refine Runs.block ?_ | refine Runs.cond ?_ | refine Runs.skip ?_ | refine Runs.loop ?_ | refine Runs.exit ?_ | refine Runs.ret ?_)
      refine pcond.t rfl ?_
      repeat (first | refine kthenP.n ?_ | refine kthenP.r ?_ | refine kthenP.e ?_ | refine kblockP.n ?_ | refine kblockP.r ?_ | refine kblockP.e ?_ | refine kblockP.o rfl ?_ | refine Runs.seq ?_ | refine Runs.region ?_ | refine Runs.block ?_ | refine Runs.cond ?_ | refine Runs.skip ?_ | refine Runs.loop ?_ | refine Runs.exit ?_ | refine Runs.ret ?_)
      repeat (first | refine pops.bin rfl rfl rfl rfl rfl rfl (cbin_inc (by omega)) ?_ | refine pops.fl rfl rfl rfl rfl rfl ?_ | refine pops.skip rfl rfl rfl ?_ | refine pops.load rfl rfl rfl rfl rfl (by first | assumption | exact cload_of (by assumption) rfl) ?_ | refine pops.len rfl rfl rfl rfl rfl rfl rfl rfl (by first | exact SlA.len (by assumption) rfl | exact SlI.len (by assumption) rfl | exact SlS.len (by assumption) rfl | exact Sl.len (by assumption) rfl) ?_)
      refine pops.nil ?_
      repeat (first | refine kthenP.n ?_ | refine kthenP.r ?_ | refine kthenP.e ?_ | refine kblockP.n ?_ | refine kblockP.r ?_ | refine kblockP.e ?_ | refine kblockP.o rfl ?_ | refine Runs.seq ?_ | refine Runs.region ?_ | refine Runs.block ?_ | refine Runs.cond ?_ | refine Runs.skip ?_ | refine Runs.loop ?_ | refine Runs.exit ?_ | refine Runs.ret ?_)
      refine pleave.r rfl ?_
      refine ⟨?_, (g1.trans g2).trans g3⟩
      rw [bad (by rw [e1]; rfl)]
    | true =>
    obtain ⟨b2, o2, cs2, ro2, fz2, lc2, ls2, rc2, rs2, hix2, hg2, hone2, hsub2, _, hR⟩ := RulesV.read (ts := 23) hru rfl rfl hs hq .i64
    refine pops.fl rfl rfl rfl rfl rfl ?_
    refine pops.fl rfl rfl rfl rfl rfl ?_
    refine pops.fl rfl rfl rfl rfl rfl ?_
    refine pops.load rfl rfl rfl rfl rfl (by first | assumption | exact cload_of (by assumption) rfl) ?_
    refine pops.fl rfl rfl rfl rfl rfl ?_
    refine pops.indexAddr rfl rfl rfl rfl rfl rfl hix2 ?_
    refine pops.fl rfl rfl rfl rfl rfl ?_
    refine pops.load rfl rfl rfl rfl rfl (cload_sub (o' := 4) (n' := 3) hpu rfl hg2 hsub2 (by omega)) ?_
    refine pops.callG rfl rfl rfl rfl rfl fn_smallP rfl rfl rfl (smallP_calls hR) fun h3 hwf3 g4 => ?_
    cases e2 : smallPB q.right with
    | false =>
      repeat (first | refine pops.bin rfl rfl rfl rfl rfl rfl (cbin_inc (by omega)) ?_ | refine pops.fl rfl rfl rfl rfl rfl ?_ | refine pops.skip rfl rfl rfl ?_ | refine pops.load rfl rfl rfl rfl rfl (by first | assumption | exact cload_of (by assumption) rfl) ?_ | refine pops.len rfl rfl rfl rfl rfl rfl rfl rfl (by first | exact SlA.len (by assumption) rfl | exact SlI.len (by assumption) rfl | exact SlS.len (by assumption) rfl | exact Sl.len (by assumption) rfl) ?_)
      refine pops.nil ?_
      repeat (first | refine kthenP.n ?_ | refine kthenP.r ?_ | refine kthenP.e ?_ | refine kblockP.n ?_ | refine kblockP.r ?_ | refine kblockP.e ?_ | refine kblockP.o rfl ?_ | refine Runs.seq ?_ | refine Runs.region ?_ | refine Runs.block ?_ | refine Runs.cond ?_ | refine Runs.skip ?_ | refine Runs.loop ?_ | refine Runs.exit ?_ | refine Runs.ret ?_)
      refine pcond.t rfl ?_
      repeat (first | refine kthenP.n ?_ | refine kthenP.r ?_ | refine kthenP.e ?_ | refine kblockP.n ?_ | refine kblockP.r ?_ | refine kblockP.e ?_ | refine kblockP.o rfl ?_ | refine Runs.seq ?_ | refine Runs.region ?_ | refine Runs.block ?_ | refine Runs.cond ?_ | refine Runs.skip ?_ | refine Runs.loop ?_ | refine Runs.exit ?_ | refine Runs.ret ?_)
      repeat (first | refine pops.bin rfl rfl rfl rfl rfl rfl (cbin_inc (by omega)) ?_ | refine pops.fl rfl rfl rfl rfl rfl ?_ | refine pops.skip rfl rfl rfl ?_ | refine pops.load rfl rfl rfl rfl rfl (by first | assumption | exact cload_of (by assumption) rfl) ?_ | refine pops.len rfl rfl rfl rfl rfl rfl rfl rfl (by first | exact SlA.len (by assumption) rfl | exact SlI.len (by assumption) rfl | exact SlS.len (by assumption) rfl | exact Sl.len (by assumption) rfl) ?_)
      refine pops.nil ?_
      repeat (first | refine kthenP.n ?_ | refine kthenP.r ?_ | refine kthenP.e ?_ | refine kblockP.n ?_ | refine kblockP.r ?_ | refine kblockP.e ?_ | refine kblockP.o rfl ?_ | refine Runs.seq ?_ | refine Runs.region ?_ | refine Runs.block ?_ | refine Runs.cond ?_ | refine Runs.skip ?_ | refine Runs.loop ?_ | refine Runs.exit ?_ | refine Runs.ret ?_)
      refine pleave.r rfl ?_
      refine ⟨?_, ((g1.trans g2).trans g3).trans g4⟩
      rw [bad (by rw [e1, e2]; rfl)]
    | true =>
    repeat (first | refine pops.bin rfl rfl rfl rfl rfl rfl (cbin_inc (by omega)) ?_ | refine pops.fl rfl rfl rfl rfl rfl ?_ | refine pops.skip rfl rfl rfl ?_ | refine pops.load rfl rfl rfl rfl rfl (by first | assumption | exact cload_of (by assumption) rfl) ?_ | refine pops.len rfl rfl rfl rfl rfl rfl rfl rfl (by first | exact SlA.len (by assumption) rfl | exact SlI.len (by assumption) rfl | exact SlS.len (by assumption) rfl | exact Sl.len (by assumption) rfl) ?_)
    refine pops.nil ?_
    repeat (first | refine kthenP.n ?_ | refine kthenP.r ?_ | refine kthenP.e ?_ | refine kblockP.n ?_ | refine kblockP.r ?_ | refine kblockP.e ?_ | refine kblockP.o rfl ?_ | refine Runs.seq ?_ | refine Runs.region ?_ | refine Runs.block ?_ | refine Runs.cond ?_ | refine Runs.skip ?_ | refine Runs.loop ?_ | refine Runs.exit ?_ | refine Runs.ret ?_)
    refine pcond.f rfl ?_
    repeat (first | refine kthenP.n ?_ | refine kthenP.r ?_ | refine kthenP.e ?_ | refine kblockP.n ?_ | refine kblockP.r ?_ | refine kblockP.e ?_ | refine kblockP.o rfl ?_ | refine Runs.seq ?_ | refine Runs.region ?_ | refine Runs.block ?_ | refine Runs.cond ?_ | refine Runs.skip ?_ | refine Runs.loop ?_ | refine Runs.exit ?_ | refine Runs.ret ?_)
    repeat (first | refine pops.bin rfl rfl rfl rfl rfl rfl (cbin_inc (by omega)) ?_ | refine pops.fl rfl rfl rfl rfl rfl ?_ | refine pops.skip rfl rfl rfl ?_ | refine pops.load rfl rfl rfl rfl rfl (by first | assumption | exact cload_of (by assumption) rfl) ?_ | refine pops.len rfl rfl rfl rfl rfl rfl rfl rfl (by first | exact SlA.len (by assumption) rfl | exact SlI.len (by assumption) rfl | exact SlS.len (by assumption) rfl | exact Sl.len (by assumption) rfl) ?_)
    refine pops.nil ?_
    refine .n ⟨_, i + 1, rfl, ⟨rfl, rfl, rfl, trivial⟩, (by show r.rules.length - (i + 1) < r.rules.length - i; omega), by omega, (g2.trans g3).trans g4, all_next hall hq (by rw [e1, e2]; rfl)⟩
  · repeat (first | refine kthenP.n ?_ | refine kthenP.r ?_ | refine kthenP.e ?_ | refine kblockP.n ?_ | refine kblockP.r ?_ | refine kblockP.e ?_ | refine kblockP.o rfl ?_ | refine Runs.seq ?_ | refine Runs.region ?_ | refine Runs.block ?_ | refine Runs.cond ?_ | refine Runs.skip ?_ | refine Runs.loop ?_ | refine Runs.exit ?_ | refine Runs.ret ?_)
    repeat (first | refine pops.bin rfl rfl rfl rfl rfl rfl (cbin_inc (by omega)) ?_ | refine pops.fl rfl rfl rfl rfl rfl ?_ | refine pops.skip rfl rfl rfl ?_ | refine pops.load rfl rfl rfl rfl rfl (by first | assumption | exact cload_of (by assumption) rfl) ?_ | refine pops.len rfl rfl rfl rfl rfl rfl rfl rfl (by first | exact SlA.len (by assumption) rfl | exact SlI.len (by assumption) rfl | exact SlS.len (by assumption) rfl | exact Sl.len (by assumption) rfl) ?_)
    refine pops.nil ?_
    repeat (first | refine kthenP.n ?_ | refine kthenP.r ?_ | refine kthenP.e ?_ | refine kblockP.n ?_ | refine kblockP.r ?_ | refine kblockP.e ?_ | refine kblockP.o rfl ?_ | refine Runs.seq ?_ | refine Runs.region ?_ | refine Runs.block ?_ | refine Runs.cond ?_ | refine Runs.skip ?_ | refine Runs.loop ?_ | refine Runs.exit ?_ | refine Runs.ret ?_)
    refine pleave.r rfl ?_
    refine ⟨?_, g1.trans g2⟩
    rw [List.all_eq_true.2 (all_end hall (by omega))]
end Go.Proofs.YtnchhgjoiboibaaGreatDoor

set_option maxRecDepth 100000
set_option linter.unusedVariables false
set_option linter.unusedSimpArgs false
namespace Go.Proofs.YtnchhgjoiboibaaGreatDoor
open Go.Cx
variable {w : World} {h : CH}
theorem fn_Check28 : tab.fn 7 = some Tryz.f7 := by kernel_rfl
set_option maxHeartbeats 1000000 in
theorem Check28_calls {v : Value} {r : RulesD} (hv : BreakV tab 9 kp 36 h v r) (hcap : ∀ c s, v = .agg #[c, s] → CapOk c 1) (hlen : ∀ s, s ∈ r.classes → s.data.toList.length < 9223372036854775808) :
    CalF (X w) 7 [v] h fun x h' => x = .ret (.int .i64 (checkR r)) ∧ Gr h h' := by
  refine CalF.wf fun hwf => ?_
  obtain ⟨c, s, rfl, oc, os, hc, hs⟩ := hv
  have hcap := hcap c s rfl
  refine CalF.intro fn_Check28 rfl (Nat.le_of_ble_eq_true rfl) ?_
  repeat (first | refine kthenP.n ?_ | refine kthenP.r ?_ | refine kthenP.e ?_ | refine kblockP.n ?_ | refine kblockP.r ?_ | refine kblockP.e ?_ | refine kblockP.o rfl ?_ | refine Runs.seq ?_ | refine Runs.region ?_ | refine Runs.block ?_ | refine Runs.cond ?_ | refine Runs.skip ?_ | refine Runs.loop ?_ | refine Runs.exit ?_ | refine Runs.ret ?_)
  refine pops.box (cs := [c, s]) rfl rfl rfl rfl (by simp only [List.all_cons, List.all_nil, oc, os, Bool.and_true]) rfl rfl hwf fun b h1 hb hwf1 g1 hcb => ?_
  replace hc := Sl.gr hc hwf g1
  replace hs := RulesV.gr hwf g1 hs
  repeat (first | refine pops.bin rfl rfl rfl rfl rfl rfl (cbin_inc (by omega)) ?_ | refine pops.fl rfl rfl rfl rfl rfl ?_ | refine pops.skip rfl rfl rfl ?_ | refine pops.load rfl rfl rfl rfl rfl (by first | assumption | exact cload_of (by assumption) rfl) ?_ | refine pops.len rfl rfl rfl rfl rfl rfl rfl rfl (by first | exact SlA.len (by assumption) rfl | exact SlI.len (by assumption) rfl | exact SlS.len (by assumption) rfl | exact Sl.len (by assumption) rfl) ?_)
  refine pops.nil ?_
  repeat (first | refine kthenP.n ?_ | refine kthenP.r ?_ | refine kthenP.e ?_ | refine kblockP.n ?_ | refine kblockP.r ?_ | refine kblockP.e ?_ | refine kblockP.o rfl ?_ | refine Runs.seq ?_ | refine Runs.region ?_ | refine Runs.block ?_ | refine Runs.cond ?_ | refine Runs.skip ?_ | refine Runs.loop ?_ | refine Runs.exit ?_ | refine Runs.ret ?_)
  repeat (first | refine pops.bin rfl rfl rfl rfl rfl rfl (cbin_inc (by omega)) ?_ | refine pops.fl rfl rfl rfl rfl rfl ?_ | refine pops.skip rfl rfl rfl ?_ | refine pops.load rfl rfl rfl rfl rfl (by first | assumption | exact cload_of (by assumption) rfl) ?_ | refine pops.len rfl rfl rfl rfl rfl rfl rfl rfl (by first | exact SlA.len (by assumption) rfl | exact SlI.len (by assumption) rfl | exact SlS.len (by assumption) rfl | exact Sl.len (by assumption) rfl) ?_)
  refine pops.callG rfl rfl rfl rfl rfl fn_named28 rfl rfl rfl (named28_calls hc hcap hlen) fun h2 hwf2 g2 => ?_
  replace hcb := g2.at hwf1 hcb
  replace hc := Sl.gr hc hwf1 g2
  replace hs := RulesV.gr hwf1 g2 hs
  have g02 := g1.trans g2
  have ls := hs.lt
  unfold checkR
  cases hN : tt (NamesP r.classes) with
  | false =>
    repeat (first | refine pops.bin rfl rfl rfl rfl rfl rfl (cbin_inc (by omega)) ?_ | refine pops.fl rfl rfl rfl rfl rfl ?_ | refine pops.skip rfl rfl rfl ?_ | refine pops.load rfl rfl rfl rfl rfl (by first | assumption | exact cload_of (by assumption) rfl) ?_ | refine pops.len rfl rfl rfl rfl rfl rfl rfl rfl (by first | exact SlA.len (by assumption) rfl | exact SlI.len (by assumption) rfl | exact SlS.len (by assumption) rfl | exact Sl.len (by assumption) rfl) ?_)
    refine pops.nil ?_
    repeat (first | refine kthenP.n ?_ | refine kthenP.r ?_ | refine kthenP.e ?_ | refine kblockP.n ?_ | refine kblockP.r ?_ | refine kblockP.e ?_ | refine kblockP.o rfl ?_ | refine Runs.seq ?_ | refine Runs.region ?_ | refine Runs.block ?_ | refine Runs.cond ?_ | refine Runs.skip ?_ | refine Runs.loop ?_ | refine Runs.exit ?_ | refine Runs.ret ?_)
    refine pcond.t rfl ?_
    repeat (first | refine kthenP.n ?_ | refine kthenP.r ?_ | refine kthenP.e ?_ | refine kblockP.n ?_ | refine kblockP.r ?_ | refine kblockP.e ?_ | refine kblockP.o rfl ?_ | refine Runs.seq ?_ | refine Runs.region ?_ | refine Runs.block ?_ | refine Runs.cond ?_ | refine Runs.skip ?_ | refine Runs.loop ?_ | refine Runs.exit ?_ | refine Runs.ret ?_)
    repeat (first | refine pops.bin rfl rfl rfl rfl rfl rfl (cbin_inc (by omega)) ?_ | refine pops.fl rfl rfl rfl rfl rfl ?_ | refine pops.skip rfl rfl rfl ?_ | refine pops.load rfl rfl rfl rfl rfl (by first | assumption | exact cload_of (by assumption) rfl) ?_ | refine pops.len rfl rfl rfl rfl rfl rfl rfl rfl (by first | exact SlA.len (by assumption) rfl | exact SlI.len (by assumption) rfl | exact SlS.len (by assumption) rfl | exact Sl.len (by assumption) rfl) ?_)
    refine pops.nil ?_
    repeat (first | refine kthenP.n ?_ | refine kthenP.r ?_ | refine kthenP.e ?_ | refine kblockP.n ?_ | refine kblockP.r ?_ | refine kblockP.e ?_ | refine kblockP.o rfl ?_ | refine Runs.seq ?_ | refine Runs.region ?_ | refine Runs.block ?_ | refine Runs.cond ?_ | refine Runs.skip ?_ | refine Runs.loop ?_ | refine Runs.exit ?_ | refine Runs.ret ?_)
    refine pleave.r rfl ?_
    exact ⟨rfl, g02⟩
  | true =>
  have hN' := tt_iff.1 hN
  have hn1 : r.classes.length ≤ 60 := hN'.2.2.2
  simp only [cond_true]
  repeat (first | refine pops.bin rfl rfl rfl rfl rfl rfl (cbin_inc (by omega)) ?_ | refine pops.fl rfl rfl rfl rfl rfl ?_ | refine pops.skip rfl rfl rfl ?_ | refine pops.load rfl rfl rfl rfl rfl (by first | assumption | exact cload_of (by assumption) rfl) ?_ | refine pops.len rfl rfl rfl rfl rfl rfl rfl rfl (by first | exact SlA.len (by assumption) rfl | exact SlI.len (by assumption) rfl | exact SlS.len (by assumption) rfl | exact Sl.len (by assumption) rfl) ?_)
  refine pops.nil ?_
  repeat (first | refine kthenP.n ?_ | refine kthenP.r ?_ | refine kthenP.e ?_ | refine kblockP.n ?_ | refine kblockP.r ?_ | refine kblockP.e ?_ | refine kblockP.o rfl ?_ | refine Runs.seq ?_ | refine Runs.region ?_ | refine Runs.block ?_ | refine Runs.cond ?_ | refine Runs.skip ?_ | refine Runs.loop ?_ | refine Runs.exit ?_ | refine Runs.ret ?_)
  refine pcond.f rfl ?_
  repeat (first | refine kthenP.n ?_ | refine kthenP.r ?_ | refine kthenP.e ?_ | refine kblockP.n ?_ | refine kblockP.r ?_ | refine kblockP.e ?_ | refine kblockP.o rfl ?_ | refine Runs.seq ?_ | refine Runs.region ?_ | refine Runs.block ?_ | refine Runs.cond ?_ | refine Runs.skip ?_ | refine Runs.loop ?_ | refine Runs.exit ?_ | refine Runs.ret ?_)
  repeat (first | refine pops.bin rfl rfl rfl rfl rfl rfl (cbin_inc (by omega)) ?_ | refine pops.fl rfl rfl rfl rfl rfl ?_ | refine pops.skip rfl rfl rfl ?_ | refine pops.load rfl rfl rfl rfl rfl (by first | assumption | exact cload_of (by assumption) rfl) ?_ | refine pops.len rfl rfl rfl rfl rfl rfl rfl rfl (by first | exact SlA.len (by assumption) rfl | exact SlI.len (by assumption) rfl | exact SlS.len (by assumption) rfl | exact Sl.len (by assumption) rfl) ?_)
  refine pops.nil ?_
  repeat (first | refine kthenP.n ?_ | refine kthenP.r ?_ | refine kthenP.e ?_ | refine kblockP.n ?_ | refine kblockP.r ?_ | refine kblockP.e ?_ | refine kblockP.o rfl ?_ | refine Runs.seq ?_ | refine Runs.region ?_ | refine Runs.block ?_ | refine Runs.cond ?_ | refine Runs.skip ?_ | refine Runs.loop ?_ | refine Runs.exit ?_ | refine Runs.ret ?_)
  repeat (first | refine pops.bin rfl rfl rfl rfl rfl rfl (cbin_inc (by omega)) ?_ | refine pops.fl rfl rfl rfl rfl rfl ?_ | refine pops.skip rfl rfl rfl ?_ | refine pops.load rfl rfl rfl rfl rfl (by first | assumption | exact cload_of (by assumption) rfl) ?_ | refine pops.len rfl rfl rfl rfl rfl rfl rfl rfl (by first | exact SlA.len (by assumption) rfl | exact SlI.len (by assumption) rfl | exact SlS.len (by assumption) rfl | exact Sl.len (by assumption) rfl) ?_)
  refine pops.nil ?_
  repeat (first | refine kthenP.n ?_ | refine kthenP.r ?_ | refine kthenP.e ?_ | refine kblockP.n ?_ | refine kblockP.r ?_ | refine kblockP.e ?_ | refine kblockP.o rfl ?_ | refine Runs.seq ?_ | refine Runs.region ?_ | refine Runs.block ?_ | refine Runs.cond ?_ | refine Runs.skip ?_ | refine Runs.loop ?_ | refine Runs.exit ?_ | refine Runs.ret ?_)
  repeat (first | refine pops.bin rfl rfl rfl rfl rfl rfl (cbin_inc (by omega)) ?_ | refine pops.fl rfl rfl rfl rfl rfl ?_ | refine pops.skip rfl rfl rfl ?_ | refine pops.load rfl rfl rfl rfl rfl (by first | assumption | exact cload_of (by assumption) rfl) ?_ | refine pops.len rfl rfl rfl rfl rfl rfl rfl rfl (by first | exact SlA.len (by assumption) rfl | exact SlI.len (by assumption) rfl | exact SlS.len (by assumption) rfl | exact Sl.len (by assumption) rfl) ?_)
  refine pops.nil ?_
  repeat (first | refine kthenP.n ?_ | refine kthenP.r ?_ | refine kthenP.e ?_ | refine kblockP.n ?_ | refine kblockP.r ?_ | refine kblockP.e ?_ | refine kblockP.o rfl ?_ | refine Runs.seq ?_ | refine Runs.region ?_ | refine Runs.block ?_ | refine Runs.cond ?_ | refine Runs.skip ?_ | refine Runs.loop ?_ | refine Runs.exit ?_ | refine Runs.ret ?_)
  refine Loops.ind 7 (fun s : Nat × Nat => [(1, .pointer (some ⟨b, 0, none⟩)), (2, .int .i64 0), (3, .int .i64 (r.classes.length : Nat)), (4, .int .i64 (s.2 : Nat)), (5, .int .i64 (s.1 : Nat))])
    (fun s h' => s.1 ≤ r.rules.length ∧ Gr h2 h' ∧ (∀ (j : Nat) q, j < s.1 → r.rules[j]? = some q → ruleOk r.classes.length q = true) ∧ s.2 ≤ 8000 ∧ (s.2 ≤ 4000 → s.2 = partsR (r.rules.take s.1)) ∧ (4000 < s.2 → 4000 < partsR (r.rules.take s.1))) (fun s => r.rules.length - s.1) (0, 0) (by decide) ⟨rfl, rfl, rfl, rfl, rfl, trivial⟩ ⟨Nat.zero_le _, Gr.refl _, all_none, by decide, fun _ => rfl, fun hh => absurd hh (by decide)⟩ ?_
  rintro ⟨i, m⟩ z h' hwf' ⟨hi, g3, hall, hm1, hm2, hm3⟩
  replace hi : i ≤ r.rules.length := hi
  replace hm1 : m ≤ 8000 := hm1
  replace hm2 : m ≤ 4000 → m = partsR (r.rules.take i) := hm2
  replace hm3 : 4000 < m → 4000 < partsR (r.rules.take i) := hm3
  replace hcb := g3.at hwf2 hcb
  replace hs := RulesV.gr hwf2 g3 hs
  repeat (first | refine kthenP.n ?_ | refine kthenP.r ?_ | refine kthenP.e ?_ | refine kblockP.n ?_ | refine kblockP.r ?_ | refine kblockP.e ?_ | refine kblockP.o rfl ?_ | refine Runs.seq ?_ | refine Runs.region ?_ | refine Runs.block ?_ | refine Runs.cond ?_ | refine Runs.skip ?_ | refine Runs.loop ?_ | refine Runs.exit ?_ | refine Runs.ret ?_)
  repeat (first | refine pops.bin rfl rfl rfl rfl rfl rfl (cbin_inc (by omega)) ?_ | refine pops.fl rfl rfl rfl rfl rfl ?_ | refine pops.skip rfl rfl rfl ?_ | refine pops.load rfl rfl rfl rfl rfl (by first | assumption | exact cload_of (by assumption) rfl) ?_ | refine pops.len rfl rfl rfl rfl rfl rfl rfl rfl (by first | exact SlA.len (by assumption) rfl | exact SlI.len (by assumption) rfl | exact SlS.len (by assumption) rfl | exact Sl.len (by assumption) rfl) ?_)
  refine pops.nil ?_
  repeat (first | refine kthenP.n ?_ | refine kthenP.r ?_ | refine kthenP.e ?_ | refine kblockP.n ?_ | refine kblockP.r ?_ | refine kblockP.e ?_ | refine kblockP.o rfl ?_ | refine Runs.seq ?_ | refine Runs.region ?_ | refine Runs.block ?_ | refine Runs.cond ?_ | refine Runs.skip ?_ | refine Runs.loop ?_ | refine Runs.exit ?_ | refine Runs.ret ?_)
  refine pcond.d (p := (i : Int) < (r.rules.length : Nat)) rfl (fun hlt => ?_) (fun hge => ?_)
  · obtain ⟨q, hq⟩ : ∃ q, r.rules[i]? = some q := ⟨_, List.getElem?_eq_getElem (by omega)⟩
    have hqm := List.mem_of_getElem? hq
    have hpt := partsR_take hq
    have bad : ruleOk r.classes.length q = false → r.rules.all (ruleOk r.classes.length) = false := fun hb => by rw [List.all_eq_false]; exact ⟨q, hqm, by rw [hb]; decide⟩
    repeat (first | refine kthenP.n ?_ | refine kthenP.r ?_ | refine kthenP.e ?_ | refine kblockP.n ?_ | refine kblockP.r ?_ | refine kblockP.e ?_ | refine kblockP.o rfl ?_ | refine Runs.seq ?_ | refine Runs.region ?_ | refine Runs.block ?_ | refine Runs.cond ?_ | refine Runs.skip ?_ | refine Runs.loop ?_ | refine Runs.exit ?_ | refine Runs.ret ?_)
    repeat (first | refine pops.bin rfl rfl rfl rfl rfl rfl (cbin_inc (by omega)) ?_ | refine pops.fl rfl rfl rfl rfl rfl ?_ | refine pops.skip rfl rfl rfl ?_ | refine pops.load rfl rfl rfl rfl rfl (by first | assumption | exact cload_of (by assumption) rfl) ?_ | refine pops.len rfl rfl rfl rfl rfl rfl rfl rfl (by first | exact SlA.len (by assumption) rfl | exact SlI.len (by assumption) rfl | exact SlS.len (by assumption) rfl | exact Sl.len (by assumption) rfl) ?_)
    refine pops.atA rfl rfl rfl rfl rfl rfl rfl hs hq fun a u ha hu => ?_
    refine pops.load rfl rfl rfl rfl rfl (by first | assumption | exact cload_of (by assumption) rfl) ?_
    obtain ⟨lc, ls', rc, rs, rfl, hone, hL, hR⟩ := hu
    simp only [Bool.and_eq_true] at hone
    refine pops.alloc rfl rfl rfl rfl rfl hwf' fun b2 h3 hb2 hwf3 g4 hcb2 => ?_
    refine pops.store (s := 7) (us := [.int .i64 q.action, .int .i64 q.left.kind, lc, ls', .int .i64 q.right.kind, rc, rs]) (cs' := [.int .i64 q.action, .int .i64 q.left.kind, lc, ls', .int .i64 q.right.kind, rc, rs]) rfl rfl rfl rfl rfl hcb2 rfl rfl (by simp only [List.all_cons, List.all_nil, hone.1.1.1, hone.1.1.2, hone.1.2, hone.2, Bool.and_true]; rfl) rfl hwf3 fun h4 hwf4 u4 hc4 => ?_
    have g5 := g4.upd hb2 u4
    replace hL := hL.gr hwf' g5
    replace hR := hR.gr hwf' g5
    replace hcb := g5.at hwf' hcb
    have g05 := (g02.trans g3).trans g5
    refine pops.nil ?_
    repeat (first | refine kthenP.n ?_ | refine kthenP.r ?_ | refine kthenP.e ?_ | refine kblockP.n ?_ | refine kblockP.r ?_ | refine kblockP.e ?_ | refine kblockP.o rfl ?_ | refine Runs.seq ?_ | refine Runs.region ?_ | refine Runs.block ?_ | refine Runs.cond ?_ | refine Runs.skip ?_ | refine Runs.loop ?_ | refine Runs.exit ?_ | refine Runs.ret ?_)
    refine pops.fl rfl rfl rfl rfl rfl ?_
    refine pops.load rfl rfl rfl rfl rfl (cload_of hc4 rfl) ?_
    refine pops.cmp rfl rfl rfl rfl rfl (fun q1 => ?_) (fun q1 => ?_)
    · have q1 := of_decide_eq_true q1
      repeat (first | refine pops.bin rfl rfl rfl rfl rfl rfl (cbin_inc (by omega)) ?_ | refine pops.fl rfl rfl rfl rfl rfl ?_ | refine pops.skip rfl rfl rfl ?_ | refine pops.load rfl rfl rfl rfl rfl (by first | assumption | exact cload_of (by assumption) rfl) ?_ | refine pops.len rfl rfl rfl rfl rfl rfl rfl rfl (by first | exact SlA.len (by assumption) rfl | exact SlI.len (by assumption) rfl | exact SlS.len (by assumption) rfl | exact Sl.len (by assumption) rfl) ?_)
      refine pops.nil ?_
      repeat (first | refine kthenP.n ?_ | refine kthenP.r ?_ | refine kthenP.e ?_ | refine kblockP.n ?_ | refine kblockP.r ?_ | refine kblockP.e ?_ | refine kblockP.o rfl ?_ | refine Runs.seq ?_ | refine Runs.region ?_ | refine Runs.block ?_ | refine Runs.cond ?_ | refine Runs.skip ?_ | refine Runs.loop ?_ | refine Runs.exit ?_ | refine Runs.ret ?_)
      refine pcond.t rfl ?_
      repeat (first | refine kthenP.n ?_ | refine kthenP.r ?_ | refine kthenP.e ?_ | refine kblockP.n ?_ | refine kblockP.r ?_ | refine kblockP.e ?_ | refine kblockP.o rfl ?_ | refine Runs.seq ?_ | refine Runs.region ?_ | refine Runs.block ?_ | refine Runs.cond ?_ | refine Runs.skip ?_ | refine Runs.loop ?_ | refine Runs.exit ?_ | refine Runs.ret ?_)
      repeat (first | refine pops.bin rfl rfl rfl rfl rfl rfl (cbin_inc (by omega)) ?_ | refine pops.fl rfl rfl rfl rfl rfl ?_ | refine pops.skip rfl rfl rfl ?_ | refine pops.load rfl rfl rfl rfl rfl (by first | assumption | exact cload_of (by assumption) rfl) ?_ | refine pops.len rfl rfl rfl rfl rfl rfl rfl rfl (by first | exact SlA.len (by assumption) rfl | exact SlI.len (by assumption) rfl | exact SlS.len (by assumption) rfl | exact Sl.len (by assumption) rfl) ?_)
      refine pops.nil ?_
      repeat (first | refine kthenP.n ?_ | refine kthenP.r ?_ | refine kthenP.e ?_ | refine kblockP.n ?_ | refine kblockP.r ?_ | refine kblockP.e ?_ | refine kblockP.o rfl ?_ | refine Runs.seq ?_ | refine Runs.region ?_ | refine Runs.block ?_ | refine Runs.cond ?_ | refine Runs.skip ?_ | refine Runs.loop ?_ | refine Runs.exit ?_ | refine Runs.ret ?_)
      refine pleave.r rfl ?_
      refine ⟨?_, g05⟩
      rw [bad (by unfold ruleOk; rw [decide_eq_false (by omega)]; rfl)]
      rfl
    have q1 := of_decide_eq_false q1
    refine pops.fl rfl rfl rfl rfl rfl ?_
    refine pops.fl rfl rfl rfl rfl rfl ?_
    refine pops.load rfl rfl rfl rfl rfl (cload_of hc4 rfl) ?_
    refine pops.cmp rfl rfl rfl rfl rfl (fun q2 => ?_) (fun q2 => ?_)
    · have q2 := of_decide_eq_true q2
      repeat (first | refine pops.bin rfl rfl rfl rfl rfl rfl (cbin_inc (by omega)) ?_ | refine pops.fl rfl rfl rfl rfl rfl ?_ | refine pops.skip rfl rfl rfl ?_ | refine pops.load rfl rfl rfl rfl rfl (by first | assumption | exact cload_of (by assumption) rfl) ?_ | refine pops.len rfl rfl rfl rfl rfl rfl rfl rfl (by first | exact SlA.len (by assumption) rfl | exact SlI.len (by assumption) rfl | exact SlS.len (by assumption) rfl | exact Sl.len (by assumption) rfl) ?_)
      refine pops.nil ?_
      repeat (first | refine kthenP.n ?_ | refine kthenP.r ?_ | refine kthenP.e ?_ | refine kblockP.n ?_ | refine kblockP.r ?_ | refine kblockP.e ?_ | refine kblockP.o rfl ?_ | refine Runs.seq ?_ | refine Runs.region ?_ | refine Runs.block ?_ | refine Runs.cond ?_ | refine Runs.skip ?_ | refine Runs.loop ?_ | refine Runs.exit ?_ | refine Runs.ret ?_)
      refine pcond.t rfl ?_
      repeat (first | refine kthenP.n ?_ | refine kthenP.r ?_ | refine kthenP.e ?_ | refine kblockP.n ?_ | refine kblockP.r ?_ | refine kblockP.e ?_ | refine kblockP.o rfl ?_ | refine Runs.seq ?_ | refine Runs.region ?_ | refine Runs.block ?_ | refine Runs.cond ?_ | refine Runs.skip ?_ | refine Runs.loop ?_ | refine Runs.exit ?_ | refine Runs.ret ?_)
      repeat (first | refine pops.bin rfl rfl rfl rfl rfl rfl (cbin_inc (by omega)) ?_ | refine pops.fl rfl rfl rfl rfl rfl ?_ | refine pops.skip rfl rfl rfl ?_ | refine pops.load rfl rfl rfl rfl rfl (by first | assumption | exact cload_of (by assumption) rfl) ?_ | refine pops.len rfl rfl rfl rfl rfl rfl rfl rfl (by first | exact SlA.len (by assumption) rfl | exact SlI.len (by assumption) rfl | exact SlS.len (by assumption) rfl | exact Sl.len (by assumption) rfl) ?_)
      refine pops.nil ?_
      repeat (first | refine kthenP.n ?_ | refine kthenP.r ?_ | refine kthenP.e ?_ | refine kblockP.n ?_ | refine kblockP.r ?_ | refine kblockP.e ?_ | refine kblockP.o rfl ?_ | refine Runs.seq ?_ | refine Runs.region ?_ | refine Runs.block ?_ | refine Runs.cond ?_ | refine Runs.skip ?_ | refine Runs.loop ?_ | refine Runs.exit ?_ | refine Runs.ret ?_)
      refine pleave.r rfl ?_
      refine ⟨?_, g05⟩
      rw [bad (by unfold ruleOk; rw [decide_eq_false (by omega)]; rfl)]
      rfl
    have q2 := of_decide_eq_false q2
    have hact : decide (1 ≤ q.action ∧ q.action ≤ 3) = true := decide_eq_true ⟨by omega, by omega⟩
    refine pops.fl rfl rfl rfl rfl rfl ?_
    refine pops.fl rfl rfl rfl rfl rfl ?_
    refine pops.fl rfl rfl rfl rfl rfl ?_
    refine pops.load rfl rfl rfl rfl rfl (cload_of hc4 rfl) ?_
    refine pops.fl rfl rfl rfl rfl rfl ?_
    refine pops.callG rfl rfl rfl rfl rfl fn_right28 rfl rfl rfl (right28_calls (n := (r.classes.length : Int)) (by omega) (by omega) 16 (by omega) hL) fun h5 hwf5 g6 => ?_
    replace hc4 := g6.at hwf4 hc4
    replace hL := hL.gr hwf4 g6
    replace hR := hR.gr hwf4 g6
    replace hcb := g6.at hwf4 hcb
    cases hv1 : patOk (r.classes.length : Int) 16 q.left with
    | false =>
      repeat (first | refine pops.bin rfl rfl rfl rfl rfl rfl (cbin_inc (by omega)) ?_ | refine pops.fl rfl rfl rfl rfl rfl ?_ | refine pops.skip rfl rfl rfl ?_ | refine pops.load rfl rfl rfl rfl rfl (by first | assumption | exact cload_of (by assumption) rfl) ?_ | refine pops.len rfl rfl rfl rfl rfl rfl rfl rfl (by first | exact SlA.len (by assumption) rfl | exact SlI.len (by assumption) rfl | exact SlS.len (by assumption) rfl | exact Sl.len (by assumption) rfl) ?_)
      refine pops.nil ?_
      repeat (first | refine kthenP.n ?_ | refine kthenP.r ?_ | refine kthenP.e ?_ | refine kblockP.n ?_ | refine kblockP.r ?_ | refine kblockP.e ?_ | refine kblockP.o rfl ?_ | refine Runs.seq ?_ | refine Runs.region ?_ | refine Runs.block ?_ | refine Runs.cond ?_ | refine Runs.skip ?_ | refine Runs.loop ?_ | refine Runs.exit ?_ | refine Runs.ret ?_)
      refine pcond.t rfl ?_
      repeat (first | refine kthenP.n ?_ | refine kthenP.r ?_ | refine kthenP.e ?_ | refine kblockP.n ?_ | refine kblockP.r ?_ | refine kblockP.e ?_ | refine kblockP.o rfl ?_ | refine Runs.seq ?_ | refine Runs.region ?_ | refine Runs.block ?_ | refine Runs.cond ?_ | refine Runs.skip ?_ | refine Runs.loop ?_ | refine Runs.exit ?_ | refine Runs.ret ?_)
      repeat (first | refine pops.bin rfl rfl rfl rfl rfl rfl (cbin_inc (by omega)) ?_ | refine pops.fl rfl rfl rfl rfl rfl ?_ | refine pops.skip rfl rfl rfl ?_ | refine pops.load rfl rfl rfl rfl rfl (by first | assumption | exact cload_of (by assumption) rfl) ?_ | refine pops.len rfl rfl rfl rfl rfl rfl rfl rfl (by first | exact SlA.len (by assumption) rfl | exact SlI.len (by assumption) rfl | exact SlS.len (by assumption) rfl | exact Sl.len (by assumption) rfl) ?_)
      refine pops.nil ?_
      repeat (first | refine kthenP.n ?_ | refine kthenP.r ?_ | refine kthenP.e ?_ | refine kblockP.n ?_ | refine kblockP.r ?_ | refine kblockP.e ?_ | refine kblockP.o rfl ?_ | refine Runs.seq ?_ | refine Runs.region ?_ | refine Runs.block ?_ | refine Runs.cond ?_ | refine Runs.skip ?_ | refine Runs.loop ?_ | refine Runs.exit ?_ | refine Runs.ret ?_)
      refine pleave.r rfl ?_
      refine ⟨?_, g05.trans g6⟩
      rw [bad (by unfold ruleOk; rw [hv1, Bool.and_false]; rfl)]
      rfl
    | true =>
    refine pops.fl rfl rfl rfl rfl rfl ?_
    refine pops.fl rfl rfl rfl rfl rfl ?_
    refine pops.fl rfl rfl rfl rfl rfl ?_
    refine pops.fl rfl rfl rfl rfl rfl ?_
    refine pops.load rfl rfl rfl rfl rfl (cload_of hc4 rfl) ?_
    refine pops.fl rfl rfl rfl rfl rfl ?_
    refine pops.callG rfl rfl rfl rfl rfl fn_right28 rfl rfl rfl (right28_calls (n := (r.classes.length : Int)) (by omega) (by omega) 16 (by omega) hR) fun h6 hwf6 g7 => ?_
    replace hc4 := g7.at hwf5 hc4
    replace hL := hL.gr hwf5 g7
    replace hR := hR.gr hwf5 g7
    replace hcb := g7.at hwf5 hcb
    cases hv2 : patOk (r.classes.length : Int) 16 q.right with
    | false =>
      repeat (first | refine pops.bin rfl rfl rfl rfl rfl rfl (cbin_inc (by omega)) ?_ | refine pops.fl rfl rfl rfl rfl rfl ?_ | refine pops.skip rfl rfl rfl ?_ | refine pops.load rfl rfl rfl rfl rfl (by first | assumption | exact cload_of (by assumption) rfl) ?_ | refine pops.len rfl rfl rfl rfl rfl rfl rfl rfl (by first | exact SlA.len (by assumption) rfl | exact SlI.len (by assumption) rfl | exact SlS.len (by assumption) rfl | exact Sl.len (by assumption) rfl) ?_)
      refine pops.nil ?_
      repeat (first | refine kthenP.n ?_ | refine kthenP.r ?_ | refine kthenP.e ?_ | refine kblockP.n ?_ | refine kblockP.r ?_ | refine kblockP.e ?_ | refine kblockP.o rfl ?_ | refine Runs.seq ?_ | refine Runs.region ?_ | refine Runs.block ?_ | refine Runs.cond ?_ | refine Runs.skip ?_ | refine Runs.loop ?_ | refine Runs.exit ?_ | refine Runs.ret ?_)
      refine pcond.t rfl ?_
      repeat (first | refine kthenP.n ?_ | refine kthenP.r ?_ | refine kthenP.e ?_ | refine kblockP.n ?_ | refine kblockP.r ?_ | refine kblockP.e ?_ | refine kblockP.o rfl ?_ | refine Runs.seq ?_ | refine Runs.region ?_ | refine Runs.block ?_ | refine Runs.cond ?_ | refine Runs.skip ?_ | refine Runs.loop ?_ | refine Runs.exit ?_ | refine Runs.ret ?_)
      repeat (first | refine pops.bin rfl rfl rfl rfl rfl rfl (cbin_inc (by omega)) ?_ | refine pops.fl rfl rfl rfl rfl rfl ?_ | refine pops.skip rfl rfl rfl ?_ | refine pops.load rfl rfl rfl rfl rfl (by first | assumption | exact cload_of (by assumption) rfl) ?_ | refine pops.len rfl rfl rfl rfl rfl rfl rfl rfl (by first | exact SlA.len (by assumption) rfl | exact SlI.len (by assumption) rfl | exact SlS.len (by assumption) rfl | exact Sl.len (by assumption) rfl) ?_)
      refine pops.nil ?_
      repeat (first | refine kthenP.n ?_ | refine kthenP.r ?_ | refine kthenP.e ?_ | refine kblockP.n ?_ | refine kblockP.r ?_ | refine kblockP.e ?_ | refine kblockP.o rfl ?_ | refine Runs.seq ?_ | refine Runs.region ?_ | refine Runs.block ?_ | refine Runs.cond ?_ | refine Runs.skip ?_ | refine Runs.loop ?_ | refine Runs.exit ?_ | refine Runs.ret ?_)
      refine pleave.r rfl ?_
      refine ⟨?_, (g05.trans g6).trans g7⟩
      rw [bad (by unfold ruleOk; rw [hv2, Bool.and_false])]
      rfl
    | true =>
    have hok : ruleOk r.classes.length q = true := by unfold ruleOk; rw [hact, hv1, hv2]; rfl
    repeat (first | refine pops.bin rfl rfl rfl rfl rfl rfl (cbin_inc (by omega)) ?_ | refine pops.fl rfl rfl rfl rfl rfl ?_ | refine pops.skip rfl rfl rfl ?_ | refine pops.load rfl rfl rfl rfl rfl (by first | assumption | exact cload_of (by assumption) rfl) ?_ | refine pops.len rfl rfl rfl rfl rfl rfl rfl rfl (by first | exact SlA.len (by assumption) rfl | exact SlI.len (by assumption) rfl | exact SlS.len (by assumption) rfl | exact Sl.len (by assumption) rfl) ?_)
    refine pops.nil ?_
    repeat (first | refine kthenP.n ?_ | refine kthenP.r ?_ | refine kthenP.e ?_ | refine kblockP.n ?_ | refine kblockP.r ?_ | refine kblockP.e ?_ | refine kblockP.o rfl ?_ | refine Runs.seq ?_ | refine Runs.region ?_ | refine Runs.block ?_ | refine Runs.cond ?_ | refine Runs.skip ?_ | refine Runs.loop ?_ | refine Runs.exit ?_ | refine Runs.ret ?_)
    refine pcond.f rfl ?_
    repeat (first | refine kthenP.n ?_ | refine kthenP.r ?_ | refine kthenP.e ?_ | refine kblockP.n ?_ | refine kblockP.r ?_ | refine kblockP.e ?_ | refine kblockP.o rfl ?_ | refine Runs.seq ?_ | refine Runs.region ?_ | refine Runs.block ?_ | refine Runs.cond ?_ | refine Runs.skip ?_ | refine Runs.loop ?_ | refine Runs.exit ?_ | refine Runs.ret ?_)
    refine PG.startA 11 2047 _ rfl rfl rfl rfl ?_
    refine PG.take (by decide +kernel) rfl rfl rfl rfl ?_
    refine PG.take (by decide +kernel) rfl rfl rfl rfl ?_
    refine PG.load (by decide +kernel) rfl rfl rfl rfl rfl (cload_of hc4 rfl) ?_
    refine PG.skip (by decide +kernel) ?_
    refine PG.skip (by decide +kernel) ?_
    refine PG.take (by decide +kernel) rfl rfl rfl rfl ?_
    refine PG.load (by decide +kernel) rfl rfl rfl rfl rfl (cload_of hc4 rfl) ?_
    repeat refine PG.skip (by decide +kernel) ?_
    refine PG.nil ?_
    refine pd1.callG 3 rfl (by kernel_rfl) rfl rfl rfl rfl rfl fn_Parts28 rfl rfl rfl (Parts28_calls 4000 4000 (by omega) (by omega) hL) fun h7 hwf7 g8 => ?_
    replace hc4 := g8.at hwf6 hc4
    replace hR := hR.gr hwf6 g8
    replace hcb := g8.at hwf6 hcb
    have hb1 : partsM 4000 q.left ≤ 4001 := by unfold partsM; omega
    have hb2' : partsM 4000 q.right ≤ 4001 := by unfold partsM; omega
    refine ⟨_, by (repeat (first | exact Reck.nil | (apply Reck.dropI; decide +kernel) | (apply Reck.keep; rfl) | (apply Reck.load; rfl; rfl; exact cload_of hc4 rfl))), ?_⟩
    repeat refine PG.skip (by decide +kernel) ?_
    refine PG.take (by decide +kernel) rfl rfl rfl (cbin_addN (T := tab) (h := h7) (t := 3) (xo := .tmp 48) (yo := .tmp 51) (n := m) (m := partsM 4000 q.left) (by omega)) ?_
    repeat refine PG.skip (by decide +kernel) ?_
    refine PG.nil ?_
    refine pd1.callG 7 rfl (by kernel_rfl) rfl rfl rfl rfl rfl fn_Parts28 rfl rfl rfl (Parts28_calls 4000 4000 (by omega) (by omega) hR) fun h8 hwf8 g9 => ?_
    replace hcb := g9.at hwf7 hcb
    refine ⟨_, by (apply Reck.same; exact cbin_addN (T := tab) (h := h8) (t := 3) (xo := .tmp 48) (yo := .tmp 51) (n := m) (m := partsM 4000 q.left) (by omega); (repeat (first | exact Reck.nil | (apply Reck.dropI; decide +kernel) | (apply Reck.keep; rfl) | (apply Reck.load; rfl; rfl; first | assumption | exact cload_of (by assumption) rfl) | (apply Reck.same; rfl) | (apply Reck.inc; rfl; rfl; rfl; omega)))), ?_⟩
    repeat refine PG.skip (by decide +kernel) ?_
    refine PG.take (by decide +kernel) rfl rfl rfl (cbin_addN (T := tab) (h := h8) (t := 3) (xo := .tmp 52) (yo := .tmp 55) (n := m + partsM 4000 q.left) (m := partsM 4000 q.right) (by omega)) ?_
    refine PG.take (by decide +kernel) rfl rfl rfl (cblt_min (T := tab) (h := h8) (ts := [3, 3]) (a := m + partsM 4000 q.left + partsM 4000 q.right) (b := 8000)) ?_
    refine PG.take (by decide +kernel) rfl rfl rfl rfl ?_
    refine PG.nil ?_
    refine pd1.finA (by kernel_rfl) (by decide +kernel) ?_
    repeat (first | refine kthenP.n ?_ | refine kthenP.r ?_ | refine kthenP.e ?_ | refine kblockP.n ?_ | refine kblockP.r ?_ | refine kblockP.e ?_ | refine kblockP.o rfl ?_ | refine Runs.seq ?_ | refine Runs.region ?_ | refine Runs.block ?_ | refine Runs.cond ?_ | refine Runs.skip ?_ | refine Runs.loop ?_ | refine Runs.exit ?_ | refine Runs.ret ?_)
    repeat (first | refine pops.bin rfl rfl rfl rfl rfl rfl (cbin_inc (by omega)) ?_ | refine pops.fl rfl rfl rfl rfl rfl ?_ | refine pops.skip rfl rfl rfl ?_ | refine pops.load rfl rfl rfl rfl rfl (by first | assumption | exact cload_of (by assumption) rfl) ?_ | refine pops.len rfl rfl rfl rfl rfl rfl rfl rfl (by first | exact SlA.len (by assumption) rfl | exact SlI.len (by assumption) rfl | exact SlS.len (by assumption) rfl | exact Sl.len (by assumption) rfl) ?_)
    refine pops.nil ?_
    refine .n ⟨_, (i + 1, min (m + partsM 4000 q.left + partsM 4000 q.right) 8000), rfl, ⟨rfl, rfl, rfl, rfl, rfl, trivial⟩, (by show r.rules.length - (i + 1) < r.rules.length - i; omega), by omega, ((g3.trans g5).trans (g6.trans g7)).trans (g8.trans g9), all_next hall hq hok, Nat.min_le_right _ _, ?_, ?_⟩
    · show min (m + partsM 4000 q.left + partsM 4000 q.right) 8000 ≤ 4000 → min (m + partsM 4000 q.left + partsM 4000 q.right) 8000 = partsR (r.rules.take (i + 1))
      rw [hpt]
      intro hle
      have k1 : partsM 4000 q.left = min (partsOf q.left) 4001 := rfl
      have k2 : partsM 4000 q.right = min (partsOf q.right) 4001 := rfl
      have := hm2 (by omega)
      omega
    · show 4000 < min (m + partsM 4000 q.left + partsM 4000 q.right) 8000 → 4000 < partsR (r.rules.take (i + 1))
      rw [hpt]
      intro hle
      have k1 : partsM 4000 q.left = min (partsOf q.left) 4001 := rfl
      have k2 : partsM 4000 q.right = min (partsOf q.right) 4001 := rfl
      rcases Nat.lt_or_ge 4000 m with h9 | h9
      · have := hm3 h9
        omega
      · have := hm2 h9
        omega
  · repeat (first | refine kthenP.n ?_ | refine kthenP.r ?_ | refine kthenP.e ?_ | refine kblockP.n ?_ | refine kblockP.r ?_ | refine kblockP.e ?_ | refine kblockP.o rfl ?_ | refine Runs.seq ?_ | refine Runs.region ?_ | refine Runs.block ?_ | refine Runs.cond ?_ | refine Runs.skip ?_ | refine Runs.loop ?_ | refine Runs.exit ?_ | refine Runs.ret ?_)
    have hi' : i = r.rules.length := by omega
    subst hi'
    have hall' : r.rules.all (ruleOk r.classes.length) = true := List.all_eq_true.2 (all_end hall (Nat.le_refl _))
    rw [List.take_length] at hm2 hm3
    rw [hall']
    simp only [cond_true]
    repeat (first | refine pops.bin rfl rfl rfl rfl rfl rfl (cbin_inc (by omega)) ?_ | refine pops.fd rfl rfl rfl rfl rfl rfl ?_ | refine pops.skip rfl rfl rfl ?_ | refine pops.load rfl rfl rfl rfl rfl (by first | assumption | exact cload_of (by assumption) rfl) ?_ | refine pops.len rfl rfl rfl rfl rfl rfl rfl rfl (by first | exact SlA.len (by assumption) rfl | exact SlI.len (by assumption) rfl | exact SlS.len (by assumption) rfl | exact Sl.len (by assumption) rfl) ?_)
    refine pops.cmp rfl rfl rfl rfl rfl (fun q1 => ?_) (fun q1 => ?_)
    · have q1 := of_decide_eq_true q1
      repeat (first | refine pops.bin rfl rfl rfl rfl rfl rfl (cbin_inc (by omega)) ?_ | refine pops.fl rfl rfl rfl rfl rfl ?_ | refine pops.skip rfl rfl rfl ?_ | refine pops.load rfl rfl rfl rfl rfl (by first | assumption | exact cload_of (by assumption) rfl) ?_ | refine pops.len rfl rfl rfl rfl rfl rfl rfl rfl (by first | exact SlA.len (by assumption) rfl | exact SlI.len (by assumption) rfl | exact SlS.len (by assumption) rfl | exact Sl.len (by assumption) rfl) ?_)
      refine pops.nil ?_
      repeat (first | refine kthenP.n ?_ | refine kthenP.r ?_ | refine kthenP.e ?_ | refine kblockP.n ?_ | refine kblockP.r ?_ | refine kblockP.e ?_ | refine kblockP.o rfl ?_ | refine Runs.seq ?_ | refine Runs.region ?_ | refine Runs.block ?_ | refine Runs.cond ?_ | refine Runs.skip ?_ | refine Runs.loop ?_ | refine Runs.exit ?_ | refine Runs.ret ?_)
      refine pcond.t rfl ?_
      repeat (first | refine kthenP.n ?_ | refine kthenP.r ?_ | refine kthenP.e ?_ | refine kblockP.n ?_ | refine kblockP.r ?_ | refine kblockP.e ?_ | refine kblockP.o rfl ?_ | refine Runs.seq ?_ | refine Runs.region ?_ | refine Runs.block ?_ | refine Runs.cond ?_ | refine Runs.skip ?_ | refine Runs.loop ?_ | refine Runs.exit ?_ | refine Runs.ret ?_)
      repeat (first | refine pops.bin rfl rfl rfl rfl rfl rfl (cbin_inc (by omega)) ?_ | refine pops.fl rfl rfl rfl rfl rfl ?_ | refine pops.skip rfl rfl rfl ?_ | refine pops.load rfl rfl rfl rfl rfl (by first | assumption | exact cload_of (by assumption) rfl) ?_ | refine pops.len rfl rfl rfl rfl rfl rfl rfl rfl (by first | exact SlA.len (by assumption) rfl | exact SlI.len (by assumption) rfl | exact SlS.len (by assumption) rfl | exact Sl.len (by assumption) rfl) ?_)
      refine pops.nil ?_
      repeat (first | refine kthenP.n ?_ | refine kthenP.r ?_ | refine kthenP.e ?_ | refine kblockP.n ?_ | refine kblockP.r ?_ | refine kblockP.e ?_ | refine kblockP.o rfl ?_ | refine Runs.seq ?_ | refine Runs.region ?_ | refine Runs.block ?_ | refine Runs.cond ?_ | refine Runs.skip ?_ | refine Runs.loop ?_ | refine Runs.exit ?_ | refine Runs.ret ?_)
      refine pleave.r rfl ?_
      refine ⟨?_, g02.trans g3⟩
      rw [decide_eq_false (by omega)]
      rfl
    have q1 := of_decide_eq_false q1
    repeat (first | refine pops.bin rfl rfl rfl rfl rfl rfl (cbin_inc (by omega)) ?_ | refine pops.fd rfl rfl rfl rfl rfl rfl ?_ | refine pops.skip rfl rfl rfl ?_ | refine pops.load rfl rfl rfl rfl rfl (by first | assumption | exact cload_of (by assumption) rfl) ?_ | refine pops.len rfl rfl rfl rfl rfl rfl rfl rfl (by first | exact SlA.len (by assumption) rfl | exact SlI.len (by assumption) rfl | exact SlS.len (by assumption) rfl | exact Sl.len (by assumption) rfl) ?_)
    refine pops.cmp rfl rfl rfl rfl rfl (fun q2 => ?_) (fun q2 => ?_)
    · have q2 : ((m : Nat) : Int) > 4000 := of_decide_eq_true q2
      have := hm3 (by omega)
      repeat (first | refine pops.bin rfl rfl rfl rfl rfl rfl (cbin_inc (by omega)) ?_ | refine pops.fl rfl rfl rfl rfl rfl ?_ | refine pops.skip rfl rfl rfl ?_ | refine pops.load rfl rfl rfl rfl rfl (by first | assumption | exact cload_of (by assumption) rfl) ?_ | refine pops.len rfl rfl rfl rfl rfl rfl rfl rfl (by first | exact SlA.len (by assumption) rfl | exact SlI.len (by assumption) rfl | exact SlS.len (by assumption) rfl | exact Sl.len (by assumption) rfl) ?_)
      refine pops.nil ?_
      repeat (first | refine kthenP.n ?_ | refine kthenP.r ?_ | refine kthenP.e ?_ | refine kblockP.n ?_ | refine kblockP.r ?_ | refine kblockP.e ?_ | refine kblockP.o rfl ?_ | refine Runs.seq ?_ | refine Runs.region ?_ | refine Runs.block ?_ | refine Runs.cond ?_ | refine Runs.skip ?_ | refine Runs.loop ?_ | refine Runs.exit ?_ | refine Runs.ret ?_)
      refine pcond.t rfl ?_
      repeat (first | refine kthenP.n ?_ | refine kthenP.r ?_ | refine kthenP.e ?_ | refine kblockP.n ?_ | refine kblockP.r ?_ | refine kblockP.e ?_ | refine kblockP.o rfl ?_ | refine Runs.seq ?_ | refine Runs.region ?_ | refine Runs.block ?_ | refine Runs.cond ?_ | refine Runs.skip ?_ | refine Runs.loop ?_ | refine Runs.exit ?_ | refine Runs.ret ?_)
      repeat (first | refine pops.bin rfl rfl rfl rfl rfl rfl (cbin_inc (by omega)) ?_ | refine pops.fl rfl rfl rfl rfl rfl ?_ | refine pops.skip rfl rfl rfl ?_ | refine pops.load rfl rfl rfl rfl rfl (by first | assumption | exact cload_of (by assumption) rfl) ?_ | refine pops.len rfl rfl rfl rfl rfl rfl rfl rfl (by first | exact SlA.len (by assumption) rfl | exact SlI.len (by assumption) rfl | exact SlS.len (by assumption) rfl | exact Sl.len (by assumption) rfl) ?_)
      refine pops.nil ?_
      repeat (first | refine kthenP.n ?_ | refine kthenP.r ?_ | refine kthenP.e ?_ | refine kblockP.n ?_ | refine kblockP.r ?_ | refine kblockP.e ?_ | refine kblockP.o rfl ?_ | refine Runs.seq ?_ | refine Runs.region ?_ | refine Runs.block ?_ | refine Runs.cond ?_ | refine Runs.skip ?_ | refine Runs.loop ?_ | refine Runs.exit ?_ | refine Runs.ret ?_)
      refine pleave.r rfl ?_
      refine ⟨?_, g02.trans g3⟩
      rw [decide_eq_true (show r.rules.length ≤ 100 by omega), decide_eq_false (show ¬ partsR r.rules ≤ 4000 by omega)]
      rfl
    have q2 : ¬ ((m : Nat) : Int) > 4000 := of_decide_eq_false q2
    have := hm2 (by omega)
    repeat (first | refine pops.bin rfl rfl rfl rfl rfl rfl (cbin_inc (by omega)) ?_ | refine pops.fl rfl rfl rfl rfl rfl ?_ | refine pops.skip rfl rfl rfl ?_ | refine pops.load rfl rfl rfl rfl rfl (by first | assumption | exact cload_of (by assumption) rfl) ?_ | refine pops.len rfl rfl rfl rfl rfl rfl rfl rfl (by first | exact SlA.len (by assumption) rfl | exact SlI.len (by assumption) rfl | exact SlS.len (by assumption) rfl | exact Sl.len (by assumption) rfl) ?_)
    refine pops.nil ?_
    repeat (first | refine kthenP.n ?_ | refine kthenP.r ?_ | refine kthenP.e ?_ | refine kblockP.n ?_ | refine kblockP.r ?_ | refine kblockP.e ?_ | refine kblockP.o rfl ?_ | refine Runs.seq ?_ | refine Runs.region ?_ | refine Runs.block ?_ | refine Runs.cond ?_ | refine Runs.skip ?_ | refine Runs.loop ?_ | refine Runs.exit ?_ | refine Runs.ret ?_)
    refine pcond.f rfl ?_
    repeat (first | refine kthenP.n ?_ | refine kthenP.r ?_ | refine kthenP.e ?_ | refine kblockP.n ?_ | refine kblockP.r ?_ | refine kblockP.e ?_ | refine kblockP.o rfl ?_ | refine Runs.seq ?_ | refine Runs.region ?_ | refine Runs.block ?_ | refine Runs.cond ?_ | refine Runs.skip ?_ | refine Runs.loop ?_ | refine Runs.exit ?_ | refine Runs.ret ?_)
    repeat (first | refine pops.bin rfl rfl rfl rfl rfl rfl (cbin_inc (by omega)) ?_ | refine pops.fl rfl rfl rfl rfl rfl ?_ | refine pops.skip rfl rfl rfl ?_ | refine pops.load rfl rfl rfl rfl rfl (by first | assumption | exact cload_of (by assumption) rfl) ?_ | refine pops.len rfl rfl rfl rfl rfl rfl rfl rfl (by first | exact SlA.len (by assumption) rfl | exact SlI.len (by assumption) rfl | exact SlS.len (by assumption) rfl | exact Sl.len (by assumption) rfl) ?_)
    refine pops.nil ?_
    repeat (first | refine kthenP.n ?_ | refine kthenP.r ?_ | refine kthenP.e ?_ | refine kblockP.n ?_ | refine kblockP.r ?_ | refine kblockP.e ?_ | refine kblockP.o rfl ?_ | refine Runs.seq ?_ | refine Runs.region ?_ | refine Runs.block ?_ | refine Runs.cond ?_ | refine Runs.skip ?_ | refine Runs.loop ?_ | refine Runs.exit ?_ | refine Runs.ret ?_)
    refine pleave.r rfl ?_
    refine ⟨?_, g02.trans g3⟩
    rw [decide_eq_true (show r.rules.length ≤ 100 by omega), decide_eq_true (show partsR r.rules ≤ 4000 by omega)]
    rfl
end Go.Proofs.YtnchhgjoiboibaaGreatDoor
