/- Walks through the functions that the statement reaches, and the statement. Conditions: none. -/
import Derived.Test.YtnchhgjoiboibaaGreatDoorProg
import Derived.Test.YtnchhgjoiboibaaGreatDoorCxD
import Derived.Laws.Externs
import Derived.KernelRfl
import Derived.Test.YtnchhgjoiboibaaGreatDoorCxE
set_option maxRecDepth 100000
set_option linter.unusedVariables false
set_option linter.unusedSimpArgs false
namespace Go.Proofs.YtnchhgjoiboibaaGreatDoor
open Go.Cx
noncomputable def extT (f : FuncId) : Option (Array Value → Sem Value) := cond (Nat.beq f 70) (some Extern.BytealgCount.count) (cond (Nat.beq f 102) (some Extern.BytealgIndexByte.indexByte) none)
noncomputable def plainT (t : TypeId) : Bool := Nat.beq t 38 || Nat.beq t 87
noncomputable def tab : Tab := tabOf Tryz.prog 400 400 extT plainT
theorem extT_ok : ∀ f s, extT f = some s → ∀ args w, (callFunc f args).run Tryz.prog w = ((s args).run Tryz.prog w).andThen fun v w => .ok (.value v) w := by
  intro f s hs args w
  unfold extT at hs
  cases h1 : Nat.beq f 70 with
  | true =>
    rw [h1, cond_true] at hs
    cases hs
    cases Nat.eq_of_beq_eq_true h1
    exact run_callFunc_extern (fn := Tryz.f70) (by kernel_rfl) (by kernel_rfl) (by kernel_rfl) (by kernel_rfl) (by kernel_rfl) args w
  | false =>
    rw [h1, cond_false] at hs
    cases h2 : Nat.beq f 102 with
    | true =>
      rw [h2, cond_true] at hs
      cases hs
      cases Nat.eq_of_beq_eq_true h2
      exact run_callFunc_extern (fn := Tryz.f102) (by kernel_rfl) (by kernel_rfl) (by kernel_rfl) (by kernel_rfl) (by kernel_rfl) args w
    | false =>
      rw [h2, cond_false] at hs
      cases hs
theorem plainT_ok : ∀ t, plainT t = true → Tryz.prog.eqGuardType Tryz.prog.depth t = false ∧ Tryz.prog.stoodInHeld t = false := by
  intro t ht
  unfold plainT at ht
  rw [Bool.or_eq_true] at ht
  rcases ht with ht | ht
  · cases Nat.eq_of_beq_eq_true ht
    exact ⟨by kernel_rfl, by kernel_rfl⟩
  · cases Nat.eq_of_beq_eq_true ht
    exact ⟨by kernel_rfl, by kernel_rfl⟩
theorem tab_ok : TabOk Tryz.prog tab := tabOk_of (by kernel_rfl) (by kernel_rfl) (by kernel_rfl) extT_ok plainT_ok
noncomputable def X (w : World) : Cxt := ⟨Tryz.prog, tab, w.heap.size, w, tab_ok⟩
end Go.Proofs.YtnchhgjoiboibaaGreatDoor

set_option maxRecDepth 100000
set_option linter.unusedVariables false
set_option linter.unusedSimpArgs false
namespace Go.Proofs.YtnchhgjoiboibaaGreatDoor
open Go.Cx
theorem awake_runs : closedTrue tab 1000 60 5 = true := by kernel_rfl
theorem awake_true (w : World) : Calls Tryz.prog 5 #[] w fun en w' => en = .returned (.bool true) ∧ Go.RowKit.Below w.heap.size w w' := closed_sound tab_ok awake_runs w
theorem fn_awake : tab.fn 5 = some Tryz.f5 := by kernel_rfl
theorem awake_calls {w : World} {h : CH} : CalF (X w) 5 [] h fun r h' => r = .ret (.bool true) ∧ Gr h h' :=
  (CalF.closed (X := X w) fun w => awake_true w).mono fun r h' hh => ⟨hh.1, hh.2 ▸ Gr.refl h⟩
end Go.Proofs.YtnchhgjoiboibaaGreatDoor

set_option maxRecDepth 100000
set_option linter.unusedVariables false
set_option linter.unusedSimpArgs false
namespace Go.Proofs.YtnchhgjoiboibaaGreatDoor
open Go.Cx
variable {w : World} {h : CH}

theorem fn_letter : tab.fn 49 = some Tryz.f49 := by kernel_rfl
theorem letter_calls (c : Int) : CalF (X w) 49 [.int .u8 c] h fun r h' => r = .ret (.bool (letterB c)) ∧ Gr h h' := by
  refine CalF.intro fn_letter rfl (Nat.le_of_ble_eq_true rfl) ?_
  repeat (first | refine kthenP.n ?_ | refine kthenP.r ?_ | refine kthenP.e ?_ | refine kblockP.n ?_ | refine kblockP.r ?_ | refine kblockP.e ?_ | refine kblockP.o rfl ?_ | refine Runs.seq ?_ | refine Runs.region ?_ | refine Runs.block ?_ | refine Runs.cond ?_ | refine Runs.skip ?_ | refine Runs.loop ?_ | refine Runs.exit ?_ | refine Runs.ret ?_)
  refine pops.fl rfl rfl rfl rfl rfl ?_
  refine pops.nil ?_
  repeat (first | refine kthenP.n ?_ | refine kthenP.r ?_ | refine kthenP.e ?_ | refine kblockP.n ?_ | refine kblockP.r ?_ | refine kblockP.e ?_ | refine kblockP.o rfl ?_ | refine Runs.seq ?_ | refine Runs.region ?_ | refine Runs.block ?_ | refine Runs.cond ?_ | refine Runs.skip ?_ | refine Runs.loop ?_ | refine Runs.exit ?_ | refine Runs.ret ?_)
  repeat' (first | refine pops.cmp rfl rfl rfl rfl rfl (fun _ => ?_) (fun _ => ?_) | refine pops.fl rfl rfl rfl rfl rfl ?_ | refine pops.skip rfl rfl rfl ?_)
  all_goals (refine pops.nil ?_)
  all_goals (repeat (first | refine kthenP.n ?_ | refine kthenP.r ?_ | refine kthenP.e ?_ | refine kblockP.n ?_ | refine kblockP.r ?_ | refine kblockP.e ?_ | refine kblockP.o rfl ?_ | refine Runs.seq ?_ | refine Runs.region ?_ | refine Runs.block ?_ | refine Runs.cond ?_ | refine Runs.skip ?_ | refine Runs.loop ?_ | refine Runs.exit ?_ | refine Runs.ret ?_))
  all_goals (refine pleave.r rfl ?_)
  all_goals (refine ⟨?_, Gr.refl h⟩)
  all_goals (congr 2; simp_all [letterB]; try omega)

theorem cindex_str {T : Tab} {t : TypeId} {s : ByteArray} {i : Nat} {c : UInt8} (hu : T.und t = some .string) (hc : s.data.toList[i]? = some c) : cindex T t (.string s) (.int .i64 (i : Int)) = some (.int .u8 c.toNat) := by
  unfold cindex
  simp only [hu, natOf_cast, Option.bind_some, lget_eq, hc, Option.map_some]
theorem fn_named : tab.fn 27 = some Tryz.f27 := by kernel_rfl
theorem named_calls (s : ByteArray) (hl : s.data.toList.length < 9223372036854775808) : CalF (X w) 27 [.string s] h fun r h' => r = .ret (.bool (namedB s)) ∧ Gr h h' := by
  refine CalF.intro fn_named rfl (Nat.le_of_ble_eq_true rfl) ?_
  repeat (first | refine kthenP.n ?_ | refine kthenP.r ?_ | refine kthenP.e ?_ | refine kblockP.n ?_ | refine kblockP.r ?_ | refine kblockP.e ?_ | refine kblockP.o rfl ?_ | refine Runs.seq ?_ | refine Runs.region ?_ | refine Runs.block ?_ | refine Runs.cond ?_ | refine Runs.skip ?_ | refine Runs.loop ?_ | refine Runs.exit ?_ | refine Runs.ret ?_)
  refine pops.fl rfl rfl rfl rfl rfl ?_
  refine pops.nil ?_
  repeat (first | refine kthenP.n ?_ | refine kthenP.r ?_ | refine kthenP.e ?_ | refine kblockP.n ?_ | refine kblockP.r ?_ | refine kblockP.e ?_ | refine kblockP.o rfl ?_ | refine Runs.seq ?_ | refine Runs.region ?_ | refine Runs.block ?_ | refine Runs.cond ?_ | refine Runs.skip ?_ | refine Runs.loop ?_ | refine Runs.exit ?_ | refine Runs.ret ?_)
  refine pops.fl rfl rfl rfl rfl rfl ?_
  refine pops.fl rfl rfl rfl rfl rfl ?_
  refine pops.fl rfl rfl rfl rfl rfl ?_
  refine pops.nil ?_
  repeat (first | refine kthenP.n ?_ | refine kthenP.r ?_ | refine kthenP.e ?_ | refine kblockP.n ?_ | refine kblockP.r ?_ | refine kblockP.e ?_ | refine kblockP.o rfl ?_ | refine Runs.seq ?_ | refine Runs.region ?_ | refine Runs.block ?_ | refine Runs.cond ?_ | refine Runs.skip ?_ | refine Runs.loop ?_ | refine Runs.exit ?_ | refine Runs.ret ?_)
  refine Loops.ind 5 (fun i : Nat => [(0, .string s), (2, .bool false), (5, .int .i64 (s.data.toList.length : Nat)), (6, .int .i64 (i : Nat))])
    (fun i h' => i ≤ s.data.toList.length ∧ Gr h h' ∧ ∀ j c, j < i → s.data.toList[j]? = some c → letterB c.toNat = true) (fun i => s.data.toList.length - i) 0 (by decide) ⟨rfl, rfl, rfl, rfl, trivial⟩ ⟨Nat.zero_le _, Gr.refl h, fun j x hj => absurd hj (Nat.not_lt_zero j)⟩ ?_
  intro i z h' hwf' ⟨hi, hg, hall⟩
  repeat (first | refine kthenP.n ?_ | refine kthenP.r ?_ | refine kthenP.e ?_ | refine kblockP.n ?_ | refine kblockP.r ?_ | refine kblockP.e ?_ | refine kblockP.o rfl ?_ | refine Runs.seq ?_ | refine Runs.region ?_ | refine Runs.block ?_ | refine Runs.cond ?_ | refine Runs.skip ?_ | refine Runs.loop ?_ | refine Runs.exit ?_ | refine Runs.ret ?_)
  refine pops.fl rfl rfl rfl rfl rfl ?_
  refine pops.nil ?_
  repeat (first | refine kthenP.n ?_ | refine kthenP.r ?_ | refine kthenP.e ?_ | refine kblockP.n ?_ | refine kblockP.r ?_ | refine kblockP.e ?_ | refine kblockP.o rfl ?_ | refine Runs.seq ?_ | refine Runs.region ?_ | refine Runs.block ?_ | refine Runs.cond ?_ | refine Runs.skip ?_ | refine Runs.loop ?_ | refine Runs.exit ?_ | refine Runs.ret ?_)
  refine pcond.d (p := (i : Int) < (s.data.toList.length : Nat)) rfl (fun hlt => ?_) (fun hge => ?_)
  · have hlt : i < s.data.toList.length := by omega
    repeat (first | refine kthenP.n ?_ | refine kthenP.r ?_ | refine kthenP.e ?_ | refine kblockP.n ?_ | refine kblockP.r ?_ | refine kblockP.e ?_ | refine kblockP.o rfl ?_ | refine Runs.seq ?_ | refine Runs.region ?_ | refine Runs.block ?_ | refine Runs.cond ?_ | refine Runs.skip ?_ | refine Runs.loop ?_ | refine Runs.exit ?_ | refine Runs.ret ?_)
    refine pops.fl rfl rfl rfl rfl rfl ?_
    refine pops.fl rfl rfl rfl rfl rfl ?_
    refine pops.nil ?_
    repeat (first | refine kthenP.n ?_ | refine kthenP.r ?_ | refine kthenP.e ?_ | refine kblockP.n ?_ | refine kblockP.r ?_ | refine kblockP.e ?_ | refine kblockP.o rfl ?_ | refine Runs.seq ?_ | refine Runs.region ?_ | refine Runs.block ?_ | refine Runs.cond ?_ | refine Runs.skip ?_ | refine Runs.loop ?_ | refine Runs.exit ?_ | refine Runs.ret ?_)
    refine pops.fl rfl rfl rfl rfl rfl ?_
    refine pops.fl rfl rfl rfl rfl rfl ?_
    obtain ⟨c, hc⟩ : ∃ c, s.data.toList[i]? = some c := ⟨_, List.getElem?_eq_getElem hlt⟩
    refine pops.index rfl rfl rfl rfl rfl rfl (v := .int .u8 c.toNat) (cindex_str rfl hc) ?_
    refine pops.callV rfl rfl rfl rfl rfl fn_letter rfl rfl ((letter_calls (c.toNat : Int)).mono fun r h'' hh => ⟨_, hh.1, ?_⟩)
    cases hlc : letterB c.toNat with
    | true =>
      refine pops.fl rfl rfl rfl rfl rfl ?_
      refine pops.nil ?_
      repeat (first | refine kthenP.n ?_ | refine kthenP.r ?_ | refine kthenP.e ?_ | refine kblockP.n ?_ | refine kblockP.r ?_ | refine kblockP.e ?_ | refine kblockP.o rfl ?_ | refine Runs.seq ?_ | refine Runs.region ?_ | refine Runs.block ?_ | refine Runs.cond ?_ | refine Runs.skip ?_ | refine Runs.loop ?_ | refine Runs.exit ?_ | refine Runs.ret ?_)
      refine pcond.f rfl ?_
      repeat (first | refine kthenP.n ?_ | refine kthenP.r ?_ | refine kthenP.e ?_ | refine kblockP.n ?_ | refine kblockP.r ?_ | refine kblockP.e ?_ | refine kblockP.o rfl ?_ | refine Runs.seq ?_ | refine Runs.region ?_ | refine Runs.block ?_ | refine Runs.cond ?_ | refine Runs.skip ?_ | refine Runs.loop ?_ | refine Runs.exit ?_ | refine Runs.ret ?_)
      refine pops.bin rfl rfl rfl rfl rfl rfl (cbin_inc (by omega)) ?_
      refine pops.fl rfl rfl rfl rfl rfl ?_
      refine pops.nil ?_
      refine .n ⟨_, i + 1, rfl, ⟨rfl, rfl, rfl, rfl, trivial⟩, (by show s.data.toList.length - (i + 1) < s.data.toList.length - i; omega), by omega, hg.trans hh.2, fun j y hj hy => ?_⟩
      rcases Nat.lt_or_ge j i with h1 | h1
      · exact hall j y h1 hy
      · obtain rfl : j = i := by omega
        rw [hc] at hy; cases hy; exact hlc
    | false =>
      refine pops.fl rfl rfl rfl rfl rfl ?_
      refine pops.nil ?_
      repeat (first | refine kthenP.n ?_ | refine kthenP.r ?_ | refine kthenP.e ?_ | refine kblockP.n ?_ | refine kblockP.r ?_ | refine kblockP.e ?_ | refine kblockP.o rfl ?_ | refine Runs.seq ?_ | refine Runs.region ?_ | refine Runs.block ?_ | refine Runs.cond ?_ | refine Runs.skip ?_ | refine Runs.loop ?_ | refine Runs.exit ?_ | refine Runs.ret ?_)
      refine pcond.t rfl ?_
      repeat (first | refine kthenP.n ?_ | refine kthenP.r ?_ | refine kthenP.e ?_ | refine kblockP.n ?_ | refine kblockP.r ?_ | refine kblockP.e ?_ | refine kblockP.o rfl ?_ | refine Runs.seq ?_ | refine Runs.region ?_ | refine Runs.block ?_ | refine Runs.cond ?_ | refine Runs.skip ?_ | refine Runs.loop ?_ | refine Runs.exit ?_ | refine Runs.ret ?_)
      refine pops.fl rfl rfl rfl rfl rfl ?_
      refine pops.nil ?_
      repeat (first | refine kthenP.n ?_ | refine kthenP.r ?_ | refine kthenP.e ?_ | refine kblockP.n ?_ | refine kblockP.r ?_ | refine kblockP.e ?_ | refine kblockP.o rfl ?_ | refine Runs.seq ?_ | refine Runs.region ?_ | refine Runs.block ?_ | refine Runs.cond ?_ | refine Runs.skip ?_ | refine Runs.loop ?_ | refine Runs.exit ?_ | refine Runs.ret ?_)
      refine pleave.r rfl ?_
      refine ⟨?_, hg.trans hh.2⟩
      congr 2
      have : (s.data.toList.all fun c => letterB c.toNat) = false := by
        rw [List.all_eq_false]
        exact ⟨c, List.mem_of_getElem? hc, by simp [hlc]⟩
      unfold namedB
      rw [this]
      rfl
  · repeat (first | refine kthenP.n ?_ | refine kthenP.r ?_ | refine kthenP.e ?_ | refine kblockP.n ?_ | refine kblockP.r ?_ | refine kblockP.e ?_ | refine kblockP.o rfl ?_ | refine Runs.seq ?_ | refine Runs.region ?_ | refine Runs.block ?_ | refine Runs.cond ?_ | refine Runs.skip ?_ | refine Runs.loop ?_ | refine Runs.exit ?_ | refine Runs.ret ?_)
    have hi' : i = s.data.toList.length := by omega
    have hA : (s.data.toList.all fun c => letterB c.toNat) = true := by
      rw [List.all_eq_true]
      intro c hc
      obtain ⟨j, hj⟩ := List.mem_iff_getElem?.1 hc
      exact hall j c (by have := (List.getElem?_eq_some_iff.1 hj).1; omega) hj
    repeat' (first | refine pops.cmp rfl rfl rfl rfl rfl (fun _ => ?_) (fun _ => ?_) | refine pops.fl rfl rfl rfl rfl rfl ?_ | refine pops.skip rfl rfl rfl ?_)
    all_goals (refine pops.nil ?_)
    all_goals (repeat (first | refine kthenP.n ?_ | refine kthenP.r ?_ | refine kthenP.e ?_ | refine kblockP.n ?_ | refine kblockP.r ?_ | refine kblockP.e ?_ | refine kblockP.o rfl ?_ | refine Runs.seq ?_ | refine Runs.region ?_ | refine Runs.block ?_ | refine Runs.cond ?_ | refine Runs.skip ?_ | refine Runs.loop ?_ | refine Runs.exit ?_ | refine Runs.ret ?_))
    all_goals (refine pleave.r rfl ?_)
    all_goals (refine ⟨?_, hg⟩; congr 2; unfold namedB; rw [hA]; simp_all; try omega)
end Go.Proofs.YtnchhgjoiboibaaGreatDoor

set_option maxRecDepth 100000
set_option linter.unusedVariables false
set_option linter.unusedSimpArgs false
namespace Go.Proofs.YtnchhgjoiboibaaGreatDoor
open Go.Cx
variable {w : World} {h : CH}
abbrev ks : Tys := ⟨3, 9, 31⟩
theorem fn_word : tab.fn 28 = some Tryz.f28 := by kernel_rfl
theorem word_calls (s : ByteArray) : CalF (X w) 28 [.string s] h fun r h' => r = .ret (.bool (wordB s)) ∧ Gr h h' := by
  refine CalF.intro fn_word rfl (Nat.le_of_ble_eq_true rfl) ?_
  repeat (first | refine kthenP.n ?_ | refine kthenP.r ?_ | refine kthenP.e ?_ | refine kblockP.n ?_ | refine kblockP.r ?_ | refine kblockP.e ?_ | refine kblockP.o rfl ?_ | refine Runs.seq ?_ | refine Runs.region ?_ | refine Runs.block ?_ | refine Runs.cond ?_ | refine Runs.skip ?_ | refine Runs.loop ?_ | refine Runs.exit ?_ | refine Runs.ret ?_)
  repeat' (first | refine pops.bin rfl rfl rfl rfl rfl rfl (cbin_inc (by omega)) ?_ | refine pops.cmp rfl rfl rfl rfl rfl (fun _ => ?_) (fun _ => ?_) | refine pops.fl rfl rfl rfl rfl rfl ?_ | refine pops.skip rfl rfl rfl ?_ | refine pops.load rfl rfl rfl rfl rfl (by first | assumption | exact cload_of (by assumption) rfl) ?_ | refine pops.len rfl rfl rfl rfl rfl rfl rfl rfl (by first | exact SlA.len (by assumption) rfl | exact SlI.len (by assumption) rfl | exact SlS.len (by assumption) rfl | exact Sl.len (by assumption) rfl) ?_ | refine pops.nil ?_ | refine kthenP.n ?_ | refine kthenP.r ?_ | refine kthenP.e ?_ | refine kblockP.n ?_ | refine kblockP.r ?_ | refine kblockP.e ?_ | refine kblockP.o rfl ?_ | refine Runs.seq ?_ | refine Runs.region ?_ | refine Runs.block ?_ | refine Runs.cond ?_ | refine Runs.skip ?_ | refine Runs.loop ?_ | refine Runs.exit ?_ | refine Runs.ret ?_ | refine pcond.t rfl ?_ | refine pcond.f rfl ?_ | refine pleave.r rfl ?_)
  all_goals (refine ⟨?_, Gr.refl h⟩)
  all_goals (show CRes.ret (.bool _) = CRes.ret (.bool _); unfold wordB wordsL; simp only [List.any_cons, List.any_nil, *, Bool.or_true, Bool.true_or, Bool.false_or])
end Go.Proofs.YtnchhgjoiboibaaGreatDoor

set_option maxRecDepth 100000
set_option linter.unusedVariables false
set_option linter.unusedSimpArgs false
namespace Go.Proofs.YtnchhgjoiboibaaGreatDoor
open Go.Cx
variable {w : World} {h : CH}
theorem fn_indices : tab.fn 12 = some Tryz.f12 := by kernel_rfl
theorem indices_calls {v : Value} {l : List ByteArray} (hv : SlS tab 9 h v l) (hlen : ∀ s, s ∈ l → s.data.toList.length < 9223372036854775808) :
    CalF (X w) 12 [v] h fun r h' => (∃ m, r = .ret (.tuple #[m, .bool (tt (NamesP l))])) ∧ Gr h h' := by
  refine CalF.wf fun hwf => ?_
  have hlt := hv.lt
  refine CalF.intro fn_indices rfl (Nat.le_of_ble_eq_true rfl) ?_
  repeat (first | refine kthenP.n ?_ | refine kthenP.r ?_ | refine kthenP.e ?_ | refine kblockP.n ?_ | refine kblockP.r ?_ | refine kblockP.e ?_ | refine kblockP.o rfl ?_ | refine Runs.seq ?_ | refine Runs.region ?_ | refine Runs.block ?_ | refine Runs.cond ?_ | refine Runs.skip ?_ | refine Runs.loop ?_ | refine Runs.exit ?_ | refine Runs.ret ?_)
  repeat (first | refine pops.bin rfl rfl rfl rfl rfl rfl (cbin_inc (by omega)) ?_ | refine pops.fl rfl rfl rfl rfl rfl ?_ | refine pops.skip rfl rfl rfl ?_ | refine pops.load rfl rfl rfl rfl rfl (by first | assumption | exact cload_of (by assumption) rfl) ?_ | refine pops.len rfl rfl rfl rfl rfl rfl rfl rfl (by first | exact SlA.len (by assumption) rfl | exact SlI.len (by assumption) rfl | exact SlS.len (by assumption) rfl | exact Sl.len (by assumption) rfl) ?_)
  refine pops.nil ?_
  repeat (first | refine kthenP.n ?_ | refine kthenP.r ?_ | refine kthenP.e ?_ | refine kblockP.n ?_ | refine kblockP.r ?_ | refine kblockP.e ?_ | refine kblockP.o rfl ?_ | refine Runs.seq ?_ | refine Runs.region ?_ | refine Runs.block ?_ | refine Runs.cond ?_ | refine Runs.skip ?_ | refine Runs.loop ?_ | refine Runs.exit ?_ | refine Runs.ret ?_)
  repeat (first | refine pops.bin rfl rfl rfl rfl rfl rfl (cbin_inc (by omega)) ?_ | refine pops.fl rfl rfl rfl rfl rfl ?_ | refine pops.skip rfl rfl rfl ?_ | refine pops.load rfl rfl rfl rfl rfl (by first | assumption | exact cload_of (by assumption) rfl) ?_ | refine pops.len rfl rfl rfl rfl rfl rfl rfl rfl (by first | exact SlA.len (by assumption) rfl | exact SlI.len (by assumption) rfl | exact SlS.len (by assumption) rfl | exact Sl.len (by assumption) rfl) ?_)
  refine pops.makeMap rfl rfl rfl rfl rfl hwf fun b h1 hb hwf1 g1 hc => ?_
  repeat (first | refine pops.bin rfl rfl rfl rfl rfl rfl (cbin_inc (by omega)) ?_ | refine pops.fl rfl rfl rfl rfl rfl ?_ | refine pops.skip rfl rfl rfl ?_ | refine pops.load rfl rfl rfl rfl rfl (by first | assumption | exact cload_of (by assumption) rfl) ?_ | refine pops.len rfl rfl rfl rfl rfl rfl rfl rfl (by first | exact SlA.len (by assumption) rfl | exact SlI.len (by assumption) rfl | exact SlS.len (by assumption) rfl | exact Sl.len (by assumption) rfl) ?_)
  refine pops.nil ?_
  repeat (first | refine kthenP.n ?_ | refine kthenP.r ?_ | refine kthenP.e ?_ | refine kblockP.n ?_ | refine kblockP.r ?_ | refine kblockP.e ?_ | refine kblockP.o rfl ?_ | refine Runs.seq ?_ | refine Runs.region ?_ | refine Runs.block ?_ | refine Runs.cond ?_ | refine Runs.skip ?_ | refine Runs.loop ?_ | refine Runs.exit ?_ | refine Runs.ret ?_)
  have hv1 := Sl.gr hv hwf g1
  repeat (first | refine pops.bin rfl rfl rfl rfl rfl rfl (cbin_inc (by omega)) ?_ | refine pops.fl rfl rfl rfl rfl rfl ?_ | refine pops.skip rfl rfl rfl ?_ | refine pops.load rfl rfl rfl rfl rfl (by first | assumption | exact cload_of (by assumption) rfl) ?_ | refine pops.len rfl rfl rfl rfl rfl rfl rfl rfl (by first | exact SlA.len (by assumption) rfl | exact SlI.len (by assumption) rfl | exact SlS.len (by assumption) rfl | exact Sl.len (by assumption) rfl) ?_)
  refine pops.nil ?_
  repeat (first | refine kthenP.n ?_ | refine kthenP.r ?_ | refine kthenP.e ?_ | refine kblockP.n ?_ | refine kblockP.r ?_ | refine kblockP.e ?_ | refine kblockP.o rfl ?_ | refine Runs.seq ?_ | refine Runs.region ?_ | refine Runs.block ?_ | refine Runs.cond ?_ | refine Runs.skip ?_ | refine Runs.loop ?_ | refine Runs.exit ?_ | refine Runs.ret ?_)
  refine Loops.ind 6 (fun i : Nat => [(0, v), (2, .map none), (3, .bool false), (4, .map (some b)), (12, v), (13, .int .i64 (l.length : Nat)), (14, .int .i64 (i : Nat))])
    (fun i h' => i ≤ l.length ∧ Gr h h' ∧ (∃ es : List (ByteArray × Value), es.map (·.1) = l.take i ∧ h'.get b = some (.map (mkE 0 es) es.length)) ∧ (∀ (j : Nat) s, j < i → l[j]? = some s → namedB s = true ∧ wordB s = false) ∧ ∀ (j k : Nat) x y, j < k → k < i → l[j]? = some x → l[k]? = some y → bytesBeq x.data.toList y.data.toList = false)
    (fun i => l.length - i) 0 (by decide) ⟨rfl, rfl, rfl, rfl, rfl, rfl, rfl, trivial⟩ ⟨Nat.zero_le _, g1, ⟨[], rfl, hc⟩, all_none, fun j k x y h1 h2 => absurd h2 (Nat.not_lt_zero _)⟩ ?_
  clear hv1 hc
  rintro i z h' hwf' ⟨hi, hg, ⟨es, hes, hc⟩, hall, hdis⟩
  have hv' := Sl.gr hv hwf hg
  repeat (first | refine kthenP.n ?_ | refine kthenP.r ?_ | refine kthenP.e ?_ | refine kblockP.n ?_ | refine kblockP.r ?_ | refine kblockP.e ?_ | refine kblockP.o rfl ?_ | refine Runs.seq ?_ | refine Runs.region ?_ | refine Runs.block ?_ | refine Runs.cond ?_ | refine Runs.skip ?_ | refine Runs.loop ?_ | refine Runs.exit ?_ | refine Runs.ret ?_)
  repeat (first | refine pops.bin rfl rfl rfl rfl rfl rfl (cbin_inc (by omega)) ?_ | refine pops.fl rfl rfl rfl rfl rfl ?_ | refine pops.skip rfl rfl rfl ?_ | refine pops.load rfl rfl rfl rfl rfl (by first | assumption | exact cload_of (by assumption) rfl) ?_ | refine pops.len rfl rfl rfl rfl rfl rfl rfl rfl (by first | exact SlA.len (by assumption) rfl | exact SlI.len (by assumption) rfl | exact SlS.len (by assumption) rfl | exact Sl.len (by assumption) rfl) ?_)
  refine pops.nil ?_
  repeat (first | refine kthenP.n ?_ | refine kthenP.r ?_ | refine kthenP.e ?_ | refine kblockP.n ?_ | refine kblockP.r ?_ | refine kblockP.e ?_ | refine kblockP.o rfl ?_ | refine Runs.seq ?_ | refine Runs.region ?_ | refine Runs.block ?_ | refine Runs.cond ?_ | refine Runs.skip ?_ | refine Runs.loop ?_ | refine Runs.exit ?_ | refine Runs.ret ?_)
  refine pcond.d (p := (i : Int) < (l.length : Nat)) rfl (fun hlt => ?_) (fun hge => ?_)
  · have hlt : i < l.length := by omega
    obtain ⟨s, hx⟩ : ∃ x, l[i]? = some x := ⟨_, List.getElem?_eq_getElem hlt⟩
    have hsl := hlen s (List.mem_of_getElem? hx)
    obtain ⟨v1, hv1⟩ := clookup_str (T := tab) (h := h') (t := 44) (k := s) (l := es) rfl rfl rfl hc
    have hkey : hasKey s es = true ↔ ∃ j x, j < i ∧ l[j]? = some x ∧ bytesBeq x.data.toList s.data.toList = true := by
      unfold hasKey
      rw [List.any_eq_true]
      constructor
      · rintro ⟨p, hp, hb⟩
        have : p.1 ∈ l.take i := by rw [← hes]; exact List.mem_map_of_mem hp
        obtain ⟨j, hj⟩ := List.mem_iff_getElem?.1 this
        rw [List.getElem?_take] at hj
        split at hj
        · rename_i hji; exact ⟨j, p.1, hji, hj, by rw [bytesBeq_comm]; exact hb⟩
        · cases hj
      · rintro ⟨j, x, hj, hx, hb⟩
        have : x ∈ l.take i := List.mem_of_getElem? (i := j) (by rw [List.getElem?_take, if_pos hj]; exact hx)
        rw [← hes] at this
        obtain ⟨p, hp, rfl⟩ := List.mem_map.1 this
        exact ⟨p, hp, by rw [bytesBeq_comm]; exact hb⟩
    repeat (first | refine kthenP.n ?_ | refine kthenP.r ?_ | refine kthenP.e ?_ | refine kblockP.n ?_ | refine kblockP.r ?_ | refine kblockP.e ?_ | refine kblockP.o rfl ?_ | refine Runs.seq ?_ | refine Runs.region ?_ | refine Runs.block ?_ | refine Runs.cond ?_ | refine Runs.skip ?_ | refine Runs.loop ?_ | refine Runs.exit ?_ | refine Runs.ret ?_)
    refine pops.fl rfl rfl rfl rfl rfl ?_
    refine pops.atI (f := Value.string) rfl rfl rfl rfl rfl rfl rfl hv' hx fun q hq => ?_
    refine pops.load rfl rfl rfl rfl rfl (by first | assumption | exact cload_of (by assumption) rfl) ?_
    repeat (first | refine pops.bin rfl rfl rfl rfl rfl rfl (cbin_inc (by omega)) ?_ | refine pops.fl rfl rfl rfl rfl rfl ?_ | refine pops.skip rfl rfl rfl ?_ | refine pops.load rfl rfl rfl rfl rfl (by first | assumption | exact cload_of (by assumption) rfl) ?_ | refine pops.len rfl rfl rfl rfl rfl rfl rfl rfl (by first | exact SlA.len (by assumption) rfl | exact SlI.len (by assumption) rfl | exact SlS.len (by assumption) rfl | exact Sl.len (by assumption) rfl) ?_)
    refine pops.nil ?_
    repeat (first | refine kthenP.n ?_ | refine kthenP.r ?_ | refine kthenP.e ?_ | refine kblockP.n ?_ | refine kblockP.r ?_ | refine kblockP.e ?_ | refine kblockP.o rfl ?_ | refine Runs.seq ?_ | refine Runs.region ?_ | refine Runs.block ?_ | refine Runs.cond ?_ | refine Runs.skip ?_ | refine Runs.loop ?_ | refine Runs.exit ?_ | refine Runs.ret ?_)
    refine pops.fl rfl rfl rfl rfl rfl ?_
    refine pops.fl rfl rfl rfl rfl rfl ?_
    refine pops.lookup rfl rfl rfl rfl rfl rfl hv1 ?_
    repeat (first | refine pops.bin rfl rfl rfl rfl rfl rfl (cbin_inc (by omega)) ?_ | refine pops.fl rfl rfl rfl rfl rfl ?_ | refine pops.skip rfl rfl rfl ?_ | refine pops.load rfl rfl rfl rfl rfl (by first | assumption | exact cload_of (by assumption) rfl) ?_ | refine pops.len rfl rfl rfl rfl rfl rfl rfl rfl (by first | exact SlA.len (by assumption) rfl | exact SlI.len (by assumption) rfl | exact SlS.len (by assumption) rfl | exact Sl.len (by assumption) rfl) ?_)
    refine pops.nil ?_
    repeat (first | refine kthenP.n ?_ | refine kthenP.r ?_ | refine kthenP.e ?_ | refine kblockP.n ?_ | refine kblockP.r ?_ | refine kblockP.e ?_ | refine kblockP.o rfl ?_ | refine Runs.seq ?_ | refine Runs.region ?_ | refine Runs.block ?_ | refine Runs.cond ?_ | refine Runs.skip ?_ | refine Runs.loop ?_ | refine Runs.exit ?_ | refine Runs.ret ?_)
    have bad : ¬ NamesP l → (∃ m, CRes.ret (.tuple #[.map none, .bool false]) = .ret (.tuple #[m, .bool (tt (NamesP l))])) := fun hn => ⟨_, by rw [tt_f hn]⟩
    cases hk : hasKey s es with
    | true =>
      repeat (first | refine pops.bin rfl rfl rfl rfl rfl rfl (cbin_inc (by omega)) ?_ | refine pops.fl rfl rfl rfl rfl rfl ?_ | refine pops.skip rfl rfl rfl ?_ | refine pops.load rfl rfl rfl rfl rfl (by first | assumption | exact cload_of (by assumption) rfl) ?_ | refine pops.len rfl rfl rfl rfl rfl rfl rfl rfl (by first | exact SlA.len (by assumption) rfl | exact SlI.len (by assumption) rfl | exact SlS.len (by assumption) rfl | exact Sl.len (by assumption) rfl) ?_)
      refine pops.nil ?_
      repeat (first | refine kthenP.n ?_ | refine kthenP.r ?_ | refine kthenP.e ?_ | refine kblockP.n ?_ | refine kblockP.r ?_ | refine kblockP.e ?_ | refine kblockP.o rfl ?_ | refine Runs.seq ?_ | refine Runs.region ?_ | refine Runs.block ?_ | refine Runs.cond ?_ | refine Runs.skip ?_ | refine Runs.loop ?_ | refine Runs.exit ?_ | refine Runs.ret ?_)
      refine pcond.t rfl ?_
      repeat (first | refine kthenP.n ?_ | refine kthenP.r ?_ | refine kthenP.e ?_ | refine kblockP.n ?_ | refine kblockP.r ?_ | refine kblockP.e ?_ | refine kblockP.o rfl ?_ | refine Runs.seq ?_ | refine Runs.region ?_ | refine Runs.block ?_ | refine Runs.cond ?_ | refine Runs.skip ?_ | refine Runs.loop ?_ | refine Runs.exit ?_ | refine Runs.ret ?_)
      repeat (first | refine pops.bin rfl rfl rfl rfl rfl rfl (cbin_inc (by omega)) ?_ | refine pops.fl rfl rfl rfl rfl rfl ?_ | refine pops.skip rfl rfl rfl ?_ | refine pops.load rfl rfl rfl rfl rfl (by first | assumption | exact cload_of (by assumption) rfl) ?_ | refine pops.len rfl rfl rfl rfl rfl rfl rfl rfl (by first | exact SlA.len (by assumption) rfl | exact SlI.len (by assumption) rfl | exact SlS.len (by assumption) rfl | exact Sl.len (by assumption) rfl) ?_)
      refine pops.nil ?_
      repeat (first | refine kthenP.n ?_ | refine kthenP.r ?_ | refine kthenP.e ?_ | refine kblockP.n ?_ | refine kblockP.r ?_ | refine kblockP.e ?_ | refine kblockP.o rfl ?_ | refine Runs.seq ?_ | refine Runs.region ?_ | refine Runs.block ?_ | refine Runs.cond ?_ | refine Runs.skip ?_ | refine Runs.loop ?_ | refine Runs.exit ?_ | refine Runs.ret ?_)
      refine pleave.r rfl ?_
      refine ⟨bad fun hN => ?_, hg⟩
      obtain ⟨j, x, h1, h2, h3⟩ := hkey.1 hk
      have := hN.2.1 j i x s h1 h2 hx
      rw [this] at h3
      cases h3
    | false =>
      repeat (first | refine pops.bin rfl rfl rfl rfl rfl rfl (cbin_inc (by omega)) ?_ | refine pops.fl rfl rfl rfl rfl rfl ?_ | refine pops.skip rfl rfl rfl ?_ | refine pops.load rfl rfl rfl rfl rfl (by first | assumption | exact cload_of (by assumption) rfl) ?_ | refine pops.len rfl rfl rfl rfl rfl rfl rfl rfl (by first | exact SlA.len (by assumption) rfl | exact SlI.len (by assumption) rfl | exact SlS.len (by assumption) rfl | exact Sl.len (by assumption) rfl) ?_)
      refine pops.callG rfl rfl rfl rfl rfl fn_named rfl rfl rfl (named_calls s hsl) fun h2 hwf2 g2 => ?_
      cases hn : namedB s with
      | false =>
        repeat (first | refine pops.bin rfl rfl rfl rfl rfl rfl (cbin_inc (by omega)) ?_ | refine pops.fl rfl rfl rfl rfl rfl ?_ | refine pops.skip rfl rfl rfl ?_ | refine pops.load rfl rfl rfl rfl rfl (by first | assumption | exact cload_of (by assumption) rfl) ?_ | refine pops.len rfl rfl rfl rfl rfl rfl rfl rfl (by first | exact SlA.len (by assumption) rfl | exact SlI.len (by assumption) rfl | exact SlS.len (by assumption) rfl | exact Sl.len (by assumption) rfl) ?_)
        refine pops.nil ?_
        repeat (first | refine kthenP.n ?_ | refine kthenP.r ?_ | refine kthenP.e ?_ | refine kblockP.n ?_ | refine kblockP.r ?_ | refine kblockP.e ?_ | refine kblockP.o rfl ?_ | refine Runs.seq ?_ | refine Runs.region ?_ | refine Runs.block ?_ | refine Runs.cond ?_ | refine Runs.skip ?_ | refine Runs.loop ?_ | refine Runs.exit ?_ | refine Runs.ret ?_)
        refine pcond.t rfl ?_
        repeat (first | refine kthenP.n ?_ | refine kthenP.r ?_ | refine kthenP.e ?_ | refine kblockP.n ?_ | refine kblockP.r ?_ | refine kblockP.e ?_ | refine kblockP.o rfl ?_ | refine Runs.seq ?_ | refine Runs.region ?_ | refine Runs.block ?_ | refine Runs.cond ?_ | refine Runs.skip ?_ | refine Runs.loop ?_ | refine Runs.exit ?_ | refine Runs.ret ?_)
        repeat (first | refine pops.bin rfl rfl rfl rfl rfl rfl (cbin_inc (by omega)) ?_ | refine pops.fl rfl rfl rfl rfl rfl ?_ | refine pops.skip rfl rfl rfl ?_ | refine pops.load rfl rfl rfl rfl rfl (by first | assumption | exact cload_of (by assumption) rfl) ?_ | refine pops.len rfl rfl rfl rfl rfl rfl rfl rfl (by first | exact SlA.len (by assumption) rfl | exact SlI.len (by assumption) rfl | exact SlS.len (by assumption) rfl | exact Sl.len (by assumption) rfl) ?_)
        refine pops.nil ?_
        repeat (first | refine kthenP.n ?_ | refine kthenP.r ?_ | refine kthenP.e ?_ | refine kblockP.n ?_ | refine kblockP.r ?_ | refine kblockP.e ?_ | refine kblockP.o rfl ?_ | refine Runs.seq ?_ | refine Runs.region ?_ | refine Runs.block ?_ | refine Runs.cond ?_ | refine Runs.skip ?_ | refine Runs.loop ?_ | refine Runs.exit ?_ | refine Runs.ret ?_)
        refine pleave.r rfl ?_
        refine ⟨bad fun hN => ?_, hg.trans g2⟩
        have := (hN.1 s (List.mem_of_getElem? hx)).1
        rw [hn] at this
        cases this
      | true =>
        repeat (first | refine pops.bin rfl rfl rfl rfl rfl rfl (cbin_inc (by omega)) ?_ | refine pops.fl rfl rfl rfl rfl rfl ?_ | refine pops.skip rfl rfl rfl ?_ | refine pops.load rfl rfl rfl rfl rfl (by first | assumption | exact cload_of (by assumption) rfl) ?_ | refine pops.len rfl rfl rfl rfl rfl rfl rfl rfl (by first | exact SlA.len (by assumption) rfl | exact SlI.len (by assumption) rfl | exact SlS.len (by assumption) rfl | exact Sl.len (by assumption) rfl) ?_)
        refine pops.callG rfl rfl rfl rfl rfl fn_word rfl rfl rfl (word_calls s) fun h3 hwf3 g3 => ?_
        cases hwd : wordB s with
        | true =>
          repeat (first | refine pops.bin rfl rfl rfl rfl rfl rfl (cbin_inc (by omega)) ?_ | refine pops.fl rfl rfl rfl rfl rfl ?_ | refine pops.skip rfl rfl rfl ?_ | refine pops.load rfl rfl rfl rfl rfl (by first | assumption | exact cload_of (by assumption) rfl) ?_ | refine pops.len rfl rfl rfl rfl rfl rfl rfl rfl (by first | exact SlA.len (by assumption) rfl | exact SlI.len (by assumption) rfl | exact SlS.len (by assumption) rfl | exact Sl.len (by assumption) rfl) ?_)
          refine pops.nil ?_
          repeat (first | refine kthenP.n ?_ | refine kthenP.r ?_ | refine kthenP.e ?_ | refine kblockP.n ?_ | refine kblockP.r ?_ | refine kblockP.e ?_ | refine kblockP.o rfl ?_ | refine Runs.seq ?_ | refine Runs.region ?_ | refine Runs.block ?_ | refine Runs.cond ?_ | refine Runs.skip ?_ | refine Runs.loop ?_ | refine Runs.exit ?_ | refine Runs.ret ?_)
          refine pcond.t rfl ?_
          repeat (first | refine kthenP.n ?_ | refine kthenP.r ?_ | refine kthenP.e ?_ | refine kblockP.n ?_ | refine kblockP.r ?_ | refine kblockP.e ?_ | refine kblockP.o rfl ?_ | refine Runs.seq ?_ | refine Runs.region ?_ | refine Runs.block ?_ | refine Runs.cond ?_ | refine Runs.skip ?_ | refine Runs.loop ?_ | refine Runs.exit ?_ | refine Runs.ret ?_)
          repeat (first | refine pops.bin rfl rfl rfl rfl rfl rfl (cbin_inc (by omega)) ?_ | refine pops.fl rfl rfl rfl rfl rfl ?_ | refine pops.skip rfl rfl rfl ?_ | refine pops.load rfl rfl rfl rfl rfl (by first | assumption | exact cload_of (by assumption) rfl) ?_ | refine pops.len rfl rfl rfl rfl rfl rfl rfl rfl (by first | exact SlA.len (by assumption) rfl | exact SlI.len (by assumption) rfl | exact SlS.len (by assumption) rfl | exact Sl.len (by assumption) rfl) ?_)
          refine pops.nil ?_
          repeat (first | refine kthenP.n ?_ | refine kthenP.r ?_ | refine kthenP.e ?_ | refine kblockP.n ?_ | refine kblockP.r ?_ | refine kblockP.e ?_ | refine kblockP.o rfl ?_ | refine Runs.seq ?_ | refine Runs.region ?_ | refine Runs.block ?_ | refine Runs.cond ?_ | refine Runs.skip ?_ | refine Runs.loop ?_ | refine Runs.exit ?_ | refine Runs.ret ?_)
          refine pleave.r rfl ?_
          refine ⟨bad fun hN => ?_, (hg.trans g2).trans g3⟩
          have := (hN.1 s (List.mem_of_getElem? hx)).2
          rw [hwd] at this
          cases this
        | false =>
          repeat (first | refine pops.bin rfl rfl rfl rfl rfl rfl (cbin_inc (by omega)) ?_ | refine pops.fl rfl rfl rfl rfl rfl ?_ | refine pops.skip rfl rfl rfl ?_ | refine pops.load rfl rfl rfl rfl rfl (by first | assumption | exact cload_of (by assumption) rfl) ?_ | refine pops.len rfl rfl rfl rfl rfl rfl rfl rfl (by first | exact SlA.len (by assumption) rfl | exact SlI.len (by assumption) rfl | exact SlS.len (by assumption) rfl | exact Sl.len (by assumption) rfl) ?_)
          refine pops.nil ?_
          repeat (first | refine kthenP.n ?_ | refine kthenP.r ?_ | refine kthenP.e ?_ | refine kblockP.n ?_ | refine kblockP.r ?_ | refine kblockP.e ?_ | refine kblockP.o rfl ?_ | refine Runs.seq ?_ | refine Runs.region ?_ | refine Runs.block ?_ | refine Runs.cond ?_ | refine Runs.skip ?_ | refine Runs.loop ?_ | refine Runs.exit ?_ | refine Runs.ret ?_)
          refine pcond.f rfl ?_
          repeat (first | refine kthenP.n ?_ | refine kthenP.r ?_ | refine kthenP.e ?_ | refine kblockP.n ?_ | refine kblockP.r ?_ | refine kblockP.e ?_ | refine kblockP.o rfl ?_ | refine Runs.seq ?_ | refine Runs.region ?_ | refine Runs.block ?_ | refine Runs.cond ?_ | refine Runs.skip ?_ | refine Runs.loop ?_ | refine Runs.exit ?_ | refine Runs.ret ?_)
          repeat (first | refine pops.bin rfl rfl rfl rfl rfl rfl (cbin_inc (by omega)) ?_ | refine pops.fl rfl rfl rfl rfl rfl ?_ | refine pops.skip rfl rfl rfl ?_ | refine pops.load rfl rfl rfl rfl rfl (by first | assumption | exact cload_of (by assumption) rfl) ?_ | refine pops.len rfl rfl rfl rfl rfl rfl rfl rfl (by first | exact SlA.len (by assumption) rfl | exact SlI.len (by assumption) rfl | exact SlS.len (by assumption) rfl | exact Sl.len (by assumption) rfl) ?_)
          refine pops.putNew (kt := 9) (et := 3) rfl rfl rfl rfl rfl rfl rfl rfl (g3.at hwf2 (g2.at hwf' hc)) hk hwf3 fun h4 hwf4 u4 hc4 => ?_
          refine pops.nil ?_
          repeat (first | refine kthenP.n ?_ | refine kthenP.r ?_ | refine kthenP.e ?_ | refine kblockP.n ?_ | refine kblockP.r ?_ | refine kblockP.e ?_ | refine kblockP.o rfl ?_ | refine Runs.seq ?_ | refine Runs.region ?_ | refine Runs.block ?_ | refine Runs.cond ?_ | refine Runs.skip ?_ | refine Runs.loop ?_ | refine Runs.exit ?_ | refine Runs.ret ?_)
          repeat (first | refine pops.bin rfl rfl rfl rfl rfl rfl (cbin_inc (by omega)) ?_ | refine pops.fl rfl rfl rfl rfl rfl ?_ | refine pops.skip rfl rfl rfl ?_ | refine pops.load rfl rfl rfl rfl rfl (by first | assumption | exact cload_of (by assumption) rfl) ?_ | refine pops.len rfl rfl rfl rfl rfl rfl rfl rfl (by first | exact SlA.len (by assumption) rfl | exact SlI.len (by assumption) rfl | exact SlS.len (by assumption) rfl | exact Sl.len (by assumption) rfl) ?_)
          refine pops.nil ?_
          refine .n ⟨_, i + 1, rfl, ⟨rfl, rfl, rfl, rfl, rfl, rfl, rfl, trivial⟩, (by show l.length - (i + 1) < l.length - i; omega), by omega, ((hg.trans g2).trans g3).upd hb u4, ⟨_, ?_, hc4⟩, all_next hall hx ⟨hn, hwd⟩, fun j k x y h1 h2 h3 h4 => ?_⟩
          · rw [List.map_append, hes, List.take_add_one, hx]
            rfl
          · rcases Nat.lt_or_ge k i with h5 | h5
            · exact hdis j k x y h1 h5 h3 h4
            · obtain rfl : k = i := by omega
              rw [hx] at h4
              cases h4
              cases hbb : bytesBeq x.data.toList s.data.toList with
              | false => rfl
              | true => rw [hkey.2 ⟨j, x, h1, h3, hbb⟩] at hk; cases hk
  · repeat (first | refine kthenP.n ?_ | refine kthenP.r ?_ | refine kthenP.e ?_ | refine kblockP.n ?_ | refine kblockP.r ?_ | refine kblockP.e ?_ | refine kblockP.o rfl ?_ | refine Runs.seq ?_ | refine Runs.region ?_ | refine Runs.block ?_ | refine Runs.cond ?_ | refine Runs.skip ?_ | refine Runs.loop ?_ | refine Runs.exit ?_ | refine Runs.ret ?_)
    have hA : ∀ s, s ∈ l → namedB s = true ∧ wordB s = false := all_end hall (by omega)
    have hD : ∀ (i j : Nat) a b, i < j → l[i]? = some a → l[j]? = some b → bytesBeq a.data.toList b.data.toList = false := fun j k x y h1 h2 h3 => hdis j k x y h1 (by have := (List.getElem?_eq_some_iff.1 h3).1; omega) h2 h3
    repeat' (first | refine pops.bin rfl rfl rfl rfl rfl rfl (cbin_inc (by omega)) ?_ | refine pops.cmp rfl rfl rfl rfl rfl (fun _ => ?_) (fun _ => ?_) | refine pops.fl rfl rfl rfl rfl rfl ?_ | refine pops.skip rfl rfl rfl ?_ | refine pops.load rfl rfl rfl rfl rfl (by first | assumption | exact cload_of (by assumption) rfl) ?_ | refine pops.len rfl rfl rfl rfl rfl rfl rfl rfl (by first | exact SlA.len (by assumption) rfl | exact SlI.len (by assumption) rfl | exact SlS.len (by assumption) rfl | exact Sl.len (by assumption) rfl) ?_)
    all_goals (refine pops.nil ?_)
    all_goals (repeat (first | refine kthenP.n ?_ | refine kthenP.r ?_ | refine kthenP.e ?_ | refine kblockP.n ?_ | refine kblockP.r ?_ | refine kblockP.e ?_ | refine kblockP.o rfl ?_ | refine Runs.seq ?_ | refine Runs.region ?_ | refine Runs.block ?_ | refine Runs.cond ?_ | refine Runs.skip ?_ | refine Runs.loop ?_ | refine Runs.exit ?_ | refine Runs.ret ?_))
    all_goals (refine pleave.r rfl ?_)
    · rename_i q1 q2
      simp at q1 q2
      exact ⟨⟨_, by rw [tt_t (p := NamesP l) ⟨hA, hD, by omega, by omega⟩]⟩, hg⟩
    · rename_i q1 q2
      simp at q1 q2
      exact ⟨⟨_, by rw [tt_f (p := NamesP l) (fun hN => by have := hN.2.2.2; omega)]⟩, hg⟩
    · rename_i q1
      simp at q1
      exact ⟨⟨_, by rw [tt_f (p := NamesP l) (fun hN => by have := hN.2.2.1; revert this q1; clear hD hA hall hdis hes; cases l <;> simp <;> omega)]⟩, hg⟩
theorem fn_check : tab.fn 6 = some Tryz.f6 := by kernel_rfl
theorem check_calls {v : Value} {l : List ByteArray} (ho : isOne v = true) (hv : SlS tab 9 h v l) (hlen : ∀ s, s ∈ l → s.data.toList.length < 9223372036854775808) :
    CalF (X w) 6 [.agg #[v, .slice none 0 0]] h fun r h' => r = .ret (.int .i64 (cond (tt (NamesP l)) 0 6)) ∧ Gr h h' := by
  refine CalF.wf fun hwf => ?_
  refine CalF.intro fn_check rfl (Nat.le_of_ble_eq_true rfl) ?_
  repeat (first | refine kthenP.n ?_ | refine kthenP.r ?_ | refine kthenP.e ?_ | refine kblockP.n ?_ | refine kblockP.r ?_ | refine kblockP.e ?_ | refine kblockP.o rfl ?_ | refine Runs.seq ?_ | refine Runs.region ?_ | refine Runs.block ?_ | refine Runs.cond ?_ | refine Runs.skip ?_ | refine Runs.loop ?_ | refine Runs.exit ?_ | refine Runs.ret ?_)
  refine pops.box (cs := [v, .slice none 0 0]) rfl rfl rfl rfl (by simp [ho]; rfl) rfl rfl hwf fun b h1 hb hwf1 g1 hc => ?_
  repeat (first | refine pops.bin rfl rfl rfl rfl rfl rfl (cbin_inc (by omega)) ?_ | refine pops.fl rfl rfl rfl rfl rfl ?_ | refine pops.skip rfl rfl rfl ?_ | refine pops.load rfl rfl rfl rfl rfl (by first | assumption | exact cload_of (by assumption) rfl) ?_ | refine pops.len rfl rfl rfl rfl rfl rfl rfl rfl (by first | exact SlA.len (by assumption) rfl | exact SlI.len (by assumption) rfl | exact SlS.len (by assumption) rfl | exact Sl.len (by assumption) rfl) ?_)
  refine pops.nil ?_
  repeat (first | refine kthenP.n ?_ | refine kthenP.r ?_ | refine kthenP.e ?_ | refine kblockP.n ?_ | refine kblockP.r ?_ | refine kblockP.e ?_ | refine kblockP.o rfl ?_ | refine Runs.seq ?_ | refine Runs.region ?_ | refine Runs.block ?_ | refine Runs.cond ?_ | refine Runs.skip ?_ | refine Runs.loop ?_ | refine Runs.exit ?_ | refine Runs.ret ?_)
  repeat (first | refine pops.bin rfl rfl rfl rfl rfl rfl (cbin_inc (by omega)) ?_ | refine pops.fl rfl rfl rfl rfl rfl ?_ | refine pops.skip rfl rfl rfl ?_ | refine pops.load rfl rfl rfl rfl rfl (by first | assumption | exact cload_of (by assumption) rfl) ?_ | refine pops.len rfl rfl rfl rfl rfl rfl rfl rfl (by first | exact SlA.len (by assumption) rfl | exact SlI.len (by assumption) rfl | exact SlS.len (by assumption) rfl | exact Sl.len (by assumption) rfl) ?_)
  refine pops.callV rfl rfl rfl rfl rfl fn_indices rfl rfl ((indices_calls (Sl.gr hv hwf g1) hlen).monoW fun r h2 hwf2 hh => ?_)
  obtain ⟨⟨m, rfl⟩, g2⟩ := hh
  refine ⟨_, rfl, ?_⟩
  have hc2 := g2.at hwf1 hc
  have hv2 := Sl.gr (Sl.gr hv hwf g1) hwf1 g2
  repeat (first | refine pops.bin rfl rfl rfl rfl rfl rfl (cbin_inc (by omega)) ?_ | refine pops.fl rfl rfl rfl rfl rfl ?_ | refine pops.skip rfl rfl rfl ?_ | refine pops.load rfl rfl rfl rfl rfl (by first | assumption | exact cload_of (by assumption) rfl) ?_ | refine pops.len rfl rfl rfl rfl rfl rfl rfl rfl (by first | exact SlA.len (by assumption) rfl | exact SlI.len (by assumption) rfl | exact SlS.len (by assumption) rfl | exact Sl.len (by assumption) rfl) ?_)
  refine pops.nil ?_
  repeat (first | refine kthenP.n ?_ | refine kthenP.r ?_ | refine kthenP.e ?_ | refine kblockP.n ?_ | refine kblockP.r ?_ | refine kblockP.e ?_ | refine kblockP.o rfl ?_ | refine Runs.seq ?_ | refine Runs.region ?_ | refine Runs.block ?_ | refine Runs.cond ?_ | refine Runs.skip ?_ | refine Runs.loop ?_ | refine Runs.exit ?_ | refine Runs.ret ?_)
  cases hN : tt (NamesP l) with
  | false =>
    repeat (first | refine pops.bin rfl rfl rfl rfl rfl rfl (cbin_inc (by omega)) ?_ | refine pops.fl rfl rfl rfl rfl rfl ?_ | refine pops.skip rfl rfl rfl ?_ | refine pops.load rfl rfl rfl rfl rfl (by first | assumption | exact cload_of (by assumption) rfl) ?_ | refine pops.len rfl rfl rfl rfl rfl rfl rfl rfl (by first | exact SlA.len (by assumption) rfl | exact SlI.len (by assumption) rfl | exact SlS.len (by assumption) rfl | exact Sl.len (by assumption) rfl) ?_)
    refine pops.nil ?_
    repeat (first | refine kthenP.n ?_ | refine kthenP.r ?_ | refine kthenP.e ?_ | refine kblockP.n ?_ | refine kblockP.r ?_ | refine kblockP.e ?_ | refine kblockP.o rfl ?_ | refine Runs.seq ?_ | refine Runs.region ?_ | refine Runs.block ?_ | refine Runs.cond ?_ | refine Runs.skip ?_ | refine Runs.loop ?_ | refine Runs.exit ?_ | refine Runs.ret ?_)
    refine pcond.t rfl ?_
    repeat (first | refine kthenP.n ?_ | refine kthenP.r ?_ | refine kthenP.e ?_ | refine kblockP.n ?_ | refine kblockP.r ?_ | refine kblockP.e ?_ | refine kblockP.o rfl ?_ | refine Runs.seq ?_ | refine Runs.region ?_ | refine Runs.block ?_ | refine Runs.cond ?_ | refine Runs.skip ?_ | refine Runs.loop ?_ | refine Runs.exit ?_ | refine Runs.ret ?_)
    repeat (first | refine pops.bin rfl rfl rfl rfl rfl rfl (cbin_inc (by omega)) ?_ | refine pops.fl rfl rfl rfl rfl rfl ?_ | refine pops.skip rfl rfl rfl ?_ | refine pops.load rfl rfl rfl rfl rfl (by first | assumption | exact cload_of (by assumption) rfl) ?_ | refine pops.len rfl rfl rfl rfl rfl rfl rfl rfl (by first | exact SlA.len (by assumption) rfl | exact SlI.len (by assumption) rfl | exact SlS.len (by assumption) rfl | exact Sl.len (by assumption) rfl) ?_)
    refine pops.nil ?_
    repeat (first | refine kthenP.n ?_ | refine kthenP.r ?_ | refine kthenP.e ?_ | refine kblockP.n ?_ | refine kblockP.r ?_ | refine kblockP.e ?_ | refine kblockP.o rfl ?_ | refine Runs.seq ?_ | refine Runs.region ?_ | refine Runs.block ?_ | refine Runs.cond ?_ | refine Runs.skip ?_ | refine Runs.loop ?_ | refine Runs.exit ?_ | refine Runs.ret ?_)
    refine pleave.r rfl ?_
    exact ⟨rfl, g1.trans g2⟩
  | true =>
    repeat (first | refine pops.bin rfl rfl rfl rfl rfl rfl (cbin_inc (by omega)) ?_ | refine pops.fl rfl rfl rfl rfl rfl ?_ | refine pops.skip rfl rfl rfl ?_ | refine pops.load rfl rfl rfl rfl rfl (by first | assumption | exact cload_of (by assumption) rfl) ?_ | refine pops.len rfl rfl rfl rfl rfl rfl rfl rfl (by first | exact SlA.len (by assumption) rfl | exact SlI.len (by assumption) rfl | exact SlS.len (by assumption) rfl | exact Sl.len (by assumption) rfl) ?_)
    refine pops.nil ?_
    repeat (first | refine kthenP.n ?_ | refine kthenP.r ?_ | refine kthenP.e ?_ | refine kblockP.n ?_ | refine kblockP.r ?_ | refine kblockP.e ?_ | refine kblockP.o rfl ?_ | refine Runs.seq ?_ | refine Runs.region ?_ | refine Runs.block ?_ | refine Runs.cond ?_ | refine Runs.skip ?_ | refine Runs.loop ?_ | refine Runs.exit ?_ | refine Runs.ret ?_)
    refine pcond.f rfl ?_
    repeat (first | refine kthenP.n ?_ | refine kthenP.r ?_ | refine kthenP.e ?_ | refine kblockP.n ?_ | refine kblockP.r ?_ | refine kblockP.e ?_ | refine kblockP.o rfl ?_ | refine Runs.seq ?_ | refine Runs.region ?_ | refine Runs.block ?_ | refine Runs.cond ?_ | refine Runs.skip ?_ | refine Runs.loop ?_ | refine Runs.exit ?_ | refine Runs.ret ?_)
    repeat (first | refine pops.bin rfl rfl rfl rfl rfl rfl (cbin_inc (by omega)) ?_ | refine pops.fl rfl rfl rfl rfl rfl ?_ | refine pops.skip rfl rfl rfl ?_ | refine pops.load rfl rfl rfl rfl rfl (by first | assumption | exact cload_of (by assumption) rfl) ?_ | refine pops.len rfl rfl rfl rfl rfl rfl rfl rfl (by first | exact SlA.len (by assumption) rfl | exact SlI.len (by assumption) rfl | exact SlS.len (by assumption) rfl | exact Sl.len (by assumption) rfl) ?_)
    refine pops.nil ?_
    repeat (first | refine kthenP.n ?_ | refine kthenP.r ?_ | refine kthenP.e ?_ | refine kblockP.n ?_ | refine kblockP.r ?_ | refine kblockP.e ?_ | refine kblockP.o rfl ?_ | refine Runs.seq ?_ | refine Runs.region ?_ | refine Runs.block ?_ | refine Runs.cond ?_ | refine Runs.skip ?_ | refine Runs.loop ?_ | refine Runs.exit ?_ | refine Runs.ret ?_)
    repeat (first | refine pops.bin rfl rfl rfl rfl rfl rfl (cbin_inc (by omega)) ?_ | refine pops.fl rfl rfl rfl rfl rfl ?_ | refine pops.skip rfl rfl rfl ?_ | refine pops.load rfl rfl rfl rfl rfl (by first | assumption | exact cload_of (by assumption) rfl) ?_ | refine pops.len rfl rfl rfl rfl rfl rfl rfl rfl (by first | exact SlA.len (by assumption) rfl | exact SlI.len (by assumption) rfl | exact SlS.len (by assumption) rfl | exact Sl.len (by assumption) rfl) ?_)
    refine pops.nil ?_
    repeat (first | refine kthenP.n ?_ | refine kthenP.r ?_ | refine kthenP.e ?_ | refine kblockP.n ?_ | refine kblockP.r ?_ | refine kblockP.e ?_ | refine kblockP.o rfl ?_ | refine Runs.seq ?_ | refine Runs.region ?_ | refine Runs.block ?_ | refine Runs.cond ?_ | refine Runs.skip ?_ | refine Runs.loop ?_ | refine Runs.exit ?_ | refine Runs.ret ?_)
    refine Loops.round ?_
    repeat (first | refine kthenP.n ?_ | refine kthenP.r ?_ | refine kthenP.e ?_ | refine kblockP.n ?_ | refine kblockP.r ?_ | refine kblockP.e ?_ | refine kblockP.o rfl ?_ | refine Runs.seq ?_ | refine Runs.region ?_ | refine Runs.block ?_ | refine Runs.cond ?_ | refine Runs.skip ?_ | refine Runs.loop ?_ | refine Runs.exit ?_ | refine Runs.ret ?_)
    repeat (first | refine pops.bin rfl rfl rfl rfl rfl rfl (cbin_inc (by omega)) ?_ | refine pops.fl rfl rfl rfl rfl rfl ?_ | refine pops.skip rfl rfl rfl ?_ | refine pops.load rfl rfl rfl rfl rfl (by first | assumption | exact cload_of (by assumption) rfl) ?_ | refine pops.len rfl rfl rfl rfl rfl rfl rfl rfl (by first | exact SlA.len (by assumption) rfl | exact SlI.len (by assumption) rfl | exact SlS.len (by assumption) rfl | exact Sl.len (by assumption) rfl) ?_)
    refine pops.nil ?_
    repeat (first | refine kthenP.n ?_ | refine kthenP.r ?_ | refine kthenP.e ?_ | refine kblockP.n ?_ | refine kblockP.r ?_ | refine kblockP.e ?_ | refine kblockP.o rfl ?_ | refine Runs.seq ?_ | refine Runs.region ?_ | refine Runs.block ?_ | refine Runs.cond ?_ | refine Runs.skip ?_ | refine Runs.loop ?_ | refine Runs.exit ?_ | refine Runs.ret ?_)
    refine pcond.f rfl ?_
    repeat (first | refine kthenP.n ?_ | refine kthenP.r ?_ | refine kthenP.e ?_ | refine kblockP.n ?_ | refine kblockP.r ?_ | refine kblockP.e ?_ | refine kblockP.o rfl ?_ | refine Runs.seq ?_ | refine Runs.region ?_ | refine Runs.block ?_ | refine Runs.cond ?_ | refine Runs.skip ?_ | refine Runs.loop ?_ | refine Runs.exit ?_ | refine Runs.ret ?_)
    repeat (first | refine pops.bin rfl rfl rfl rfl rfl rfl (cbin_inc (by omega)) ?_ | refine pops.fl rfl rfl rfl rfl rfl ?_ | refine pops.skip rfl rfl rfl ?_ | refine pops.load rfl rfl rfl rfl rfl (by first | assumption | exact cload_of (by assumption) rfl) ?_ | refine pops.len rfl rfl rfl rfl rfl rfl rfl rfl (by first | exact SlA.len (by assumption) rfl | exact SlI.len (by assumption) rfl | exact SlS.len (by assumption) rfl | exact Sl.len (by assumption) rfl) ?_)
    refine pops.nil ?_
    repeat (first | refine kthenP.n ?_ | refine kthenP.r ?_ | refine kthenP.e ?_ | refine kblockP.n ?_ | refine kblockP.r ?_ | refine kblockP.e ?_ | refine kblockP.o rfl ?_ | refine Runs.seq ?_ | refine Runs.region ?_ | refine Runs.block ?_ | refine Runs.cond ?_ | refine Runs.skip ?_ | refine Runs.loop ?_ | refine Runs.exit ?_ | refine Runs.ret ?_)
    refine pcond.f rfl ?_
    repeat (first | refine kthenP.n ?_ | refine kthenP.r ?_ | refine kthenP.e ?_ | refine kblockP.n ?_ | refine kblockP.r ?_ | refine kblockP.e ?_ | refine kblockP.o rfl ?_ | refine Runs.seq ?_ | refine Runs.region ?_ | refine Runs.block ?_ | refine Runs.cond ?_ | refine Runs.skip ?_ | refine Runs.loop ?_ | refine Runs.exit ?_ | refine Runs.ret ?_)
    repeat (first | refine pops.bin rfl rfl rfl rfl rfl rfl (cbin_inc (by omega)) ?_ | refine pops.fl rfl rfl rfl rfl rfl ?_ | refine pops.skip rfl rfl rfl ?_ | refine pops.load rfl rfl rfl rfl rfl (by first | assumption | exact cload_of (by assumption) rfl) ?_ | refine pops.len rfl rfl rfl rfl rfl rfl rfl rfl (by first | exact SlA.len (by assumption) rfl | exact SlI.len (by assumption) rfl | exact SlS.len (by assumption) rfl | exact Sl.len (by assumption) rfl) ?_)
    refine pops.nil ?_
    repeat (first | refine kthenP.n ?_ | refine kthenP.r ?_ | refine kthenP.e ?_ | refine kblockP.n ?_ | refine kblockP.r ?_ | refine kblockP.e ?_ | refine kblockP.o rfl ?_ | refine Runs.seq ?_ | refine Runs.region ?_ | refine Runs.block ?_ | refine Runs.cond ?_ | refine Runs.skip ?_ | refine Runs.loop ?_ | refine Runs.exit ?_ | refine Runs.ret ?_)
    refine pleave.r rfl ?_
    exact ⟨rfl, g1.trans g2⟩
end Go.Proofs.YtnchhgjoiboibaaGreatDoor

set_option maxRecDepth 100000
set_option linter.unusedVariables false
set_option linter.unusedSimpArgs false
namespace Go.Proofs.YtnchhgjoiboibaaGreatDoor
open Go.Cx
variable {w : World} {h : CH}
abbrev kp : PTys := ⟨3, 34⟩
theorem fn_single : tab.fn 29 = some Tryz.f29 := by kernel_rfl
theorem single_calls {v : Value} {l : List Int} (n : Int) (hn : -1 ≤ n) (hn2 : n < 1000000) (hv : SlI tab 3 h v l) : CalF (X w) 29 [v, .int .i64 n] h fun r h' => r = .ret (.bool (tt (SingleP n l))) ∧ Gr h h' := by
  refine CalF.wf fun hwf => ?_
  have hlt := hv.lt
  refine CalF.intro fn_single rfl (Nat.le_of_ble_eq_true rfl) ?_
  repeat (first | refine kthenP.n ?_ | refine kthenP.r ?_ | refine kthenP.e ?_ | refine kblockP.n ?_ | refine kblockP.r ?_ | refine kblockP.e ?_ | refine kblockP.o rfl ?_ | refine Runs.seq ?_ | refine Runs.region ?_ | refine Runs.block ?_ | refine Runs.cond ?_ | refine Runs.skip ?_ | refine Runs.loop ?_ | refine Runs.exit ?_ | refine Runs.ret ?_)
  refine pops.fl rfl rfl rfl rfl rfl ?_
  refine pops.nil ?_
  repeat (first | refine kthenP.n ?_ | refine kthenP.r ?_ | refine kthenP.e ?_ | refine kblockP.n ?_ | refine kblockP.r ?_ | refine kblockP.e ?_ | refine kblockP.o rfl ?_ | refine Runs.seq ?_ | refine Runs.region ?_ | refine Runs.block ?_ | refine Runs.cond ?_ | refine Runs.skip ?_ | refine Runs.loop ?_ | refine Runs.exit ?_ | refine Runs.ret ?_)
  repeat (first | refine pops.bin rfl rfl rfl rfl rfl rfl (cbin_inc (by omega)) ?_ | refine pops.fl rfl rfl rfl rfl rfl ?_ | refine pops.skip rfl rfl rfl ?_ | refine pops.load rfl rfl rfl rfl rfl (by first | assumption | exact cload_of (by assumption) rfl) ?_ | refine pops.len rfl rfl rfl rfl rfl rfl rfl rfl (by first | exact SlA.len (by assumption) rfl | exact SlI.len (by assumption) rfl | exact SlS.len (by assumption) rfl | exact Sl.len (by assumption) rfl) ?_)
  refine pops.nil ?_
  repeat (first | refine kthenP.n ?_ | refine kthenP.r ?_ | refine kthenP.e ?_ | refine kblockP.n ?_ | refine kblockP.r ?_ | refine kblockP.e ?_ | refine kblockP.o rfl ?_ | refine Runs.seq ?_ | refine Runs.region ?_ | refine Runs.block ?_ | refine Runs.cond ?_ | refine Runs.skip ?_ | refine Runs.loop ?_ | refine Runs.exit ?_ | refine Runs.ret ?_)
  refine Loops.ind 6 (fun i : Nat => [(0, v), (1, .int .i64 n), (4, .bool false), (7, v), (8, .int .i64 (l.length : Nat)), (9, .int .i64 (i : Nat))]) (fun i h' => i ≤ l.length ∧ h' = h ∧ ∀ (j : Nat) c, j < i → l[j]? = some c → SingleAt n l j c) (fun i => l.length - i) 0 (by decide) ⟨rfl, rfl, rfl, rfl, rfl, rfl, trivial⟩ ⟨Nat.zero_le _, rfl, fun j c hj => absurd hj (Nat.not_lt_zero j)⟩ ?_
  rintro i z h' hwf' ⟨hi, rfl, hall⟩
  repeat (first | refine kthenP.n ?_ | refine kthenP.r ?_ | refine kthenP.e ?_ | refine kblockP.n ?_ | refine kblockP.r ?_ | refine kblockP.e ?_ | refine kblockP.o rfl ?_ | refine Runs.seq ?_ | refine Runs.region ?_ | refine Runs.block ?_ | refine Runs.cond ?_ | refine Runs.skip ?_ | refine Runs.loop ?_ | refine Runs.exit ?_ | refine Runs.ret ?_)
  repeat (first | refine pops.bin rfl rfl rfl rfl rfl rfl (cbin_inc (by omega)) ?_ | refine pops.fl rfl rfl rfl rfl rfl ?_ | refine pops.skip rfl rfl rfl ?_ | refine pops.load rfl rfl rfl rfl rfl (by first | assumption | exact cload_of (by assumption) rfl) ?_ | refine pops.len rfl rfl rfl rfl rfl rfl rfl rfl (by first | exact SlA.len (by assumption) rfl | exact SlI.len (by assumption) rfl | exact SlS.len (by assumption) rfl | exact Sl.len (by assumption) rfl) ?_)
  refine pops.nil ?_
  repeat (first | refine kthenP.n ?_ | refine kthenP.r ?_ | refine kthenP.e ?_ | refine kblockP.n ?_ | refine kblockP.r ?_ | refine kblockP.e ?_ | refine kblockP.o rfl ?_ | refine Runs.seq ?_ | refine Runs.region ?_ | refine Runs.block ?_ | refine Runs.cond ?_ | refine Runs.skip ?_ | refine Runs.loop ?_ | refine Runs.exit ?_ | refine Runs.ret ?_)
  refine pcond.d (p := (i : Int) < (l.length : Nat)) rfl (fun hlt' => ?_) (fun hge => ?_)
  · obtain ⟨c, hc⟩ : ∃ c, l[i]? = some c := ⟨_, List.getElem?_eq_getElem (by omega)⟩
    have next : SingleAt n l i c → ∀ (j : Nat) c, j < i + 1 → l[j]? = some c → SingleAt n l j c := fun hs j c' hj hc' => by
      rcases Nat.lt_or_ge j i with h1 | h1
      · exact hall j c' h1 hc'
      · obtain rfl : j = i := by omega
        rw [hc] at hc'
        cases hc'
        exact hs
    have bad : ¬ SingleAt n l i c → tt (SingleP n l) = false := fun hn => tt_f fun hP => hn (hP.2 i c hc)
    repeat (first | refine kthenP.n ?_ | refine kthenP.r ?_ | refine kthenP.e ?_ | refine kblockP.n ?_ | refine kblockP.r ?_ | refine kblockP.e ?_ | refine kblockP.o rfl ?_ | refine Runs.seq ?_ | refine Runs.region ?_ | refine Runs.block ?_ | refine Runs.cond ?_ | refine Runs.skip ?_ | refine Runs.loop ?_ | refine Runs.exit ?_ | refine Runs.ret ?_)
    refine pops.fl rfl rfl rfl rfl rfl ?_
    refine pops.atI (f := Value.int .i64) rfl rfl rfl rfl rfl rfl rfl hv hc fun p hp => ?_
    repeat (first | refine pops.bin rfl rfl rfl rfl rfl rfl (cbin_inc (by omega)) ?_ | refine pops.fl rfl rfl rfl rfl rfl ?_ | refine pops.skip rfl rfl rfl ?_ | refine pops.load rfl rfl rfl rfl rfl (by first | assumption | exact cload_of (by assumption) rfl) ?_ | refine pops.len rfl rfl rfl rfl rfl rfl rfl rfl (by first | exact SlA.len (by assumption) rfl | exact SlI.len (by assumption) rfl | exact SlS.len (by assumption) rfl | exact Sl.len (by assumption) rfl) ?_)
    refine pops.nil ?_
    repeat (first | refine kthenP.n ?_ | refine kthenP.r ?_ | refine kthenP.e ?_ | refine kblockP.n ?_ | refine kblockP.r ?_ | refine kblockP.e ?_ | refine kblockP.o rfl ?_ | refine Runs.seq ?_ | refine Runs.region ?_ | refine Runs.block ?_ | refine Runs.cond ?_ | refine Runs.skip ?_ | refine Runs.loop ?_ | refine Runs.exit ?_ | refine Runs.ret ?_)
    repeat (first | refine pops.bin rfl rfl rfl rfl rfl rfl (cbin_inc (by omega)) ?_ | refine pops.fd rfl rfl rfl rfl rfl rfl ?_ | refine pops.skip rfl rfl rfl ?_ | refine pops.load rfl rfl rfl rfl rfl (by first | assumption | exact cload_of (by assumption) rfl) ?_ | refine pops.len rfl rfl rfl rfl rfl rfl rfl rfl (by first | exact SlA.len (by assumption) rfl | exact SlI.len (by assumption) rfl | exact SlS.len (by assumption) rfl | exact Sl.len (by assumption) rfl) ?_)
    refine pops.cmp rfl rfl rfl rfl rfl (fun q1 => ?_) (fun q1 => ?_)
    · repeat (first | refine pops.bin rfl rfl rfl rfl rfl rfl (cbin_inc (by omega)) ?_ | refine pops.fl rfl rfl rfl rfl rfl ?_ | refine pops.skip rfl rfl rfl ?_ | refine pops.load rfl rfl rfl rfl rfl (by first | assumption | exact cload_of (by assumption) rfl) ?_ | refine pops.len rfl rfl rfl rfl rfl rfl rfl rfl (by first | exact SlA.len (by assumption) rfl | exact SlI.len (by assumption) rfl | exact SlS.len (by assumption) rfl | exact Sl.len (by assumption) rfl) ?_)
      refine pops.nil ?_
      repeat (first | refine kthenP.n ?_ | refine kthenP.r ?_ | refine kthenP.e ?_ | refine kblockP.n ?_ | refine kblockP.r ?_ | refine kblockP.e ?_ | refine kblockP.o rfl ?_ | refine Runs.seq ?_ | refine Runs.region ?_ | refine Runs.block ?_ | refine Runs.cond ?_ | refine Runs.skip ?_ | refine Runs.loop ?_ | refine Runs.exit ?_ | refine Runs.ret ?_)
      refine pcond.t rfl ?_
      repeat (first | refine kthenP.n ?_ | refine kthenP.r ?_ | refine kthenP.e ?_ | refine kblockP.n ?_ | refine kblockP.r ?_ | refine kblockP.e ?_ | refine kblockP.o rfl ?_ | refine Runs.seq ?_ | refine Runs.region ?_ | refine Runs.block ?_ | refine Runs.cond ?_ | refine Runs.skip ?_ | refine Runs.loop ?_ | refine Runs.exit ?_ | refine Runs.ret ?_)
      repeat (first | refine pops.bin rfl rfl rfl rfl rfl rfl (cbin_inc (by omega)) ?_ | refine pops.fl rfl rfl rfl rfl rfl ?_ | refine pops.skip rfl rfl rfl ?_ | refine pops.load rfl rfl rfl rfl rfl (by first | assumption | exact cload_of (by assumption) rfl) ?_ | refine pops.len rfl rfl rfl rfl rfl rfl rfl rfl (by first | exact SlA.len (by assumption) rfl | exact SlI.len (by assumption) rfl | exact SlS.len (by assumption) rfl | exact Sl.len (by assumption) rfl) ?_)
      refine pops.nil ?_
      repeat (first | refine kthenP.n ?_ | refine kthenP.r ?_ | refine kthenP.e ?_ | refine kblockP.n ?_ | refine kblockP.r ?_ | refine kblockP.e ?_ | refine kblockP.o rfl ?_ | refine Runs.seq ?_ | refine Runs.region ?_ | refine Runs.block ?_ | refine Runs.cond ?_ | refine Runs.skip ?_ | refine Runs.loop ?_ | refine Runs.exit ?_ | refine Runs.ret ?_)
      refine pleave.r rfl ?_
      refine ⟨?_, Gr.refl _⟩
      rw [bad fun hs => by have := hs.1; simp at q1; omega]
    have q1 := of_decide_eq_false q1
    rcases Nat.eq_zero_or_pos i with hi0 | hi0
    · repeat (first | refine pops.bin rfl rfl rfl rfl rfl rfl (cbin_inc (by omega)) ?_ | refine pops.fd rfl rfl rfl rfl rfl rfl ?_ | refine pops.skip rfl rfl rfl ?_ | refine pops.load rfl rfl rfl rfl rfl (by first | assumption | exact cload_of (by assumption) rfl) ?_ | refine pops.len rfl rfl rfl rfl rfl rfl rfl rfl (by first | exact SlA.len (by assumption) rfl | exact SlI.len (by assumption) rfl | exact SlS.len (by assumption) rfl | exact Sl.len (by assumption) rfl) ?_)
      refine pops.cmp rfl rfl rfl rfl rfl (fun q2 => ?_) (fun q2 => ?_)
      · have q2 := of_decide_eq_true q2
        omega
      repeat (first | refine pops.bin rfl rfl rfl rfl rfl rfl (cbin_inc (by omega)) ?_ | refine pops.fd rfl rfl rfl rfl rfl rfl ?_ | refine pops.skip rfl rfl rfl ?_ | refine pops.load rfl rfl rfl rfl rfl (by first | assumption | exact cload_of (by assumption) rfl) ?_ | refine pops.len rfl rfl rfl rfl rfl rfl rfl rfl (by first | exact SlA.len (by assumption) rfl | exact SlI.len (by assumption) rfl | exact SlS.len (by assumption) rfl | exact Sl.len (by assumption) rfl) ?_)
      refine pops.cmp rfl rfl rfl rfl rfl (fun q3 => ?_) (fun q3 => ?_)
      · have q3 := of_decide_eq_true q3
        refine pops.fl rfl rfl rfl rfl rfl ?_
        refine pops.fl rfl rfl rfl rfl rfl ?_
        refine pops.fl rfl rfl rfl rfl rfl ?_
        refine pops.bin rfl rfl rfl rfl rfl rfl (cbin_add1 (by omega) (by omega)) ?_
        refine pops.cmp rfl rfl rfl rfl rfl (fun q4 => ?_) (fun q4 => ?_)
        · have q4 := of_decide_eq_true q4
          repeat (first | refine pops.bin rfl rfl rfl rfl rfl rfl (cbin_inc (by omega)) ?_ | refine pops.fl rfl rfl rfl rfl rfl ?_ | refine pops.skip rfl rfl rfl ?_ | refine pops.load rfl rfl rfl rfl rfl (by first | assumption | exact cload_of (by assumption) rfl) ?_ | refine pops.len rfl rfl rfl rfl rfl rfl rfl rfl (by first | exact SlA.len (by assumption) rfl | exact SlI.len (by assumption) rfl | exact SlS.len (by assumption) rfl | exact Sl.len (by assumption) rfl) ?_)
          refine pops.nil ?_
          repeat (first | refine kthenP.n ?_ | refine kthenP.r ?_ | refine kthenP.e ?_ | refine kblockP.n ?_ | refine kblockP.r ?_ | refine kblockP.e ?_ | refine kblockP.o rfl ?_ | refine Runs.seq ?_ | refine Runs.region ?_ | refine Runs.block ?_ | refine Runs.cond ?_ | refine Runs.skip ?_ | refine Runs.loop ?_ | refine Runs.exit ?_ | refine Runs.ret ?_)
          refine pcond.t rfl ?_
          repeat (first | refine kthenP.n ?_ | refine kthenP.r ?_ | refine kthenP.e ?_ | refine kblockP.n ?_ | refine kblockP.r ?_ | refine kblockP.e ?_ | refine kblockP.o rfl ?_ | refine Runs.seq ?_ | refine Runs.region ?_ | refine Runs.block ?_ | refine Runs.cond ?_ | refine Runs.skip ?_ | refine Runs.loop ?_ | refine Runs.exit ?_ | refine Runs.ret ?_)
          repeat (first | refine pops.bin rfl rfl rfl rfl rfl rfl (cbin_inc (by omega)) ?_ | refine pops.fl rfl rfl rfl rfl rfl ?_ | refine pops.skip rfl rfl rfl ?_ | refine pops.load rfl rfl rfl rfl rfl (by first | assumption | exact cload_of (by assumption) rfl) ?_ | refine pops.len rfl rfl rfl rfl rfl rfl rfl rfl (by first | exact SlA.len (by assumption) rfl | exact SlI.len (by assumption) rfl | exact SlS.len (by assumption) rfl | exact Sl.len (by assumption) rfl) ?_)
          refine pops.nil ?_
          repeat (first | refine kthenP.n ?_ | refine kthenP.r ?_ | refine kthenP.e ?_ | refine kblockP.n ?_ | refine kblockP.r ?_ | refine kblockP.e ?_ | refine kblockP.o rfl ?_ | refine Runs.seq ?_ | refine Runs.region ?_ | refine Runs.block ?_ | refine Runs.cond ?_ | refine Runs.skip ?_ | refine Runs.loop ?_ | refine Runs.exit ?_ | refine Runs.ret ?_)
          refine pleave.r rfl ?_
          refine ⟨?_, Gr.refl _⟩
          rw [bad fun hs => by obtain ⟨h1, h2, h3⟩ := hs; first | omega | (have := h3 (by omega); omega)]
        · have q4 := of_decide_eq_false q4
          repeat (first | refine pops.bin rfl rfl rfl rfl rfl rfl (cbin_inc (by omega)) ?_ | refine pops.fd rfl rfl rfl rfl rfl rfl ?_ | refine pops.skip rfl rfl rfl ?_ | refine pops.load rfl rfl rfl rfl rfl (by first | assumption | exact cload_of (by assumption) rfl) ?_ | refine pops.len rfl rfl rfl rfl rfl rfl rfl rfl (by first | exact SlA.len (by assumption) rfl | exact SlI.len (by assumption) rfl | exact SlS.len (by assumption) rfl | exact Sl.len (by assumption) rfl) ?_)
          refine pops.cmp rfl rfl rfl rfl rfl (fun q5 => ?_) (fun q5 => ?_)
          · have q5 := of_decide_eq_true q5
            repeat (first | refine pops.bin rfl rfl rfl rfl rfl rfl (cbin_inc (by omega)) ?_ | refine pops.fd rfl rfl rfl rfl rfl rfl ?_ | refine pops.skip rfl rfl rfl ?_ | refine pops.load rfl rfl rfl rfl rfl (by first | assumption | exact cload_of (by assumption) rfl) ?_ | refine pops.len rfl rfl rfl rfl rfl rfl rfl rfl (by first | exact SlA.len (by assumption) rfl | exact SlI.len (by assumption) rfl | exact SlS.len (by assumption) rfl | exact Sl.len (by assumption) rfl) ?_)
            refine pops.cmp rfl rfl rfl rfl rfl (fun q6 => ?_) (fun q6 => ?_)
            · have q6 := of_decide_eq_true q6
              repeat (first | refine pops.bin rfl rfl rfl rfl rfl rfl (cbin_inc (by omega)) ?_ | refine pops.fl rfl rfl rfl rfl rfl ?_ | refine pops.skip rfl rfl rfl ?_ | refine pops.load rfl rfl rfl rfl rfl (by first | assumption | exact cload_of (by assumption) rfl) ?_ | refine pops.len rfl rfl rfl rfl rfl rfl rfl rfl (by first | exact SlA.len (by assumption) rfl | exact SlI.len (by assumption) rfl | exact SlS.len (by assumption) rfl | exact Sl.len (by assumption) rfl) ?_)
              refine pops.nil ?_
              repeat (first | refine kthenP.n ?_ | refine kthenP.r ?_ | refine kthenP.e ?_ | refine kblockP.n ?_ | refine kblockP.r ?_ | refine kblockP.e ?_ | refine kblockP.o rfl ?_ | refine Runs.seq ?_ | refine Runs.region ?_ | refine Runs.block ?_ | refine Runs.cond ?_ | refine Runs.skip ?_ | refine Runs.loop ?_ | refine Runs.exit ?_ | refine Runs.ret ?_)
              refine pcond.t rfl ?_
              repeat (first | refine kthenP.n ?_ | refine kthenP.r ?_ | refine kthenP.e ?_ | refine kblockP.n ?_ | refine kblockP.r ?_ | refine kblockP.e ?_ | refine kblockP.o rfl ?_ | refine Runs.seq ?_ | refine Runs.region ?_ | refine Runs.block ?_ | refine Runs.cond ?_ | refine Runs.skip ?_ | refine Runs.loop ?_ | refine Runs.exit ?_ | refine Runs.ret ?_)
              repeat (first | refine pops.bin rfl rfl rfl rfl rfl rfl (cbin_inc (by omega)) ?_ | refine pops.fl rfl rfl rfl rfl rfl ?_ | refine pops.skip rfl rfl rfl ?_ | refine pops.load rfl rfl rfl rfl rfl (by first | assumption | exact cload_of (by assumption) rfl) ?_ | refine pops.len rfl rfl rfl rfl rfl rfl rfl rfl (by first | exact SlA.len (by assumption) rfl | exact SlI.len (by assumption) rfl | exact SlS.len (by assumption) rfl | exact Sl.len (by assumption) rfl) ?_)
              refine pops.nil ?_
              repeat (first | refine kthenP.n ?_ | refine kthenP.r ?_ | refine kthenP.e ?_ | refine kblockP.n ?_ | refine kblockP.r ?_ | refine kblockP.e ?_ | refine kblockP.o rfl ?_ | refine Runs.seq ?_ | refine Runs.region ?_ | refine Runs.block ?_ | refine Runs.cond ?_ | refine Runs.skip ?_ | refine Runs.loop ?_ | refine Runs.exit ?_ | refine Runs.ret ?_)
              refine pleave.r rfl ?_
              refine ⟨?_, Gr.refl _⟩
              rw [bad fun hs => by obtain ⟨h1, h2, h3⟩ := hs; first | omega | (have := h3 (by omega); omega)]
            · have q6 := of_decide_eq_false q6
              repeat (first | refine pops.bin rfl rfl rfl rfl rfl rfl (cbin_inc (by omega)) ?_ | refine pops.fl rfl rfl rfl rfl rfl ?_ | refine pops.skip rfl rfl rfl ?_ | refine pops.load rfl rfl rfl rfl rfl (by first | assumption | exact cload_of (by assumption) rfl) ?_ | refine pops.len rfl rfl rfl rfl rfl rfl rfl rfl (by first | exact SlA.len (by assumption) rfl | exact SlI.len (by assumption) rfl | exact SlS.len (by assumption) rfl | exact Sl.len (by assumption) rfl) ?_)
              refine pops.nil ?_
              repeat (first | refine kthenP.n ?_ | refine kthenP.r ?_ | refine kthenP.e ?_ | refine kblockP.n ?_ | refine kblockP.r ?_ | refine kblockP.e ?_ | refine kblockP.o rfl ?_ | refine Runs.seq ?_ | refine Runs.region ?_ | refine Runs.block ?_ | refine Runs.cond ?_ | refine Runs.skip ?_ | refine Runs.loop ?_ | refine Runs.exit ?_ | refine Runs.ret ?_)
              refine pcond.f rfl ?_
              repeat (first | refine kthenP.n ?_ | refine kthenP.r ?_ | refine kthenP.e ?_ | refine kblockP.n ?_ | refine kblockP.r ?_ | refine kblockP.e ?_ | refine kblockP.o rfl ?_ | refine Runs.seq ?_ | refine Runs.region ?_ | refine Runs.block ?_ | refine Runs.cond ?_ | refine Runs.skip ?_ | refine Runs.loop ?_ | refine Runs.exit ?_ | refine Runs.ret ?_)
              repeat (first | refine pops.bin rfl rfl rfl rfl rfl rfl (cbin_inc (by omega)) ?_ | refine pops.fl rfl rfl rfl rfl rfl ?_ | refine pops.skip rfl rfl rfl ?_ | refine pops.load rfl rfl rfl rfl rfl (by first | assumption | exact cload_of (by assumption) rfl) ?_ | refine pops.len rfl rfl rfl rfl rfl rfl rfl rfl (by first | exact SlA.len (by assumption) rfl | exact SlI.len (by assumption) rfl | exact SlS.len (by assumption) rfl | exact Sl.len (by assumption) rfl) ?_)
              refine pops.nil ?_
              refine .n ⟨_, i + 1, rfl, ⟨rfl, rfl, rfl, rfl, rfl, rfl, trivial⟩, (by show l.length - (i + 1) < l.length - i; omega), by omega, rfl, next ⟨by omega, fun y h0 _ => by omega, fun _ => ⟨by omega, fun _ => by omega⟩⟩⟩
          · have q5 := of_decide_eq_false q5
            repeat (first | refine pops.bin rfl rfl rfl rfl rfl rfl (cbin_inc (by omega)) ?_ | refine pops.fl rfl rfl rfl rfl rfl ?_ | refine pops.skip rfl rfl rfl ?_ | refine pops.load rfl rfl rfl rfl rfl (by first | assumption | exact cload_of (by assumption) rfl) ?_ | refine pops.len rfl rfl rfl rfl rfl rfl rfl rfl (by first | exact SlA.len (by assumption) rfl | exact SlI.len (by assumption) rfl | exact SlS.len (by assumption) rfl | exact Sl.len (by assumption) rfl) ?_)
            refine pops.nil ?_
            repeat (first | refine kthenP.n ?_ | refine kthenP.r ?_ | refine kthenP.e ?_ | refine kblockP.n ?_ | refine kblockP.r ?_ | refine kblockP.e ?_ | refine kblockP.o rfl ?_ | refine Runs.seq ?_ | refine Runs.region ?_ | refine Runs.block ?_ | refine Runs.cond ?_ | refine Runs.skip ?_ | refine Runs.loop ?_ | refine Runs.exit ?_ | refine Runs.ret ?_)
            refine pcond.f rfl ?_
            repeat (first | refine kthenP.n ?_ | refine kthenP.r ?_ | refine kthenP.e ?_ | refine kblockP.n ?_ | refine kblockP.r ?_ | refine kblockP.e ?_ | refine kblockP.o rfl ?_ | refine Runs.seq ?_ | refine Runs.region ?_ | refine Runs.block ?_ | refine Runs.cond ?_ | refine Runs.skip ?_ | refine Runs.loop ?_ | refine Runs.exit ?_ | refine Runs.ret ?_)
            repeat (first | refine pops.bin rfl rfl rfl rfl rfl rfl (cbin_inc (by omega)) ?_ | refine pops.fl rfl rfl rfl rfl rfl ?_ | refine pops.skip rfl rfl rfl ?_ | refine pops.load rfl rfl rfl rfl rfl (by first | assumption | exact cload_of (by assumption) rfl) ?_ | refine pops.len rfl rfl rfl rfl rfl rfl rfl rfl (by first | exact SlA.len (by assumption) rfl | exact SlI.len (by assumption) rfl | exact SlS.len (by assumption) rfl | exact Sl.len (by assumption) rfl) ?_)
            refine pops.nil ?_
            refine .n ⟨_, i + 1, rfl, ⟨rfl, rfl, rfl, rfl, rfl, rfl, trivial⟩, (by show l.length - (i + 1) < l.length - i; omega), by omega, rfl, next ⟨by omega, fun y h0 _ => by omega, fun _ => ⟨by omega, fun _ => by omega⟩⟩⟩
      · have q3 := of_decide_eq_false q3
        repeat (first | refine pops.bin rfl rfl rfl rfl rfl rfl (cbin_inc (by omega)) ?_ | refine pops.fl rfl rfl rfl rfl rfl ?_ | refine pops.skip rfl rfl rfl ?_ | refine pops.load rfl rfl rfl rfl rfl (by first | assumption | exact cload_of (by assumption) rfl) ?_ | refine pops.len rfl rfl rfl rfl rfl rfl rfl rfl (by first | exact SlA.len (by assumption) rfl | exact SlI.len (by assumption) rfl | exact SlS.len (by assumption) rfl | exact Sl.len (by assumption) rfl) ?_)
        refine pops.nil ?_
        repeat (first | refine kthenP.n ?_ | refine kthenP.r ?_ | refine kthenP.e ?_ | refine kblockP.n ?_ | refine kblockP.r ?_ | refine kblockP.e ?_ | refine kblockP.o rfl ?_ | refine Runs.seq ?_ | refine Runs.region ?_ | refine Runs.block ?_ | refine Runs.cond ?_ | refine Runs.skip ?_ | refine Runs.loop ?_ | refine Runs.exit ?_ | refine Runs.ret ?_)
        refine pcond.f rfl ?_
        repeat (first | refine kthenP.n ?_ | refine kthenP.r ?_ | refine kthenP.e ?_ | refine kblockP.n ?_ | refine kblockP.r ?_ | refine kblockP.e ?_ | refine kblockP.o rfl ?_ | refine Runs.seq ?_ | refine Runs.region ?_ | refine Runs.block ?_ | refine Runs.cond ?_ | refine Runs.skip ?_ | refine Runs.loop ?_ | refine Runs.exit ?_ | refine Runs.ret ?_)
        repeat (first | refine pops.bin rfl rfl rfl rfl rfl rfl (cbin_inc (by omega)) ?_ | refine pops.fl rfl rfl rfl rfl rfl ?_ | refine pops.skip rfl rfl rfl ?_ | refine pops.load rfl rfl rfl rfl rfl (by first | assumption | exact cload_of (by assumption) rfl) ?_ | refine pops.len rfl rfl rfl rfl rfl rfl rfl rfl (by first | exact SlA.len (by assumption) rfl | exact SlI.len (by assumption) rfl | exact SlS.len (by assumption) rfl | exact Sl.len (by assumption) rfl) ?_)
        refine pops.nil ?_
        refine .n ⟨_, i + 1, rfl, ⟨rfl, rfl, rfl, rfl, rfl, rfl, trivial⟩, (by show l.length - (i + 1) < l.length - i; omega), by omega, rfl, next ⟨by omega, fun y h0 _ => by omega, fun _ => ⟨by omega, fun _ => by omega⟩⟩⟩
    · obtain ⟨y, hy⟩ : ∃ y, l[i - 1]? = some y := ⟨_, List.getElem?_eq_getElem (by omega)⟩
      repeat (first | refine pops.bin rfl rfl rfl rfl rfl rfl (cbin_inc (by omega)) ?_ | refine pops.fd rfl rfl rfl rfl rfl rfl ?_ | refine pops.skip rfl rfl rfl ?_ | refine pops.load rfl rfl rfl rfl rfl (by first | assumption | exact cload_of (by assumption) rfl) ?_ | refine pops.len rfl rfl rfl rfl rfl rfl rfl rfl (by first | exact SlA.len (by assumption) rfl | exact SlI.len (by assumption) rfl | exact SlS.len (by assumption) rfl | exact Sl.len (by assumption) rfl) ?_)
      refine pops.cmp rfl rfl rfl rfl rfl (fun q2 => ?_) (fun q2 => ?_)
      rotate_left
      · have q2 := of_decide_eq_false q2
        omega
      refine pops.fl rfl rfl rfl rfl rfl ?_
      refine pops.fl rfl rfl rfl rfl rfl ?_
      refine pops.fl rfl rfl rfl rfl rfl ?_
      refine pops.fl rfl rfl rfl rfl rfl ?_
      refine pops.bin rfl rfl rfl rfl rfl rfl (cbin_dec hi0 (by omega)) ?_
      refine pops.atI (f := Value.int .i64) rfl rfl rfl rfl rfl rfl rfl hv hy fun p2 hp2 => ?_
      refine pops.load rfl rfl rfl rfl rfl (by first | assumption | exact cload_of (by assumption) rfl) ?_
      refine pops.cmp rfl rfl rfl rfl rfl (fun q7 => ?_) (fun q7 => ?_)
      · have q7 := of_decide_eq_true q7
        repeat (first | refine pops.bin rfl rfl rfl rfl rfl rfl (cbin_inc (by omega)) ?_ | refine pops.fl rfl rfl rfl rfl rfl ?_ | refine pops.skip rfl rfl rfl ?_ | refine pops.load rfl rfl rfl rfl rfl (by first | assumption | exact cload_of (by assumption) rfl) ?_ | refine pops.len rfl rfl rfl rfl rfl rfl rfl rfl (by first | exact SlA.len (by assumption) rfl | exact SlI.len (by assumption) rfl | exact SlS.len (by assumption) rfl | exact Sl.len (by assumption) rfl) ?_)
        refine pops.nil ?_
        repeat (first | refine kthenP.n ?_ | refine kthenP.r ?_ | refine kthenP.e ?_ | refine kblockP.n ?_ | refine kblockP.r ?_ | refine kblockP.e ?_ | refine kblockP.o rfl ?_ | refine Runs.seq ?_ | refine Runs.region ?_ | refine Runs.block ?_ | refine Runs.cond ?_ | refine Runs.skip ?_ | refine Runs.loop ?_ | refine Runs.exit ?_ | refine Runs.ret ?_)
        refine pcond.t rfl ?_
        repeat (first | refine kthenP.n ?_ | refine kthenP.r ?_ | refine kthenP.e ?_ | refine kblockP.n ?_ | refine kblockP.r ?_ | refine kblockP.e ?_ | refine kblockP.o rfl ?_ | refine Runs.seq ?_ | refine Runs.region ?_ | refine Runs.block ?_ | refine Runs.cond ?_ | refine Runs.skip ?_ | refine Runs.loop ?_ | refine Runs.exit ?_ | refine Runs.ret ?_)
        repeat (first | refine pops.bin rfl rfl rfl rfl rfl rfl (cbin_inc (by omega)) ?_ | refine pops.fl rfl rfl rfl rfl rfl ?_ | refine pops.skip rfl rfl rfl ?_ | refine pops.load rfl rfl rfl rfl rfl (by first | assumption | exact cload_of (by assumption) rfl) ?_ | refine pops.len rfl rfl rfl rfl rfl rfl rfl rfl (by first | exact SlA.len (by assumption) rfl | exact SlI.len (by assumption) rfl | exact SlS.len (by assumption) rfl | exact Sl.len (by assumption) rfl) ?_)
        refine pops.nil ?_
        repeat (first | refine kthenP.n ?_ | refine kthenP.r ?_ | refine kthenP.e ?_ | refine kblockP.n ?_ | refine kblockP.r ?_ | refine kblockP.e ?_ | refine kblockP.o rfl ?_ | refine Runs.seq ?_ | refine Runs.region ?_ | refine Runs.block ?_ | refine Runs.cond ?_ | refine Runs.skip ?_ | refine Runs.loop ?_ | refine Runs.exit ?_ | refine Runs.ret ?_)
        refine pleave.r rfl ?_
        refine ⟨?_, Gr.refl _⟩
        rw [bad fun hs => by obtain ⟨h1, h2, h3⟩ := hs; first | omega | (have := h2 y hi0 hy; omega) | (have := h3 (by omega); omega)]
      have q7 := of_decide_eq_false q7
      repeat (first | refine pops.bin rfl rfl rfl rfl rfl rfl (cbin_inc (by omega)) ?_ | refine pops.fd rfl rfl rfl rfl rfl rfl ?_ | refine pops.skip rfl rfl rfl ?_ | refine pops.load rfl rfl rfl rfl rfl (by first | assumption | exact cload_of (by assumption) rfl) ?_ | refine pops.len rfl rfl rfl rfl rfl rfl rfl rfl (by first | exact SlA.len (by assumption) rfl | exact SlI.len (by assumption) rfl | exact SlS.len (by assumption) rfl | exact Sl.len (by assumption) rfl) ?_)
      refine pops.cmp rfl rfl rfl rfl rfl (fun q3 => ?_) (fun q3 => ?_)
      · have q3 := of_decide_eq_true q3
        refine pops.fl rfl rfl rfl rfl rfl ?_
        refine pops.fl rfl rfl rfl rfl rfl ?_
        refine pops.fl rfl rfl rfl rfl rfl ?_
        refine pops.bin rfl rfl rfl rfl rfl rfl (cbin_add1 (by omega) (by omega)) ?_
        refine pops.cmp rfl rfl rfl rfl rfl (fun q4 => ?_) (fun q4 => ?_)
        · have q4 := of_decide_eq_true q4
          repeat (first | refine pops.bin rfl rfl rfl rfl rfl rfl (cbin_inc (by omega)) ?_ | refine pops.fl rfl rfl rfl rfl rfl ?_ | refine pops.skip rfl rfl rfl ?_ | refine pops.load rfl rfl rfl rfl rfl (by first | assumption | exact cload_of (by assumption) rfl) ?_ | refine pops.len rfl rfl rfl rfl rfl rfl rfl rfl (by first | exact SlA.len (by assumption) rfl | exact SlI.len (by assumption) rfl | exact SlS.len (by assumption) rfl | exact Sl.len (by assumption) rfl) ?_)
          refine pops.nil ?_
          repeat (first | refine kthenP.n ?_ | refine kthenP.r ?_ | refine kthenP.e ?_ | refine kblockP.n ?_ | refine kblockP.r ?_ | refine kblockP.e ?_ | refine kblockP.o rfl ?_ | refine Runs.seq ?_ | refine Runs.region ?_ | refine Runs.block ?_ | refine Runs.cond ?_ | refine Runs.skip ?_ | refine Runs.loop ?_ | refine Runs.exit ?_ | refine Runs.ret ?_)
          refine pcond.t rfl ?_
          repeat (first | refine kthenP.n ?_ | refine kthenP.r ?_ | refine kthenP.e ?_ | refine kblockP.n ?_ | refine kblockP.r ?_ | refine kblockP.e ?_ | refine kblockP.o rfl ?_ | refine Runs.seq ?_ | refine Runs.region ?_ | refine Runs.block ?_ | refine Runs.cond ?_ | refine Runs.skip ?_ | refine Runs.loop ?_ | refine Runs.exit ?_ | refine Runs.ret ?_)
          repeat (first | refine pops.bin rfl rfl rfl rfl rfl rfl (cbin_inc (by omega)) ?_ | refine pops.fl rfl rfl rfl rfl rfl ?_ | refine pops.skip rfl rfl rfl ?_ | refine pops.load rfl rfl rfl rfl rfl (by first | assumption | exact cload_of (by assumption) rfl) ?_ | refine pops.len rfl rfl rfl rfl rfl rfl rfl rfl (by first | exact SlA.len (by assumption) rfl | exact SlI.len (by assumption) rfl | exact SlS.len (by assumption) rfl | exact Sl.len (by assumption) rfl) ?_)
          refine pops.nil ?_
          repeat (first | refine kthenP.n ?_ | refine kthenP.r ?_ | refine kthenP.e ?_ | refine kblockP.n ?_ | refine kblockP.r ?_ | refine kblockP.e ?_ | refine kblockP.o rfl ?_ | refine Runs.seq ?_ | refine Runs.region ?_ | refine Runs.block ?_ | refine Runs.cond ?_ | refine Runs.skip ?_ | refine Runs.loop ?_ | refine Runs.exit ?_ | refine Runs.ret ?_)
          refine pleave.r rfl ?_
          refine ⟨?_, Gr.refl _⟩
          rw [bad fun hs => by obtain ⟨h1, h2, h3⟩ := hs; first | omega | (have := h2 y hi0 hy; omega) | (have := h3 (by omega); omega)]
        · have q4 := of_decide_eq_false q4
          repeat (first | refine pops.bin rfl rfl rfl rfl rfl rfl (cbin_inc (by omega)) ?_ | refine pops.fd rfl rfl rfl rfl rfl rfl ?_ | refine pops.skip rfl rfl rfl ?_ | refine pops.load rfl rfl rfl rfl rfl (by first | assumption | exact cload_of (by assumption) rfl) ?_ | refine pops.len rfl rfl rfl rfl rfl rfl rfl rfl (by first | exact SlA.len (by assumption) rfl | exact SlI.len (by assumption) rfl | exact SlS.len (by assumption) rfl | exact Sl.len (by assumption) rfl) ?_)
          refine pops.cmp rfl rfl rfl rfl rfl (fun q5 => ?_) (fun q5 => ?_)
          · have q5 := of_decide_eq_true q5
            repeat (first | refine pops.bin rfl rfl rfl rfl rfl rfl (cbin_inc (by omega)) ?_ | refine pops.fd rfl rfl rfl rfl rfl rfl ?_ | refine pops.skip rfl rfl rfl ?_ | refine pops.load rfl rfl rfl rfl rfl (by first | assumption | exact cload_of (by assumption) rfl) ?_ | refine pops.len rfl rfl rfl rfl rfl rfl rfl rfl (by first | exact SlA.len (by assumption) rfl | exact SlI.len (by assumption) rfl | exact SlS.len (by assumption) rfl | exact Sl.len (by assumption) rfl) ?_)
            refine pops.cmp rfl rfl rfl rfl rfl (fun q6 => ?_) (fun q6 => ?_)
            · have q6 := of_decide_eq_true q6
              repeat (first | refine pops.bin rfl rfl rfl rfl rfl rfl (cbin_inc (by omega)) ?_ | refine pops.fl rfl rfl rfl rfl rfl ?_ | refine pops.skip rfl rfl rfl ?_ | refine pops.load rfl rfl rfl rfl rfl (by first | assumption | exact cload_of (by assumption) rfl) ?_ | refine pops.len rfl rfl rfl rfl rfl rfl rfl rfl (by first | exact SlA.len (by assumption) rfl | exact SlI.len (by assumption) rfl | exact SlS.len (by assumption) rfl | exact Sl.len (by assumption) rfl) ?_)
              refine pops.nil ?_
              repeat (first | refine kthenP.n ?_ | refine kthenP.r ?_ | refine kthenP.e ?_ | refine kblockP.n ?_ | refine kblockP.r ?_ | refine kblockP.e ?_ | refine kblockP.o rfl ?_ | refine Runs.seq ?_ | refine Runs.region ?_ | refine Runs.block ?_ | refine Runs.cond ?_ | refine Runs.skip ?_ | refine Runs.loop ?_ | refine Runs.exit ?_ | refine Runs.ret ?_)
              refine pcond.t rfl ?_
              repeat (first | refine kthenP.n ?_ | refine kthenP.r ?_ | refine kthenP.e ?_ | refine kblockP.n ?_ | refine kblockP.r ?_ | refine kblockP.e ?_ | refine kblockP.o rfl ?_ | refine Runs.seq ?_ | refine Runs.region ?_ | refine Runs.block ?_ | refine Runs.cond ?_ | refine Runs.skip ?_ | refine Runs.loop ?_ | refine Runs.exit ?_ | refine Runs.ret ?_)
              repeat (first | refine pops.bin rfl rfl rfl rfl rfl rfl (cbin_inc (by omega)) ?_ | refine pops.fl rfl rfl rfl rfl rfl ?_ | refine pops.skip rfl rfl rfl ?_ | refine pops.load rfl rfl rfl rfl rfl (by first | assumption | exact cload_of (by assumption) rfl) ?_ | refine pops.len rfl rfl rfl rfl rfl rfl rfl rfl (by first | exact SlA.len (by assumption) rfl | exact SlI.len (by assumption) rfl | exact SlS.len (by assumption) rfl | exact Sl.len (by assumption) rfl) ?_)
              refine pops.nil ?_
              repeat (first | refine kthenP.n ?_ | refine kthenP.r ?_ | refine kthenP.e ?_ | refine kblockP.n ?_ | refine kblockP.r ?_ | refine kblockP.e ?_ | refine kblockP.o rfl ?_ | refine Runs.seq ?_ | refine Runs.region ?_ | refine Runs.block ?_ | refine Runs.cond ?_ | refine Runs.skip ?_ | refine Runs.loop ?_ | refine Runs.exit ?_ | refine Runs.ret ?_)
              refine pleave.r rfl ?_
              refine ⟨?_, Gr.refl _⟩
              rw [bad fun hs => by obtain ⟨h1, h2, h3⟩ := hs; first | omega | (have := h2 y hi0 hy; omega) | (have := h3 (by omega); omega)]
            · have q6 := of_decide_eq_false q6
              repeat (first | refine pops.bin rfl rfl rfl rfl rfl rfl (cbin_inc (by omega)) ?_ | refine pops.fl rfl rfl rfl rfl rfl ?_ | refine pops.skip rfl rfl rfl ?_ | refine pops.load rfl rfl rfl rfl rfl (by first | assumption | exact cload_of (by assumption) rfl) ?_ | refine pops.len rfl rfl rfl rfl rfl rfl rfl rfl (by first | exact SlA.len (by assumption) rfl | exact SlI.len (by assumption) rfl | exact SlS.len (by assumption) rfl | exact Sl.len (by assumption) rfl) ?_)
              refine pops.nil ?_
              repeat (first | refine kthenP.n ?_ | refine kthenP.r ?_ | refine kthenP.e ?_ | refine kblockP.n ?_ | refine kblockP.r ?_ | refine kblockP.e ?_ | refine kblockP.o rfl ?_ | refine Runs.seq ?_ | refine Runs.region ?_ | refine Runs.block ?_ | refine Runs.cond ?_ | refine Runs.skip ?_ | refine Runs.loop ?_ | refine Runs.exit ?_ | refine Runs.ret ?_)
              refine pcond.f rfl ?_
              repeat (first | refine kthenP.n ?_ | refine kthenP.r ?_ | refine kthenP.e ?_ | refine kblockP.n ?_ | refine kblockP.r ?_ | refine kblockP.e ?_ | refine kblockP.o rfl ?_ | refine Runs.seq ?_ | refine Runs.region ?_ | refine Runs.block ?_ | refine Runs.cond ?_ | refine Runs.skip ?_ | refine Runs.loop ?_ | refine Runs.exit ?_ | refine Runs.ret ?_)
              repeat (first | refine pops.bin rfl rfl rfl rfl rfl rfl (cbin_inc (by omega)) ?_ | refine pops.fl rfl rfl rfl rfl rfl ?_ | refine pops.skip rfl rfl rfl ?_ | refine pops.load rfl rfl rfl rfl rfl (by first | assumption | exact cload_of (by assumption) rfl) ?_ | refine pops.len rfl rfl rfl rfl rfl rfl rfl rfl (by first | exact SlA.len (by assumption) rfl | exact SlI.len (by assumption) rfl | exact SlS.len (by assumption) rfl | exact Sl.len (by assumption) rfl) ?_)
              refine pops.nil ?_
              refine .n ⟨_, i + 1, rfl, ⟨rfl, rfl, rfl, rfl, rfl, rfl, trivial⟩, (by show l.length - (i + 1) < l.length - i; omega), by omega, rfl, next ⟨by omega, fun y' _ hy' => by rw [hy] at hy'; cases hy'; omega, fun _ => ⟨by omega, fun _ => by omega⟩⟩⟩
          · have q5 := of_decide_eq_false q5
            repeat (first | refine pops.bin rfl rfl rfl rfl rfl rfl (cbin_inc (by omega)) ?_ | refine pops.fl rfl rfl rfl rfl rfl ?_ | refine pops.skip rfl rfl rfl ?_ | refine pops.load rfl rfl rfl rfl rfl (by first | assumption | exact cload_of (by assumption) rfl) ?_ | refine pops.len rfl rfl rfl rfl rfl rfl rfl rfl (by first | exact SlA.len (by assumption) rfl | exact SlI.len (by assumption) rfl | exact SlS.len (by assumption) rfl | exact Sl.len (by assumption) rfl) ?_)
            refine pops.nil ?_
            repeat (first | refine kthenP.n ?_ | refine kthenP.r ?_ | refine kthenP.e ?_ | refine kblockP.n ?_ | refine kblockP.r ?_ | refine kblockP.e ?_ | refine kblockP.o rfl ?_ | refine Runs.seq ?_ | refine Runs.region ?_ | refine Runs.block ?_ | refine Runs.cond ?_ | refine Runs.skip ?_ | refine Runs.loop ?_ | refine Runs.exit ?_ | refine Runs.ret ?_)
            refine pcond.f rfl ?_
            repeat (first | refine kthenP.n ?_ | refine kthenP.r ?_ | refine kthenP.e ?_ | refine kblockP.n ?_ | refine kblockP.r ?_ | refine kblockP.e ?_ | refine kblockP.o rfl ?_ | refine Runs.seq ?_ | refine Runs.region ?_ | refine Runs.block ?_ | refine Runs.cond ?_ | refine Runs.skip ?_ | refine Runs.loop ?_ | refine Runs.exit ?_ | refine Runs.ret ?_)
            repeat (first | refine pops.bin rfl rfl rfl rfl rfl rfl (cbin_inc (by omega)) ?_ | refine pops.fl rfl rfl rfl rfl rfl ?_ | refine pops.skip rfl rfl rfl ?_ | refine pops.load rfl rfl rfl rfl rfl (by first | assumption | exact cload_of (by assumption) rfl) ?_ | refine pops.len rfl rfl rfl rfl rfl rfl rfl rfl (by first | exact SlA.len (by assumption) rfl | exact SlI.len (by assumption) rfl | exact SlS.len (by assumption) rfl | exact Sl.len (by assumption) rfl) ?_)
            refine pops.nil ?_
            refine .n ⟨_, i + 1, rfl, ⟨rfl, rfl, rfl, rfl, rfl, rfl, trivial⟩, (by show l.length - (i + 1) < l.length - i; omega), by omega, rfl, next ⟨by omega, fun y' _ hy' => by rw [hy] at hy'; cases hy'; omega, fun _ => ⟨by omega, fun _ => by omega⟩⟩⟩
      · have q3 := of_decide_eq_false q3
        repeat (first | refine pops.bin rfl rfl rfl rfl rfl rfl (cbin_inc (by omega)) ?_ | refine pops.fl rfl rfl rfl rfl rfl ?_ | refine pops.skip rfl rfl rfl ?_ | refine pops.load rfl rfl rfl rfl rfl (by first | assumption | exact cload_of (by assumption) rfl) ?_ | refine pops.len rfl rfl rfl rfl rfl rfl rfl rfl (by first | exact SlA.len (by assumption) rfl | exact SlI.len (by assumption) rfl | exact SlS.len (by assumption) rfl | exact Sl.len (by assumption) rfl) ?_)
        refine pops.nil ?_
        repeat (first | refine kthenP.n ?_ | refine kthenP.r ?_ | refine kthenP.e ?_ | refine kblockP.n ?_ | refine kblockP.r ?_ | refine kblockP.e ?_ | refine kblockP.o rfl ?_ | refine Runs.seq ?_ | refine Runs.region ?_ | refine Runs.block ?_ | refine Runs.cond ?_ | refine Runs.skip ?_ | refine Runs.loop ?_ | refine Runs.exit ?_ | refine Runs.ret ?_)
        refine pcond.f rfl ?_
        repeat (first | refine kthenP.n ?_ | refine kthenP.r ?_ | refine kthenP.e ?_ | refine kblockP.n ?_ | refine kblockP.r ?_ | refine kblockP.e ?_ | refine kblockP.o rfl ?_ | refine Runs.seq ?_ | refine Runs.region ?_ | refine Runs.block ?_ | refine Runs.cond ?_ | refine Runs.skip ?_ | refine Runs.loop ?_ | refine Runs.exit ?_ | refine Runs.ret ?_)
        repeat (first | refine pops.bin rfl rfl rfl rfl rfl rfl (cbin_inc (by omega)) ?_ | refine pops.fl rfl rfl rfl rfl rfl ?_ | refine pops.skip rfl rfl rfl ?_ | refine pops.load rfl rfl rfl rfl rfl (by first | assumption | exact cload_of (by assumption) rfl) ?_ | refine pops.len rfl rfl rfl rfl rfl rfl rfl rfl (by first | exact SlA.len (by assumption) rfl | exact SlI.len (by assumption) rfl | exact SlS.len (by assumption) rfl | exact Sl.len (by assumption) rfl) ?_)
        refine pops.nil ?_
        refine .n ⟨_, i + 1, rfl, ⟨rfl, rfl, rfl, rfl, rfl, rfl, trivial⟩, (by show l.length - (i + 1) < l.length - i; omega), by omega, rfl, next ⟨by omega, fun y' _ hy' => by rw [hy] at hy'; cases hy'; omega, fun _ => ⟨by omega, fun _ => by omega⟩⟩⟩
  · repeat (first | refine kthenP.n ?_ | refine kthenP.r ?_ | refine kthenP.e ?_ | refine kblockP.n ?_ | refine kblockP.r ?_ | refine kblockP.e ?_ | refine kblockP.o rfl ?_ | refine Runs.seq ?_ | refine Runs.region ?_ | refine Runs.block ?_ | refine Runs.cond ?_ | refine Runs.skip ?_ | refine Runs.loop ?_ | refine Runs.exit ?_ | refine Runs.ret ?_)
    repeat (first | refine pops.bin rfl rfl rfl rfl rfl rfl (cbin_inc (by omega)) ?_ | refine pops.fl rfl rfl rfl rfl rfl ?_ | refine pops.skip rfl rfl rfl ?_ | refine pops.load rfl rfl rfl rfl rfl (by first | assumption | exact cload_of (by assumption) rfl) ?_ | refine pops.len rfl rfl rfl rfl rfl rfl rfl rfl (by first | exact SlA.len (by assumption) rfl | exact SlI.len (by assumption) rfl | exact SlS.len (by assumption) rfl | exact Sl.len (by assumption) rfl) ?_)
    refine pops.nil ?_
    repeat (first | refine kthenP.n ?_ | refine kthenP.r ?_ | refine kthenP.e ?_ | refine kblockP.n ?_ | refine kblockP.r ?_ | refine kblockP.e ?_ | refine kblockP.o rfl ?_ | refine Runs.seq ?_ | refine Runs.region ?_ | refine Runs.block ?_ | refine Runs.cond ?_ | refine Runs.skip ?_ | refine Runs.loop ?_ | refine Runs.exit ?_ | refine Runs.ret ?_)
    refine pleave.r rfl ?_
    refine ⟨?_, Gr.refl _⟩
    show CRes.ret (.bool (decide ((0 : Int) < (l.length : Nat)))) = _
    cases hl0 : decide ((0 : Int) < (l.length : Nat)) with
    | true =>
      have := of_decide_eq_true hl0
      rw [tt_t (p := SingleP n l) ⟨by omega, fun j c hc => hall j c (by have := (List.getElem?_eq_some_iff.1 hc).1; omega) hc⟩]
    | false =>
      have := of_decide_eq_false hl0
      rw [tt_f (p := SingleP n l) (fun hP => by have := hP.1; omega)]
end Go.Proofs.YtnchhgjoiboibaaGreatDoor

set_option maxRecDepth 100000
set_option linter.unusedVariables false
set_option linter.unusedSimpArgs false
namespace Go.Proofs.YtnchhgjoiboibaaGreatDoor
open Go.Cx
variable {w : World} {h : CH}
theorem fn_indexFuncP : tab.fn 50 = some Tryz.f50 := by kernel_rfl
theorem fn_containsFuncP : tab.fn 30 = some Tryz.f30 := by kernel_rfl
theorem indexFuncP_calls {v : Value} {l : List Pat} {f : FuncId} {fn : Func} {cap : Array Value} {q : Pat → Bool} (hf : tab.fn f = some fn) (hv : PatsV tab kp h v l)
    (hp : ∀ p u h', p ∈ l → h'.wf → Gr h h' → PatV tab kp h' u p → CalF (X w) f (u :: cap.toList) h' fun r h'' => r = .ret (.bool (q p)) ∧ Gr h' h'') :
    CalF (X w) 50 [v, .func (.func f) #[] cap] h fun r h' => (∃ i : Nat, r = .ret (.int .i64 (i : Int)) ∧ l.any q = true ∨ r = .ret (.int .i64 (-1)) ∧ l.any q = false) ∧ Gr h h' := by
  refine CalF.wf fun hwf => ?_
  have hlt := hv.lt
  refine CalF.intro fn_indexFuncP rfl (Nat.le_of_ble_eq_true rfl) ?_
  repeat (first | refine kthenP.n ?_ | refine kthenP.r ?_ | refine kthenP.e ?_ | refine kblockP.n ?_ | refine kblockP.r ?_ | refine kblockP.e ?_ | refine kblockP.o rfl ?_ | refine Runs.seq ?_ | refine Runs.region ?_ | refine Runs.block ?_ | refine Runs.cond ?_ | refine Runs.skip ?_ | refine Runs.loop ?_ | refine Runs.exit ?_ | refine Runs.ret ?_)
  repeat (first | refine pops.bin rfl rfl rfl rfl rfl rfl (cbin_inc (by omega)) ?_ | refine pops.fl rfl rfl rfl rfl rfl ?_ | refine pops.skip rfl rfl rfl ?_ | refine pops.load rfl rfl rfl rfl rfl (by first | assumption | exact cload_of (by assumption) rfl) ?_ | refine pops.len rfl rfl rfl rfl rfl rfl rfl rfl (by first | exact SlA.len (by assumption) rfl | exact SlI.len (by assumption) rfl | exact SlS.len (by assumption) rfl | exact Sl.len (by assumption) rfl) ?_)
  refine pops.nil ?_
  repeat (first | refine kthenP.n ?_ | refine kthenP.r ?_ | refine kthenP.e ?_ | refine kblockP.n ?_ | refine kblockP.r ?_ | refine kblockP.e ?_ | refine kblockP.o rfl ?_ | refine Runs.seq ?_ | refine Runs.region ?_ | refine Runs.block ?_ | refine Runs.cond ?_ | refine Runs.skip ?_ | refine Runs.loop ?_ | refine Runs.exit ?_ | refine Runs.ret ?_)
  repeat (first | refine pops.bin rfl rfl rfl rfl rfl rfl (cbin_inc (by omega)) ?_ | refine pops.fl rfl rfl rfl rfl rfl ?_ | refine pops.skip rfl rfl rfl ?_ | refine pops.load rfl rfl rfl rfl rfl (by first | assumption | exact cload_of (by assumption) rfl) ?_ | refine pops.len rfl rfl rfl rfl rfl rfl rfl rfl (by first | exact SlA.len (by assumption) rfl | exact SlI.len (by assumption) rfl | exact SlS.len (by assumption) rfl | exact Sl.len (by assumption) rfl) ?_)
  refine pops.nil ?_
  repeat (first | refine kthenP.n ?_ | refine kthenP.r ?_ | refine kthenP.e ?_ | refine kblockP.n ?_ | refine kblockP.r ?_ | refine kblockP.e ?_ | refine kblockP.o rfl ?_ | refine Runs.seq ?_ | refine Runs.region ?_ | refine Runs.block ?_ | refine Runs.cond ?_ | refine Runs.skip ?_ | refine Runs.loop ?_ | refine Runs.exit ?_ | refine Runs.ret ?_)
  refine Loops.ind 5 (fun i : Nat => [(0, v), (1, .func (.func f) #[] cap), (4, .int .i64 0), (7, .int .i64 (l.length : Nat)), (8, .int .i64 (i : Nat))]) (fun i h' => i ≤ l.length ∧ Gr h h' ∧ ∀ (j : Nat) x, j < i → l[j]? = some x → q x = false) (fun i => l.length - i) 0 (by decide) ⟨rfl, rfl, rfl, rfl, rfl, trivial⟩ ⟨Nat.zero_le _, Gr.refl h, fun j x hj => absurd hj (Nat.not_lt_zero j)⟩ ?_
  intro i z h' hwf' ⟨hi, hg, hall⟩
  have hv' := PatsV.gr hwf hg hv
  repeat (first | refine kthenP.n ?_ | refine kthenP.r ?_ | refine kthenP.e ?_ | refine kblockP.n ?_ | refine kblockP.r ?_ | refine kblockP.e ?_ | refine kblockP.o rfl ?_ | refine Runs.seq ?_ | refine Runs.region ?_ | refine Runs.block ?_ | refine Runs.cond ?_ | refine Runs.skip ?_ | refine Runs.loop ?_ | refine Runs.exit ?_ | refine Runs.ret ?_)
  refine pops.fl rfl rfl rfl rfl rfl ?_
  refine pops.nil ?_
  repeat (first | refine kthenP.n ?_ | refine kthenP.r ?_ | refine kthenP.e ?_ | refine kblockP.n ?_ | refine kblockP.r ?_ | refine kblockP.e ?_ | refine kblockP.o rfl ?_ | refine Runs.seq ?_ | refine Runs.region ?_ | refine Runs.block ?_ | refine Runs.cond ?_ | refine Runs.skip ?_ | refine Runs.loop ?_ | refine Runs.exit ?_ | refine Runs.ret ?_)
  refine pcond.d (p := (i : Int) < (l.length : Nat)) rfl (fun hlt' => ?_) (fun hge => ?_)
  · have hlt' : i < l.length := by omega
    obtain ⟨x, hx⟩ : ∃ x, l[i]? = some x := ⟨_, List.getElem?_eq_getElem hlt'⟩
    repeat (first | refine kthenP.n ?_ | refine kthenP.r ?_ | refine kthenP.e ?_ | refine kblockP.n ?_ | refine kblockP.r ?_ | refine kblockP.e ?_ | refine kblockP.o rfl ?_ | refine Runs.seq ?_ | refine Runs.region ?_ | refine Runs.block ?_ | refine Runs.cond ?_ | refine Runs.skip ?_ | refine Runs.loop ?_ | refine Runs.exit ?_ | refine Runs.ret ?_)
    repeat (first | refine pops.bin rfl rfl rfl rfl rfl rfl (cbin_inc (by omega)) ?_ | refine pops.fl rfl rfl rfl rfl rfl ?_ | refine pops.skip rfl rfl rfl ?_ | refine pops.load rfl rfl rfl rfl rfl (by first | assumption | exact cload_of (by assumption) rfl) ?_ | refine pops.len rfl rfl rfl rfl rfl rfl rfl rfl (by first | exact SlA.len (by assumption) rfl | exact SlI.len (by assumption) rfl | exact SlS.len (by assumption) rfl | exact Sl.len (by assumption) rfl) ?_)
    refine pops.nil ?_
    repeat (first | refine kthenP.n ?_ | refine kthenP.r ?_ | refine kthenP.e ?_ | refine kblockP.n ?_ | refine kblockP.r ?_ | refine kblockP.e ?_ | refine kblockP.o rfl ?_ | refine Runs.seq ?_ | refine Runs.region ?_ | refine Runs.block ?_ | refine Runs.cond ?_ | refine Runs.skip ?_ | refine Runs.loop ?_ | refine Runs.exit ?_ | refine Runs.ret ?_)
    repeat (first | refine pops.bin rfl rfl rfl rfl rfl rfl (cbin_inc (by omega)) ?_ | refine pops.fl rfl rfl rfl rfl rfl ?_ | refine pops.skip rfl rfl rfl ?_ | refine pops.load rfl rfl rfl rfl rfl (by first | assumption | exact cload_of (by assumption) rfl) ?_ | refine pops.len rfl rfl rfl rfl rfl rfl rfl rfl (by first | exact SlA.len (by assumption) rfl | exact SlI.len (by assumption) rfl | exact SlS.len (by assumption) rfl | exact Sl.len (by assumption) rfl) ?_)
    refine pops.atA rfl rfl rfl rfl rfl rfl rfl hv' hx fun p u hp1 hu => ?_
    refine pops.load rfl rfl rfl rfl rfl (by first | assumption | exact cload_of (by assumption) rfl) ?_
    refine pops.callG rfl rfl rfl rfl rfl hf rfl rfl rfl (hp x u h' (List.mem_of_getElem? hx) hwf' hg hu) fun h2 hwf2 g2 => ?_
    refine pops.nil ?_
    repeat (first | refine kthenP.n ?_ | refine kthenP.r ?_ | refine kthenP.e ?_ | refine kblockP.n ?_ | refine kblockP.r ?_ | refine kblockP.e ?_ | refine kblockP.o rfl ?_ | refine Runs.seq ?_ | refine Runs.region ?_ | refine Runs.block ?_ | refine Runs.cond ?_ | refine Runs.skip ?_ | refine Runs.loop ?_ | refine Runs.exit ?_ | refine Runs.ret ?_)
    cases hpx : q x with
    | true =>
      refine pcond.t rfl ?_
      repeat (first | refine kthenP.n ?_ | refine kthenP.r ?_ | refine kthenP.e ?_ | refine kblockP.n ?_ | refine kblockP.r ?_ | refine kblockP.e ?_ | refine kblockP.o rfl ?_ | refine Runs.seq ?_ | refine Runs.region ?_ | refine Runs.block ?_ | refine Runs.cond ?_ | refine Runs.skip ?_ | refine Runs.loop ?_ | refine Runs.exit ?_ | refine Runs.ret ?_)
      repeat (first | refine pops.bin rfl rfl rfl rfl rfl rfl (cbin_inc (by omega)) ?_ | refine pops.fl rfl rfl rfl rfl rfl ?_ | refine pops.skip rfl rfl rfl ?_ | refine pops.load rfl rfl rfl rfl rfl (by first | assumption | exact cload_of (by assumption) rfl) ?_ | refine pops.len rfl rfl rfl rfl rfl rfl rfl rfl (by first | exact SlA.len (by assumption) rfl | exact SlI.len (by assumption) rfl | exact SlS.len (by assumption) rfl | exact Sl.len (by assumption) rfl) ?_)
      refine pops.nil ?_
      repeat (first | refine kthenP.n ?_ | refine kthenP.r ?_ | refine kthenP.e ?_ | refine kblockP.n ?_ | refine kblockP.r ?_ | refine kblockP.e ?_ | refine kblockP.o rfl ?_ | refine Runs.seq ?_ | refine Runs.region ?_ | refine Runs.block ?_ | refine Runs.cond ?_ | refine Runs.skip ?_ | refine Runs.loop ?_ | refine Runs.exit ?_ | refine Runs.ret ?_)
      refine pleave.r rfl ?_
      refine ⟨⟨i, .inl ⟨rfl, ?_⟩⟩, hg.trans g2⟩
      exact List.any_eq_true.2 ⟨x, List.mem_of_getElem? hx, hpx⟩
    | false =>
      refine pcond.f rfl ?_
      repeat (first | refine kthenP.n ?_ | refine kthenP.r ?_ | refine kthenP.e ?_ | refine kblockP.n ?_ | refine kblockP.r ?_ | refine kblockP.e ?_ | refine kblockP.o rfl ?_ | refine Runs.seq ?_ | refine Runs.region ?_ | refine Runs.block ?_ | refine Runs.cond ?_ | refine Runs.skip ?_ | refine Runs.loop ?_ | refine Runs.exit ?_ | refine Runs.ret ?_)
      repeat (first | refine pops.bin rfl rfl rfl rfl rfl rfl (cbin_inc (by omega)) ?_ | refine pops.fl rfl rfl rfl rfl rfl ?_ | refine pops.skip rfl rfl rfl ?_ | refine pops.load rfl rfl rfl rfl rfl (by first | assumption | exact cload_of (by assumption) rfl) ?_ | refine pops.len rfl rfl rfl rfl rfl rfl rfl rfl (by first | exact SlA.len (by assumption) rfl | exact SlI.len (by assumption) rfl | exact SlS.len (by assumption) rfl | exact Sl.len (by assumption) rfl) ?_)
      refine pops.nil ?_
      refine .n ⟨_, i + 1, rfl, ⟨rfl, rfl, rfl, rfl, rfl, trivial⟩, (by show l.length - (i + 1) < l.length - i; omega), by omega, hg.trans g2, all_next hall hx hpx⟩
  · repeat (first | refine kthenP.n ?_ | refine kthenP.r ?_ | refine kthenP.e ?_ | refine kblockP.n ?_ | refine kblockP.r ?_ | refine kblockP.e ?_ | refine kblockP.o rfl ?_ | refine Runs.seq ?_ | refine Runs.region ?_ | refine Runs.block ?_ | refine Runs.cond ?_ | refine Runs.skip ?_ | refine Runs.loop ?_ | refine Runs.exit ?_ | refine Runs.ret ?_)
    refine pops.fl rfl rfl rfl rfl rfl ?_
    refine pops.nil ?_
    repeat (first | refine kthenP.n ?_ | refine kthenP.r ?_ | refine kthenP.e ?_ | refine kblockP.n ?_ | refine kblockP.r ?_ | refine kblockP.e ?_ | refine kblockP.o rfl ?_ | refine Runs.seq ?_ | refine Runs.region ?_ | refine Runs.block ?_ | refine Runs.cond ?_ | refine Runs.skip ?_ | refine Runs.loop ?_ | refine Runs.exit ?_ | refine Runs.ret ?_)
    refine pleave.r rfl ?_
    refine ⟨⟨0, .inr ⟨rfl, ?_⟩⟩, hg⟩
    rw [List.any_eq_false]
    intro x hx
    rw [all_end hall (by omega) x hx]
    decide
theorem containsFuncP_calls {v : Value} {l : List Pat} {f : FuncId} {fn : Func} {cap : Array Value} {q : Pat → Bool} (hf : tab.fn f = some fn) (hv : PatsV tab kp h v l)
    (hp : ∀ p u h', p ∈ l → h'.wf → Gr h h' → PatV tab kp h' u p → CalF (X w) f (u :: cap.toList) h' fun r h'' => r = .ret (.bool (q p)) ∧ Gr h' h'') :
    CalF (X w) 30 [v, .func (.func f) #[] cap] h fun r h' => r = .ret (.bool (l.any q)) ∧ Gr h h' := by
  refine CalF.intro fn_containsFuncP rfl (Nat.le_of_ble_eq_true rfl) ?_
  repeat (first | refine kthenP.n ?_ | refine kthenP.r ?_ | refine kthenP.e ?_ | refine kblockP.n ?_ | refine kblockP.r ?_ | refine kblockP.e ?_ | refine kblockP.o rfl ?_ | refine Runs.seq ?_ | refine Runs.region ?_ | refine Runs.block ?_ | refine Runs.cond ?_ | refine Runs.skip ?_ | refine Runs.loop ?_ | refine Runs.exit ?_ | refine Runs.ret ?_)
  refine pops.fl rfl rfl rfl rfl rfl ?_
  refine pops.nil ?_
  repeat (first | refine kthenP.n ?_ | refine kthenP.r ?_ | refine kthenP.e ?_ | refine kblockP.n ?_ | refine kblockP.r ?_ | refine kblockP.e ?_ | refine kblockP.o rfl ?_ | refine Runs.seq ?_ | refine Runs.region ?_ | refine Runs.block ?_ | refine Runs.cond ?_ | refine Runs.skip ?_ | refine Runs.loop ?_ | refine Runs.exit ?_ | refine Runs.ret ?_)
  repeat (first | refine pops.bin rfl rfl rfl rfl rfl rfl (cbin_inc (by omega)) ?_ | refine pops.fl rfl rfl rfl rfl rfl ?_ | refine pops.skip rfl rfl rfl ?_ | refine pops.load rfl rfl rfl rfl rfl (by first | assumption | exact cload_of (by assumption) rfl) ?_ | refine pops.len rfl rfl rfl rfl rfl rfl rfl rfl (by first | exact SlA.len (by assumption) rfl | exact SlI.len (by assumption) rfl | exact SlS.len (by assumption) rfl | exact Sl.len (by assumption) rfl) ?_)
  refine pops.callV rfl rfl rfl rfl rfl fn_indexFuncP rfl rfl ((indexFuncP_calls hf hv hp).mono fun r h2 hh => ?_)
  obtain ⟨⟨i, ⟨rfl, hr⟩ | ⟨rfl, hr⟩⟩, g⟩ := hh
  · refine ⟨_, rfl, ?_⟩
    repeat (first | refine pops.bin rfl rfl rfl rfl rfl rfl (cbin_inc (by omega)) ?_ | refine pops.fl rfl rfl rfl rfl rfl ?_ | refine pops.skip rfl rfl rfl ?_ | refine pops.load rfl rfl rfl rfl rfl (by first | assumption | exact cload_of (by assumption) rfl) ?_ | refine pops.len rfl rfl rfl rfl rfl rfl rfl rfl (by first | exact SlA.len (by assumption) rfl | exact SlI.len (by assumption) rfl | exact SlS.len (by assumption) rfl | exact Sl.len (by assumption) rfl) ?_)
    refine pops.nil ?_
    repeat (first | refine kthenP.n ?_ | refine kthenP.r ?_ | refine kthenP.e ?_ | refine kblockP.n ?_ | refine kblockP.r ?_ | refine kblockP.e ?_ | refine kblockP.o rfl ?_ | refine Runs.seq ?_ | refine Runs.region ?_ | refine Runs.block ?_ | refine Runs.cond ?_ | refine Runs.skip ?_ | refine Runs.loop ?_ | refine Runs.exit ?_ | refine Runs.ret ?_)
    refine pleave.r rfl ?_
    rw [hr]
    exact ⟨by simp, g⟩
  · refine ⟨_, rfl, ?_⟩
    repeat (first | refine pops.bin rfl rfl rfl rfl rfl rfl (cbin_inc (by omega)) ?_ | refine pops.fl rfl rfl rfl rfl rfl ?_ | refine pops.skip rfl rfl rfl ?_ | refine pops.load rfl rfl rfl rfl rfl (by first | assumption | exact cload_of (by assumption) rfl) ?_ | refine pops.len rfl rfl rfl rfl rfl rfl rfl rfl (by first | exact SlA.len (by assumption) rfl | exact SlI.len (by assumption) rfl | exact SlS.len (by assumption) rfl | exact Sl.len (by assumption) rfl) ?_)
    refine pops.nil ?_
    repeat (first | refine kthenP.n ?_ | refine kthenP.r ?_ | refine kthenP.e ?_ | refine kblockP.n ?_ | refine kblockP.r ?_ | refine kblockP.e ?_ | refine kblockP.o rfl ?_ | refine Runs.seq ?_ | refine Runs.region ?_ | refine Runs.block ?_ | refine Runs.cond ?_ | refine Runs.skip ?_ | refine Runs.loop ?_ | refine Runs.exit ?_ | refine Runs.ret ?_)
    refine pleave.r rfl ?_
    rw [hr]
    exact ⟨by simp, g⟩
theorem fn_valid48 : tab.fn 31 = some Tryz.f31 := by kernel_rfl
theorem fn_pvalid : tab.fn 13 = some Tryz.f13 := by kernel_rfl
theorem pvalid1_calls {n : Int} {L : Nat} (hL : L ≤ 1000) (ih : ∀ {h : CH} {v : Value} {p : Pat}, PatV tab kp h v p → CalF (X w) 13 [v, .int .i64 n, .int .i64 (L : Int)] h fun r h' => r = .ret (.bool (patOk n L p)) ∧ Gr h h')
    {v : Value} {p : Pat} {bn bl : Nat} (hv : PatV tab kp h v p) (hn : h.get bn = some (.cells [.int .i64 n] false false)) (hl : h.get bl = some (.cells [.int .i64 ((L + 1 : Nat) : Int)] false false)) :
    CalF (X w) 31 [v, .pointer (some ⟨bn, 0, none⟩), .pointer (some ⟨bl, 0, none⟩)] h fun r h' => r = .ret (.bool (!patOk n L p)) ∧ Gr h h' := by
  refine CalF.wf fun hwf => ?_
  have hV := hv
  obtain ⟨c, s, rfl, oc, os, hc, hs⟩ := hv.open
  refine CalF.intro fn_valid48 rfl (Nat.le_of_ble_eq_true rfl) ?_
  repeat (first | refine kthenP.n ?_ | refine kthenP.r ?_ | refine kthenP.e ?_ | refine kblockP.n ?_ | refine kblockP.r ?_ | refine kblockP.e ?_ | refine kblockP.o rfl ?_ | refine Runs.seq ?_ | refine Runs.region ?_ | refine Runs.block ?_ | refine Runs.cond ?_ | refine Runs.skip ?_ | refine Runs.loop ?_ | refine Runs.exit ?_ | refine Runs.ret ?_)
  refine pops.box (cs := [.int .i64 p.kind, c, s]) rfl rfl rfl rfl (by simp only [List.all_cons, List.all_nil, oc, os, Bool.and_true]; rfl) rfl rfl hwf fun b h1 hb hwf1 g1 hcb => ?_
  have hn1 := g1.at hwf hn
  have hl1 := g1.at hwf hl
  refine pops.fl rfl rfl rfl rfl rfl ?_
  refine pops.nil ?_
  repeat (first | refine kthenP.n ?_ | refine kthenP.r ?_ | refine kthenP.e ?_ | refine kblockP.n ?_ | refine kblockP.r ?_ | refine kblockP.e ?_ | refine kblockP.o rfl ?_ | refine Runs.seq ?_ | refine Runs.region ?_ | refine Runs.block ?_ | refine Runs.cond ?_ | refine Runs.skip ?_ | refine Runs.loop ?_ | refine Runs.exit ?_ | refine Runs.ret ?_)
  refine pops.load rfl rfl rfl rfl rfl (by first | assumption | exact cload_of (by assumption) rfl) ?_
  refine pops.load rfl rfl rfl rfl rfl (cload_of hn1 rfl) ?_
  refine pops.load rfl rfl rfl rfl rfl (cload_of hl1 rfl) ?_
  refine pops.bin rfl rfl rfl rfl rfl rfl (cbin_dec (by omega) (by omega)) ?_
  refine pops.callG rfl rfl rfl rfl rfl fn_pvalid rfl rfl rfl (ih (hV.gr hwf g1)) fun h2 hwf2 g2 => ?_
  repeat (first | refine pops.bin rfl rfl rfl rfl rfl rfl (cbin_inc (by omega)) ?_ | refine pops.fl rfl rfl rfl rfl rfl ?_ | refine pops.skip rfl rfl rfl ?_ | refine pops.load rfl rfl rfl rfl rfl (by first | assumption | exact cload_of (by assumption) rfl) ?_ | refine pops.len rfl rfl rfl rfl rfl rfl rfl rfl (by first | exact SlA.len (by assumption) rfl | exact SlI.len (by assumption) rfl | exact SlS.len (by assumption) rfl | exact Sl.len (by assumption) rfl) ?_)
  refine pops.nil ?_
  repeat (first | refine kthenP.n ?_ | refine kthenP.r ?_ | refine kthenP.e ?_ | refine kblockP.n ?_ | refine kblockP.r ?_ | refine kblockP.e ?_ | refine kblockP.o rfl ?_ | refine Runs.seq ?_ | refine Runs.region ?_ | refine Runs.block ?_ | refine Runs.cond ?_ | refine Runs.skip ?_ | refine Runs.loop ?_ | refine Runs.exit ?_ | refine Runs.ret ?_)
  refine pleave.r rfl ?_
  exact ⟨rfl, g1.trans g2⟩
theorem pvalid_calls {n : Int} (hn : -1 ≤ n) (hn2 : n < 1000000) : ∀ (L : Nat), L ≤ 1000 → ∀ {h : CH} {v : Value} {p : Pat}, PatV tab kp h v p → CalF (X w) 13 [v, .int .i64 n, .int .i64 (L : Int)] h fun r h' => r = .ret (.bool (patOk n L p)) ∧ Gr h h' := by
  intro L
  induction L with
  | zero =>
    intro hL h v p hv
    refine CalF.wf fun hwf => ?_
    obtain ⟨c, s, rfl, oc, os, hc, hs⟩ := hv.open
    refine CalF.intro fn_pvalid rfl (Nat.le_of_ble_eq_true rfl) ?_
    repeat (first | refine kthenP.n ?_ | refine kthenP.r ?_ | refine kthenP.e ?_ | refine kblockP.n ?_ | refine kblockP.r ?_ | refine kblockP.e ?_ | refine kblockP.o rfl ?_ | refine Runs.seq ?_ | refine Runs.region ?_ | refine Runs.block ?_ | refine Runs.cond ?_ | refine Runs.skip ?_ | refine Runs.loop ?_ | refine Runs.exit ?_ | refine Runs.ret ?_)
    refine pops.box (cs := [.int .i64 p.kind, c, s]) rfl rfl rfl rfl (by simp only [List.all_cons, List.all_nil, oc, os, Bool.and_true]; rfl) rfl rfl hwf fun b h1 hb hwf1 g1 hcb => ?_
    refine pops.box (cs := [.int .i64 n]) rfl rfl rfl rfl rfl rfl rfl hwf1 fun bn h2 hbn hwf2 g2 hcn => ?_
    refine pops.box (cs := [.int .i64 ((0 : Nat) : Int)]) rfl rfl rfl rfl rfl rfl rfl hwf2 fun bl h3 hbl hwf3 g3 hcl => ?_
    refine pops.fl rfl rfl rfl rfl rfl ?_
    refine pops.nil ?_
    repeat (first | refine kthenP.n ?_ | refine kthenP.r ?_ | refine kthenP.e ?_ | refine kblockP.n ?_ | refine kblockP.r ?_ | refine kblockP.e ?_ | refine kblockP.o rfl ?_ | refine Runs.seq ?_ | refine Runs.region ?_ | refine Runs.block ?_ | refine Runs.cond ?_ | refine Runs.skip ?_ | refine Runs.loop ?_ | refine Runs.exit ?_ | refine Runs.ret ?_)
    repeat (first | refine pops.bin rfl rfl rfl rfl rfl rfl (cbin_inc (by omega)) ?_ | refine pops.fl rfl rfl rfl rfl rfl ?_ | refine pops.skip rfl rfl rfl ?_ | refine pops.load rfl rfl rfl rfl rfl (by first | assumption | exact cload_of (by assumption) rfl) ?_ | refine pops.len rfl rfl rfl rfl rfl rfl rfl rfl (by first | exact SlA.len (by assumption) rfl | exact SlI.len (by assumption) rfl | exact SlS.len (by assumption) rfl | exact Sl.len (by assumption) rfl) ?_)
    refine pops.nil ?_
    repeat (first | refine kthenP.n ?_ | refine kthenP.r ?_ | refine kthenP.e ?_ | refine kblockP.n ?_ | refine kblockP.r ?_ | refine kblockP.e ?_ | refine kblockP.o rfl ?_ | refine Runs.seq ?_ | refine Runs.region ?_ | refine Runs.block ?_ | refine Runs.cond ?_ | refine Runs.skip ?_ | refine Runs.loop ?_ | refine Runs.exit ?_ | refine Runs.ret ?_)
    refine pcond.t rfl ?_
    repeat (first | refine kthenP.n ?_ | refine kthenP.r ?_ | refine kthenP.e ?_ | refine kblockP.n ?_ | refine kblockP.r ?_ | refine kblockP.e ?_ | refine kblockP.o rfl ?_ | refine Runs.seq ?_ | refine Runs.region ?_ | refine Runs.block ?_ | refine Runs.cond ?_ | refine Runs.skip ?_ | refine Runs.loop ?_ | refine Runs.exit ?_ | refine Runs.ret ?_)
    repeat (first | refine pops.bin rfl rfl rfl rfl rfl rfl (cbin_inc (by omega)) ?_ | refine pops.fl rfl rfl rfl rfl rfl ?_ | refine pops.skip rfl rfl rfl ?_ | refine pops.load rfl rfl rfl rfl rfl (by first | assumption | exact cload_of (by assumption) rfl) ?_ | refine pops.len rfl rfl rfl rfl rfl rfl rfl rfl (by first | exact SlA.len (by assumption) rfl | exact SlI.len (by assumption) rfl | exact SlS.len (by assumption) rfl | exact Sl.len (by assumption) rfl) ?_)
    refine pops.nil ?_
    repeat (first | refine kthenP.n ?_ | refine kthenP.r ?_ | refine kthenP.e ?_ | refine kblockP.n ?_ | refine kblockP.r ?_ | refine kblockP.e ?_ | refine kblockP.o rfl ?_ | refine Runs.seq ?_ | refine Runs.region ?_ | refine Runs.block ?_ | refine Runs.cond ?_ | refine Runs.skip ?_ | refine Runs.loop ?_ | refine Runs.exit ?_ | refine Runs.ret ?_)
    refine pleave.r rfl ?_
    exact ⟨rfl, (g1.trans g2).trans g3⟩
  | succ L ih =>
    intro hL h v p hv
    refine CalF.wf fun hwf => ?_
    obtain ⟨c, s, rfl, oc, os, hc, hs⟩ := hv.open
    refine CalF.intro fn_pvalid rfl (Nat.le_of_ble_eq_true rfl) ?_
    repeat (first | refine kthenP.n ?_ | refine kthenP.r ?_ | refine kthenP.e ?_ | refine kblockP.n ?_ | refine kblockP.r ?_ | refine kblockP.e ?_ | refine kblockP.o rfl ?_ | refine Runs.seq ?_ | refine Runs.region ?_ | refine Runs.block ?_ | refine Runs.cond ?_ | refine Runs.skip ?_ | refine Runs.loop ?_ | refine Runs.exit ?_ | refine Runs.ret ?_)
    refine pops.box (cs := [.int .i64 p.kind, c, s]) rfl rfl rfl rfl (by simp only [List.all_cons, List.all_nil, oc, os, Bool.and_true]; rfl) rfl rfl hwf fun b h1 hb hwf1 g1 hcb => ?_
    refine pops.box (cs := [.int .i64 n]) rfl rfl rfl rfl rfl rfl rfl hwf1 fun bn h2 hbn hwf2 g2 hcn => ?_
    refine pops.box (cs := [.int .i64 ((L + 1 : Nat) : Int)]) rfl rfl rfl rfl rfl rfl rfl hwf2 fun bl h3 hbl hwf3 g3 hcl => ?_
    have g03 := (g1.trans g2).trans g3
    replace hc := Sl.gr hc hwf g03
    replace hs := PatsV.gr hwf g03 hs
    replace hcb := g3.at hwf2 (g2.at hwf1 hcb)
    replace hcn := g3.at hwf2 hcn
    have lc := hc.1
    rw [List.length_map] at lc
    have ls := hs.lt
    have e0 : patOk n (L + 1) p = cond (decide (p.kind = 1)) (decide (p.subs.length = 0) && tt (SingleP n p.classes)) (kindB p && decide (p.classes.length = 0) && p.subs.all (patOk n L)) := rfl
    rw [e0]
    refine pops.fl rfl rfl rfl rfl rfl ?_
    refine pops.nil ?_
    repeat (first | refine kthenP.n ?_ | refine kthenP.r ?_ | refine kthenP.e ?_ | refine kblockP.n ?_ | refine kblockP.r ?_ | refine kblockP.e ?_ | refine kblockP.o rfl ?_ | refine Runs.seq ?_ | refine Runs.region ?_ | refine Runs.block ?_ | refine Runs.cond ?_ | refine Runs.skip ?_ | refine Runs.loop ?_ | refine Runs.exit ?_ | refine Runs.ret ?_)
    refine pops.load rfl rfl rfl rfl rfl (cload_of hcl rfl) ?_
    refine pops.cmp rfl rfl rfl rfl rfl (fun q0 => ?_) (fun q0 => ?_)
    · have q0 := of_decide_eq_true q0
      omega
    refine pops.nil ?_
    repeat (first | refine kthenP.n ?_ | refine kthenP.r ?_ | refine kthenP.e ?_ | refine kblockP.n ?_ | refine kblockP.r ?_ | refine kblockP.e ?_ | refine kblockP.o rfl ?_ | refine Runs.seq ?_ | refine Runs.region ?_ | refine Runs.block ?_ | refine Runs.cond ?_ | refine Runs.skip ?_ | refine Runs.loop ?_ | refine Runs.exit ?_ | refine Runs.ret ?_)
    refine pcond.f rfl ?_
    repeat (first | refine kthenP.n ?_ | refine kthenP.r ?_ | refine kthenP.e ?_ | refine kblockP.n ?_ | refine kblockP.r ?_ | refine kblockP.e ?_ | refine kblockP.o rfl ?_ | refine Runs.seq ?_ | refine Runs.region ?_ | refine Runs.block ?_ | refine Runs.cond ?_ | refine Runs.skip ?_ | refine Runs.loop ?_ | refine Runs.exit ?_ | refine Runs.ret ?_)
    refine pops.fl rfl rfl rfl rfl rfl ?_
    refine pops.load rfl rfl rfl rfl rfl (cload_of hcb rfl) ?_
    refine pops.nil ?_
    repeat (first | refine kthenP.n ?_ | refine kthenP.r ?_ | refine kthenP.e ?_ | refine kblockP.n ?_ | refine kblockP.r ?_ | refine kblockP.e ?_ | refine kblockP.o rfl ?_ | refine Runs.seq ?_ | refine Runs.region ?_ | refine Runs.block ?_ | refine Runs.cond ?_ | refine Runs.skip ?_ | refine Runs.loop ?_ | refine Runs.exit ?_ | refine Runs.ret ?_)
    refine pops.cmp rfl rfl rfl rfl rfl (fun k1 => ?_) (fun k1 => ?_)
    · have k1 := of_decide_eq_true k1
      rw [decide_eq_true k1]
      repeat (first | refine pops.bin rfl rfl rfl rfl rfl rfl (cbin_inc (by omega)) ?_ | refine pops.fl rfl rfl rfl rfl rfl ?_ | refine pops.skip rfl rfl rfl ?_ | refine pops.load rfl rfl rfl rfl rfl (by first | assumption | exact cload_of (by assumption) rfl) ?_ | refine pops.len rfl rfl rfl rfl rfl rfl rfl rfl (by first | exact SlA.len (by assumption) rfl | exact SlI.len (by assumption) rfl | exact SlS.len (by assumption) rfl | exact Sl.len (by assumption) rfl) ?_)
      refine pops.nil ?_
      repeat (first | refine kthenP.n ?_ | refine kthenP.r ?_ | refine kthenP.e ?_ | refine kblockP.n ?_ | refine kblockP.r ?_ | refine kblockP.e ?_ | refine kblockP.o rfl ?_ | refine Runs.seq ?_ | refine Runs.region ?_ | refine Runs.block ?_ | refine Runs.cond ?_ | refine Runs.skip ?_ | refine Runs.loop ?_ | refine Runs.exit ?_ | refine Runs.ret ?_)
      refine pcond.t rfl ?_
      repeat (first | refine kthenP.n ?_ | refine kthenP.r ?_ | refine kthenP.e ?_ | refine kblockP.n ?_ | refine kblockP.r ?_ | refine kblockP.e ?_ | refine kblockP.o rfl ?_ | refine Runs.seq ?_ | refine Runs.region ?_ | refine Runs.block ?_ | refine Runs.cond ?_ | refine Runs.skip ?_ | refine Runs.loop ?_ | refine Runs.exit ?_ | refine Runs.ret ?_)
      repeat (first | refine pops.bin rfl rfl rfl rfl rfl rfl (cbin_inc (by omega)) ?_ | refine pops.fd rfl rfl rfl rfl rfl rfl ?_ | refine pops.skip rfl rfl rfl ?_ | refine pops.load rfl rfl rfl rfl rfl (by first | assumption | exact cload_of (by assumption) rfl) ?_ | refine pops.len rfl rfl rfl rfl rfl rfl rfl rfl (by first | exact SlA.len (by assumption) rfl | exact SlI.len (by assumption) rfl | exact SlS.len (by assumption) rfl | exact Sl.len (by assumption) rfl) ?_)
      refine pops.cmp rfl rfl rfl rfl rfl (fun z => ?_) (fun z => ?_)
      · have z : p.subs.length = 0 := by have := of_decide_eq_true z; omega
        repeat (first | refine pops.bin rfl rfl rfl rfl rfl rfl (cbin_inc (by omega)) ?_ | refine pops.fl rfl rfl rfl rfl rfl ?_ | refine pops.skip rfl rfl rfl ?_ | refine pops.load rfl rfl rfl rfl rfl (by first | assumption | exact cload_of (by assumption) rfl) ?_ | refine pops.len rfl rfl rfl rfl rfl rfl rfl rfl (by first | exact SlA.len (by assumption) rfl | exact SlI.len (by assumption) rfl | exact SlS.len (by assumption) rfl | exact Sl.len (by assumption) rfl) ?_)
        refine pops.callG rfl rfl rfl rfl rfl fn_single rfl rfl rfl (single_calls n hn hn2 hc) fun h5 hwf5 g5 => ?_
        repeat (first | refine pops.bin rfl rfl rfl rfl rfl rfl (cbin_inc (by omega)) ?_ | refine pops.fl rfl rfl rfl rfl rfl ?_ | refine pops.skip rfl rfl rfl ?_ | refine pops.load rfl rfl rfl rfl rfl (by first | assumption | exact cload_of (by assumption) rfl) ?_ | refine pops.len rfl rfl rfl rfl rfl rfl rfl rfl (by first | exact SlA.len (by assumption) rfl | exact SlI.len (by assumption) rfl | exact SlS.len (by assumption) rfl | exact Sl.len (by assumption) rfl) ?_)
        refine pops.nil ?_
        repeat (first | refine kthenP.n ?_ | refine kthenP.r ?_ | refine kthenP.e ?_ | refine kblockP.n ?_ | refine kblockP.r ?_ | refine kblockP.e ?_ | refine kblockP.o rfl ?_ | refine Runs.seq ?_ | refine Runs.region ?_ | refine Runs.block ?_ | refine Runs.cond ?_ | refine Runs.skip ?_ | refine Runs.loop ?_ | refine Runs.exit ?_ | refine Runs.ret ?_)
        refine pleave.r rfl ?_
        refine ⟨?_, g03.trans g5⟩
        rw [decide_eq_true z]
        rfl
      · have z : ¬ p.subs.length = 0 := by have := of_decide_eq_false z; omega
        repeat (first | refine pops.bin rfl rfl rfl rfl rfl rfl (cbin_inc (by omega)) ?_ | refine pops.fl rfl rfl rfl rfl rfl ?_ | refine pops.skip rfl rfl rfl ?_ | refine pops.load rfl rfl rfl rfl rfl (by first | assumption | exact cload_of (by assumption) rfl) ?_ | refine pops.len rfl rfl rfl rfl rfl rfl rfl rfl (by first | exact SlA.len (by assumption) rfl | exact SlI.len (by assumption) rfl | exact SlS.len (by assumption) rfl | exact Sl.len (by assumption) rfl) ?_)
        refine pops.nil ?_
        repeat (first | refine kthenP.n ?_ | refine kthenP.r ?_ | refine kthenP.e ?_ | refine kblockP.n ?_ | refine kblockP.r ?_ | refine kblockP.e ?_ | refine kblockP.o rfl ?_ | refine Runs.seq ?_ | refine Runs.region ?_ | refine Runs.block ?_ | refine Runs.cond ?_ | refine Runs.skip ?_ | refine Runs.loop ?_ | refine Runs.exit ?_ | refine Runs.ret ?_)
        refine pleave.r rfl ?_
        refine ⟨?_, g03⟩
        rw [decide_eq_false z]
        rfl
    have k1 := of_decide_eq_false k1
    rw [decide_eq_false k1]
    simp only [cond_false]
    repeat (first | refine pops.bin rfl rfl rfl rfl rfl rfl (cbin_inc (by omega)) ?_ | refine pops.fl rfl rfl rfl rfl rfl ?_ | refine pops.skip rfl rfl rfl ?_ | refine pops.load rfl rfl rfl rfl rfl (by first | assumption | exact cload_of (by assumption) rfl) ?_ | refine pops.len rfl rfl rfl rfl rfl rfl rfl rfl (by first | exact SlA.len (by assumption) rfl | exact SlI.len (by assumption) rfl | exact SlS.len (by assumption) rfl | exact Sl.len (by assumption) rfl) ?_)
    refine pops.nil ?_
    repeat (first | refine kthenP.n ?_ | refine kthenP.r ?_ | refine kthenP.e ?_ | refine kblockP.n ?_ | refine kblockP.r ?_ | refine kblockP.e ?_ | refine kblockP.o rfl ?_ | refine Runs.seq ?_ | refine Runs.region ?_ | refine Runs.block ?_ | refine Runs.cond ?_ | refine Runs.skip ?_ | refine Runs.loop ?_ | refine Runs.exit ?_ | refine Runs.ret ?_)
    refine pcond.f rfl ?_
    repeat (first | refine kthenP.n ?_ | refine kthenP.r ?_ | refine kthenP.e ?_ | refine kblockP.n ?_ | refine kblockP.r ?_ | refine kblockP.e ?_ | refine kblockP.o rfl ?_ | refine Runs.seq ?_ | refine Runs.region ?_ | refine Runs.block ?_ | refine Runs.cond ?_ | refine Runs.skip ?_ | refine Runs.loop ?_ | refine Runs.exit ?_ | refine Runs.ret ?_)
    refine pops.cmp rfl rfl rfl rfl rfl (fun k2 => ?_) (fun k2 => ?_)
    · have k2 := of_decide_eq_true k2
      repeat (first | refine pops.bin rfl rfl rfl rfl rfl rfl (cbin_inc (by omega)) ?_ | refine pops.fl rfl rfl rfl rfl rfl ?_ | refine pops.skip rfl rfl rfl ?_ | refine pops.load rfl rfl rfl rfl rfl (by first | assumption | exact cload_of (by assumption) rfl) ?_ | refine pops.len rfl rfl rfl rfl rfl rfl rfl rfl (by first | exact SlA.len (by assumption) rfl | exact SlI.len (by assumption) rfl | exact SlS.len (by assumption) rfl | exact Sl.len (by assumption) rfl) ?_)
      refine pops.nil ?_
      repeat (first | refine kthenP.n ?_ | refine kthenP.r ?_ | refine kthenP.e ?_ | refine kblockP.n ?_ | refine kblockP.r ?_ | refine kblockP.e ?_ | refine kblockP.o rfl ?_ | refine Runs.seq ?_ | refine Runs.region ?_ | refine Runs.block ?_ | refine Runs.cond ?_ | refine Runs.skip ?_ | refine Runs.loop ?_ | refine Runs.exit ?_ | refine Runs.ret ?_)
      refine pcond.t rfl ?_
      repeat (first | refine kthenP.n ?_ | refine kthenP.r ?_ | refine kthenP.e ?_ | refine kblockP.n ?_ | refine kblockP.r ?_ | refine kblockP.e ?_ | refine kblockP.o rfl ?_ | refine Runs.seq ?_ | refine Runs.region ?_ | refine Runs.block ?_ | refine Runs.cond ?_ | refine Runs.skip ?_ | refine Runs.loop ?_ | refine Runs.exit ?_ | refine Runs.ret ?_)
      repeat (first | refine pops.bin rfl rfl rfl rfl rfl rfl (cbin_inc (by omega)) ?_ | refine pops.fd rfl rfl rfl rfl rfl rfl ?_ | refine pops.skip rfl rfl rfl ?_ | refine pops.load rfl rfl rfl rfl rfl (by first | assumption | exact cload_of (by assumption) rfl) ?_ | refine pops.len rfl rfl rfl rfl rfl rfl rfl rfl (by first | exact SlA.len (by assumption) rfl | exact SlI.len (by assumption) rfl | exact SlS.len (by assumption) rfl | exact Sl.len (by assumption) rfl) ?_)
      refine pops.cmp rfl rfl rfl rfl rfl (fun z => ?_) (fun z => ?_)
      · have z : p.subs.length = 1 := by have := of_decide_eq_true z; omega
        repeat (first | refine pops.bin rfl rfl rfl rfl rfl rfl (cbin_inc (by omega)) ?_ | refine pops.fl rfl rfl rfl rfl rfl ?_ | refine pops.skip rfl rfl rfl ?_ | refine pops.load rfl rfl rfl rfl rfl (by first | assumption | exact cload_of (by assumption) rfl) ?_ | refine pops.len rfl rfl rfl rfl rfl rfl rfl rfl (by first | exact SlA.len (by assumption) rfl | exact SlI.len (by assumption) rfl | exact SlS.len (by assumption) rfl | exact Sl.len (by assumption) rfl) ?_)
        refine pops.nil ?_
        repeat (first | refine kthenP.n ?_ | refine kthenP.r ?_ | refine kthenP.e ?_ | refine kblockP.n ?_ | refine kblockP.r ?_ | refine kblockP.e ?_ | refine kblockP.o rfl ?_ | refine Runs.seq ?_ | refine Runs.region ?_ | refine Runs.block ?_ | refine Runs.cond ?_ | refine Runs.skip ?_ | refine Runs.loop ?_ | refine Runs.exit ?_ | refine Runs.ret ?_)
        refine pcond.t rfl ?_
        repeat (first | refine kthenP.n ?_ | refine kthenP.r ?_ | refine kthenP.e ?_ | refine kblockP.n ?_ | refine kblockP.r ?_ | refine kblockP.e ?_ | refine kblockP.o rfl ?_ | refine Runs.seq ?_ | refine Runs.region ?_ | refine Runs.block ?_ | refine Runs.cond ?_ | refine Runs.skip ?_ | refine Runs.loop ?_ | refine Runs.exit ?_ | refine Runs.ret ?_)
        repeat (first | refine pops.bin rfl rfl rfl rfl rfl rfl (cbin_inc (by omega)) ?_ | refine pops.fl rfl rfl rfl rfl rfl ?_ | refine pops.skip rfl rfl rfl ?_ | refine pops.load rfl rfl rfl rfl rfl (by first | assumption | exact cload_of (by assumption) rfl) ?_ | refine pops.len rfl rfl rfl rfl rfl rfl rfl rfl (by first | exact SlA.len (by assumption) rfl | exact SlI.len (by assumption) rfl | exact SlS.len (by assumption) rfl | exact Sl.len (by assumption) rfl) ?_)
        refine pops.nil ?_
        repeat (first | refine kthenP.n ?_ | refine kthenP.r ?_ | refine kthenP.e ?_ | refine kblockP.n ?_ | refine kblockP.r ?_ | refine kblockP.e ?_ | refine kblockP.o rfl ?_ | refine Runs.seq ?_ | refine Runs.region ?_ | refine Runs.block ?_ | refine Runs.cond ?_ | refine Runs.skip ?_ | refine Runs.loop ?_ | refine Runs.exit ?_ | refine Runs.ret ?_)
        refine pleave.r rfl ?_
        refine ⟨?_, g03⟩
        have kb : kindB p = false := by unfold kindB; simp [k2, z]
        rw [kb]
        simp
      have z2 : ¬ p.subs.length = 1 := by have := of_decide_eq_false z; omega
      clear z
      refine pops.nil ?_
      repeat (first | refine kthenP.n ?_ | refine kthenP.r ?_ | refine kthenP.e ?_ | refine kblockP.n ?_ | refine kblockP.r ?_ | refine kblockP.e ?_ | refine kblockP.o rfl ?_ | refine Runs.seq ?_ | refine Runs.region ?_ | refine Runs.block ?_ | refine Runs.cond ?_ | refine Runs.skip ?_ | refine Runs.loop ?_ | refine Runs.exit ?_ | refine Runs.ret ?_)
      refine pcond.f rfl ?_
      repeat (first | refine kthenP.n ?_ | refine kthenP.r ?_ | refine kthenP.e ?_ | refine kblockP.n ?_ | refine kblockP.r ?_ | refine kblockP.e ?_ | refine kblockP.o rfl ?_ | refine Runs.seq ?_ | refine Runs.region ?_ | refine Runs.block ?_ | refine Runs.cond ?_ | refine Runs.skip ?_ | refine Runs.loop ?_ | refine Runs.exit ?_ | refine Runs.ret ?_)
      repeat (first | refine pops.bin rfl rfl rfl rfl rfl rfl (cbin_inc (by omega)) ?_ | refine pops.fd rfl rfl rfl rfl rfl rfl ?_ | refine pops.skip rfl rfl rfl ?_ | refine pops.load rfl rfl rfl rfl rfl (by first | assumption | exact cload_of (by assumption) rfl) ?_ | refine pops.len rfl rfl rfl rfl rfl rfl rfl rfl (by first | exact SlA.len (by assumption) rfl | exact SlI.len (by assumption) rfl | exact SlS.len (by assumption) rfl | exact Sl.len (by assumption) rfl) ?_)
      refine pops.cmp rfl rfl rfl rfl rfl (fun z => ?_) (fun z => ?_)
      · have z : p.classes.length = 0 := by have := of_decide_eq_true z; omega
        repeat (first | refine pops.bin rfl rfl rfl rfl rfl rfl (cbin_inc (by omega)) ?_ | refine pops.fl rfl rfl rfl rfl rfl ?_ | refine pops.skip rfl rfl rfl ?_ | refine pops.load rfl rfl rfl rfl rfl (by first | assumption | exact cload_of (by assumption) rfl) ?_ | refine pops.len rfl rfl rfl rfl rfl rfl rfl rfl (by first | exact SlA.len (by assumption) rfl | exact SlI.len (by assumption) rfl | exact SlS.len (by assumption) rfl | exact Sl.len (by assumption) rfl) ?_)
        refine pops.callG rfl rfl rfl rfl rfl fn_containsFuncP rfl rfl rfl (containsFuncP_calls (q := fun p => !patOk n L p) (cap := #[.pointer (some ⟨bn, 0, none⟩), .pointer (some ⟨bl, 0, none⟩)]) fn_valid48 hs fun p u h4 _ hwf4 g4 hu => pvalid1_calls (by omega) (ih (by omega)) hu (g4.at hwf3 hcn) (g4.at hwf3 hcl)) fun h5 hwf5 g5 => ?_
        repeat (first | refine pops.bin rfl rfl rfl rfl rfl rfl (cbin_inc (by omega)) ?_ | refine pops.fl rfl rfl rfl rfl rfl ?_ | refine pops.skip rfl rfl rfl ?_ | refine pops.load rfl rfl rfl rfl rfl (by first | assumption | exact cload_of (by assumption) rfl) ?_ | refine pops.len rfl rfl rfl rfl rfl rfl rfl rfl (by first | exact SlA.len (by assumption) rfl | exact SlI.len (by assumption) rfl | exact SlS.len (by assumption) rfl | exact Sl.len (by assumption) rfl) ?_)
        refine pops.nil ?_
        repeat (first | refine kthenP.n ?_ | refine kthenP.r ?_ | refine kthenP.e ?_ | refine kblockP.n ?_ | refine kblockP.r ?_ | refine kblockP.e ?_ | refine kblockP.o rfl ?_ | refine Runs.seq ?_ | refine Runs.region ?_ | refine Runs.block ?_ | refine Runs.cond ?_ | refine Runs.skip ?_ | refine Runs.loop ?_ | refine Runs.exit ?_ | refine Runs.ret ?_)
        refine pleave.r rfl ?_
        refine ⟨?_, g03.trans g5⟩
        have kb : kindB p = true := by unfold kindB; simp [k2, z2]
        rw [kb, decide_eq_true z]
        show CRes.ret (.bool (!(p.subs.any fun p => !patOk n L p))) = CRes.ret (.bool (true && true && p.subs.all (patOk n L)))
        rw [List.all_eq_not_any_not]
        simp
      · have z : ¬ p.classes.length = 0 := by have := of_decide_eq_false z; omega
        repeat (first | refine pops.bin rfl rfl rfl rfl rfl rfl (cbin_inc (by omega)) ?_ | refine pops.fl rfl rfl rfl rfl rfl ?_ | refine pops.skip rfl rfl rfl ?_ | refine pops.load rfl rfl rfl rfl rfl (by first | assumption | exact cload_of (by assumption) rfl) ?_ | refine pops.len rfl rfl rfl rfl rfl rfl rfl rfl (by first | exact SlA.len (by assumption) rfl | exact SlI.len (by assumption) rfl | exact SlS.len (by assumption) rfl | exact Sl.len (by assumption) rfl) ?_)
        refine pops.nil ?_
        repeat (first | refine kthenP.n ?_ | refine kthenP.r ?_ | refine kthenP.e ?_ | refine kblockP.n ?_ | refine kblockP.r ?_ | refine kblockP.e ?_ | refine kblockP.o rfl ?_ | refine Runs.seq ?_ | refine Runs.region ?_ | refine Runs.block ?_ | refine Runs.cond ?_ | refine Runs.skip ?_ | refine Runs.loop ?_ | refine Runs.exit ?_ | refine Runs.ret ?_)
        refine pleave.r rfl ?_
        refine ⟨?_, g03⟩
        rw [decide_eq_false z]
        simp
    have k2 := of_decide_eq_false k2
    repeat (first | refine pops.bin rfl rfl rfl rfl rfl rfl (cbin_inc (by omega)) ?_ | refine pops.fl rfl rfl rfl rfl rfl ?_ | refine pops.skip rfl rfl rfl ?_ | refine pops.load rfl rfl rfl rfl rfl (by first | assumption | exact cload_of (by assumption) rfl) ?_ | refine pops.len rfl rfl rfl rfl rfl rfl rfl rfl (by first | exact SlA.len (by assumption) rfl | exact SlI.len (by assumption) rfl | exact SlS.len (by assumption) rfl | exact Sl.len (by assumption) rfl) ?_)
    refine pops.nil ?_
    repeat (first | refine kthenP.n ?_ | refine kthenP.r ?_ | refine kthenP.e ?_ | refine kblockP.n ?_ | refine kblockP.r ?_ | refine kblockP.e ?_ | refine kblockP.o rfl ?_ | refine Runs.seq ?_ | refine Runs.region ?_ | refine Runs.block ?_ | refine Runs.cond ?_ | refine Runs.skip ?_ | refine Runs.loop ?_ | refine Runs.exit ?_ | refine Runs.ret ?_)
    refine pcond.f rfl ?_
    repeat (first | refine kthenP.n ?_ | refine kthenP.r ?_ | refine kthenP.e ?_ | refine kblockP.n ?_ | refine kblockP.r ?_ | refine kblockP.e ?_ | refine kblockP.o rfl ?_ | refine Runs.seq ?_ | refine Runs.region ?_ | refine Runs.block ?_ | refine Runs.cond ?_ | refine Runs.skip ?_ | refine Runs.loop ?_ | refine Runs.exit ?_ | refine Runs.ret ?_)
    refine pops.cmp rfl rfl rfl rfl rfl (fun k3 => ?_) (fun k3 => ?_)
    · have k3 := of_decide_eq_true k3
      repeat (first | refine pops.bin rfl rfl rfl rfl rfl rfl (cbin_inc (by omega)) ?_ | refine pops.fl rfl rfl rfl rfl rfl ?_ | refine pops.skip rfl rfl rfl ?_ | refine pops.load rfl rfl rfl rfl rfl (by first | assumption | exact cload_of (by assumption) rfl) ?_ | refine pops.len rfl rfl rfl rfl rfl rfl rfl rfl (by first | exact SlA.len (by assumption) rfl | exact SlI.len (by assumption) rfl | exact SlS.len (by assumption) rfl | exact Sl.len (by assumption) rfl) ?_)
      refine pops.nil ?_
      repeat (first | refine kthenP.n ?_ | refine kthenP.r ?_ | refine kthenP.e ?_ | refine kblockP.n ?_ | refine kblockP.r ?_ | refine kblockP.e ?_ | refine kblockP.o rfl ?_ | refine Runs.seq ?_ | refine Runs.region ?_ | refine Runs.block ?_ | refine Runs.cond ?_ | refine Runs.skip ?_ | refine Runs.loop ?_ | refine Runs.exit ?_ | refine Runs.ret ?_)
      refine pcond.t rfl ?_
      repeat (first | refine kthenP.n ?_ | refine kthenP.r ?_ | refine kthenP.e ?_ | refine kblockP.n ?_ | refine kblockP.r ?_ | refine kblockP.e ?_ | refine kblockP.o rfl ?_ | refine Runs.seq ?_ | refine Runs.region ?_ | refine Runs.block ?_ | refine Runs.cond ?_ | refine Runs.skip ?_ | refine Runs.loop ?_ | refine Runs.exit ?_ | refine Runs.ret ?_)
      repeat (first | refine pops.bin rfl rfl rfl rfl rfl rfl (cbin_inc (by omega)) ?_ | refine pops.fd rfl rfl rfl rfl rfl rfl ?_ | refine pops.skip rfl rfl rfl ?_ | refine pops.load rfl rfl rfl rfl rfl (by first | assumption | exact cload_of (by assumption) rfl) ?_ | refine pops.len rfl rfl rfl rfl rfl rfl rfl rfl (by first | exact SlA.len (by assumption) rfl | exact SlI.len (by assumption) rfl | exact SlS.len (by assumption) rfl | exact Sl.len (by assumption) rfl) ?_)
      refine pops.cmp rfl rfl rfl rfl rfl (fun z => ?_) (fun z => ?_)
      · have z : ¬ 2 ≤ p.subs.length := by have := of_decide_eq_true z; omega
        repeat (first | refine pops.bin rfl rfl rfl rfl rfl rfl (cbin_inc (by omega)) ?_ | refine pops.fl rfl rfl rfl rfl rfl ?_ | refine pops.skip rfl rfl rfl ?_ | refine pops.load rfl rfl rfl rfl rfl (by first | assumption | exact cload_of (by assumption) rfl) ?_ | refine pops.len rfl rfl rfl rfl rfl rfl rfl rfl (by first | exact SlA.len (by assumption) rfl | exact SlI.len (by assumption) rfl | exact SlS.len (by assumption) rfl | exact Sl.len (by assumption) rfl) ?_)
        refine pops.nil ?_
        repeat (first | refine kthenP.n ?_ | refine kthenP.r ?_ | refine kthenP.e ?_ | refine kblockP.n ?_ | refine kblockP.r ?_ | refine kblockP.e ?_ | refine kblockP.o rfl ?_ | refine Runs.seq ?_ | refine Runs.region ?_ | refine Runs.block ?_ | refine Runs.cond ?_ | refine Runs.skip ?_ | refine Runs.loop ?_ | refine Runs.exit ?_ | refine Runs.ret ?_)
        refine pcond.t rfl ?_
        repeat (first | refine kthenP.n ?_ | refine kthenP.r ?_ | refine kthenP.e ?_ | refine kblockP.n ?_ | refine kblockP.r ?_ | refine kblockP.e ?_ | refine kblockP.o rfl ?_ | refine Runs.seq ?_ | refine Runs.region ?_ | refine Runs.block ?_ | refine Runs.cond ?_ | refine Runs.skip ?_ | refine Runs.loop ?_ | refine Runs.exit ?_ | refine Runs.ret ?_)
        repeat (first | refine pops.bin rfl rfl rfl rfl rfl rfl (cbin_inc (by omega)) ?_ | refine pops.fl rfl rfl rfl rfl rfl ?_ | refine pops.skip rfl rfl rfl ?_ | refine pops.load rfl rfl rfl rfl rfl (by first | assumption | exact cload_of (by assumption) rfl) ?_ | refine pops.len rfl rfl rfl rfl rfl rfl rfl rfl (by first | exact SlA.len (by assumption) rfl | exact SlI.len (by assumption) rfl | exact SlS.len (by assumption) rfl | exact Sl.len (by assumption) rfl) ?_)
        refine pops.nil ?_
        repeat (first | refine kthenP.n ?_ | refine kthenP.r ?_ | refine kthenP.e ?_ | refine kblockP.n ?_ | refine kblockP.r ?_ | refine kblockP.e ?_ | refine kblockP.o rfl ?_ | refine Runs.seq ?_ | refine Runs.region ?_ | refine Runs.block ?_ | refine Runs.cond ?_ | refine Runs.skip ?_ | refine Runs.loop ?_ | refine Runs.exit ?_ | refine Runs.ret ?_)
        refine pleave.r rfl ?_
        refine ⟨?_, g03⟩
        have kb : kindB p = false := by unfold kindB; simp [k3]; omega
        rw [kb]
        simp
      have z2 : 2 ≤ p.subs.length := by have := of_decide_eq_false z; omega
      clear z
      refine pops.nil ?_
      repeat (first | refine kthenP.n ?_ | refine kthenP.r ?_ | refine kthenP.e ?_ | refine kblockP.n ?_ | refine kblockP.r ?_ | refine kblockP.e ?_ | refine kblockP.o rfl ?_ | refine Runs.seq ?_ | refine Runs.region ?_ | refine Runs.block ?_ | refine Runs.cond ?_ | refine Runs.skip ?_ | refine Runs.loop ?_ | refine Runs.exit ?_ | refine Runs.ret ?_)
      refine pcond.f rfl ?_
      repeat (first | refine kthenP.n ?_ | refine kthenP.r ?_ | refine kthenP.e ?_ | refine kblockP.n ?_ | refine kblockP.r ?_ | refine kblockP.e ?_ | refine kblockP.o rfl ?_ | refine Runs.seq ?_ | refine Runs.region ?_ | refine Runs.block ?_ | refine Runs.cond ?_ | refine Runs.skip ?_ | refine Runs.loop ?_ | refine Runs.exit ?_ | refine Runs.ret ?_)
      repeat (first | refine pops.bin rfl rfl rfl rfl rfl rfl (cbin_inc (by omega)) ?_ | refine pops.fd rfl rfl rfl rfl rfl rfl ?_ | refine pops.skip rfl rfl rfl ?_ | refine pops.load rfl rfl rfl rfl rfl (by first | assumption | exact cload_of (by assumption) rfl) ?_ | refine pops.len rfl rfl rfl rfl rfl rfl rfl rfl (by first | exact SlA.len (by assumption) rfl | exact SlI.len (by assumption) rfl | exact SlS.len (by assumption) rfl | exact Sl.len (by assumption) rfl) ?_)
      refine pops.cmp rfl rfl rfl rfl rfl (fun z => ?_) (fun z => ?_)
      · have z : p.classes.length = 0 := by have := of_decide_eq_true z; omega
        repeat (first | refine pops.bin rfl rfl rfl rfl rfl rfl (cbin_inc (by omega)) ?_ | refine pops.fl rfl rfl rfl rfl rfl ?_ | refine pops.skip rfl rfl rfl ?_ | refine pops.load rfl rfl rfl rfl rfl (by first | assumption | exact cload_of (by assumption) rfl) ?_ | refine pops.len rfl rfl rfl rfl rfl rfl rfl rfl (by first | exact SlA.len (by assumption) rfl | exact SlI.len (by assumption) rfl | exact SlS.len (by assumption) rfl | exact Sl.len (by assumption) rfl) ?_)
        refine pops.callG rfl rfl rfl rfl rfl fn_containsFuncP rfl rfl rfl (containsFuncP_calls (q := fun p => !patOk n L p) (cap := #[.pointer (some ⟨bn, 0, none⟩), .pointer (some ⟨bl, 0, none⟩)]) fn_valid48 hs fun p u h4 _ hwf4 g4 hu => pvalid1_calls (by omega) (ih (by omega)) hu (g4.at hwf3 hcn) (g4.at hwf3 hcl)) fun h5 hwf5 g5 => ?_
        repeat (first | refine pops.bin rfl rfl rfl rfl rfl rfl (cbin_inc (by omega)) ?_ | refine pops.fl rfl rfl rfl rfl rfl ?_ | refine pops.skip rfl rfl rfl ?_ | refine pops.load rfl rfl rfl rfl rfl (by first | assumption | exact cload_of (by assumption) rfl) ?_ | refine pops.len rfl rfl rfl rfl rfl rfl rfl rfl (by first | exact SlA.len (by assumption) rfl | exact SlI.len (by assumption) rfl | exact SlS.len (by assumption) rfl | exact Sl.len (by assumption) rfl) ?_)
        refine pops.nil ?_
        repeat (first | refine kthenP.n ?_ | refine kthenP.r ?_ | refine kthenP.e ?_ | refine kblockP.n ?_ | refine kblockP.r ?_ | refine kblockP.e ?_ | refine kblockP.o rfl ?_ | refine Runs.seq ?_ | refine Runs.region ?_ | refine Runs.block ?_ | refine Runs.cond ?_ | refine Runs.skip ?_ | refine Runs.loop ?_ | refine Runs.exit ?_ | refine Runs.ret ?_)
        refine pleave.r rfl ?_
        refine ⟨?_, g03.trans g5⟩
        have kb : kindB p = true := by unfold kindB; simp [k3, z2]
        rw [kb, decide_eq_true z]
        show CRes.ret (.bool (!(p.subs.any fun p => !patOk n L p))) = CRes.ret (.bool (true && true && p.subs.all (patOk n L)))
        rw [List.all_eq_not_any_not]
        simp
      · have z : ¬ p.classes.length = 0 := by have := of_decide_eq_false z; omega
        repeat (first | refine pops.bin rfl rfl rfl rfl rfl rfl (cbin_inc (by omega)) ?_ | refine pops.fl rfl rfl rfl rfl rfl ?_ | refine pops.skip rfl rfl rfl ?_ | refine pops.load rfl rfl rfl rfl rfl (by first | assumption | exact cload_of (by assumption) rfl) ?_ | refine pops.len rfl rfl rfl rfl rfl rfl rfl rfl (by first | exact SlA.len (by assumption) rfl | exact SlI.len (by assumption) rfl | exact SlS.len (by assumption) rfl | exact Sl.len (by assumption) rfl) ?_)
        refine pops.nil ?_
        repeat (first | refine kthenP.n ?_ | refine kthenP.r ?_ | refine kthenP.e ?_ | refine kblockP.n ?_ | refine kblockP.r ?_ | refine kblockP.e ?_ | refine kblockP.o rfl ?_ | refine Runs.seq ?_ | refine Runs.region ?_ | refine Runs.block ?_ | refine Runs.cond ?_ | refine Runs.skip ?_ | refine Runs.loop ?_ | refine Runs.exit ?_ | refine Runs.ret ?_)
        refine pleave.r rfl ?_
        refine ⟨?_, g03⟩
        rw [decide_eq_false z]
        simp
    have k3 := of_decide_eq_false k3
    repeat (first | refine pops.bin rfl rfl rfl rfl rfl rfl (cbin_inc (by omega)) ?_ | refine pops.fl rfl rfl rfl rfl rfl ?_ | refine pops.skip rfl rfl rfl ?_ | refine pops.load rfl rfl rfl rfl rfl (by first | assumption | exact cload_of (by assumption) rfl) ?_ | refine pops.len rfl rfl rfl rfl rfl rfl rfl rfl (by first | exact SlA.len (by assumption) rfl | exact SlI.len (by assumption) rfl | exact SlS.len (by assumption) rfl | exact Sl.len (by assumption) rfl) ?_)
    refine pops.nil ?_
    repeat (first | refine kthenP.n ?_ | refine kthenP.r ?_ | refine kthenP.e ?_ | refine kblockP.n ?_ | refine kblockP.r ?_ | refine kblockP.e ?_ | refine kblockP.o rfl ?_ | refine Runs.seq ?_ | refine Runs.region ?_ | refine Runs.block ?_ | refine Runs.cond ?_ | refine Runs.skip ?_ | refine Runs.loop ?_ | refine Runs.exit ?_ | refine Runs.ret ?_)
    refine pcond.f rfl ?_
    repeat (first | refine kthenP.n ?_ | refine kthenP.r ?_ | refine kthenP.e ?_ | refine kblockP.n ?_ | refine kblockP.r ?_ | refine kblockP.e ?_ | refine kblockP.o rfl ?_ | refine Runs.seq ?_ | refine Runs.region ?_ | refine Runs.block ?_ | refine Runs.cond ?_ | refine Runs.skip ?_ | refine Runs.loop ?_ | refine Runs.exit ?_ | refine Runs.ret ?_)
    refine pops.cmp rfl rfl rfl rfl rfl (fun k4 => ?_) (fun k4 => ?_)
    · have k4 := of_decide_eq_true k4
      repeat (first | refine pops.bin rfl rfl rfl rfl rfl rfl (cbin_inc (by omega)) ?_ | refine pops.fl rfl rfl rfl rfl rfl ?_ | refine pops.skip rfl rfl rfl ?_ | refine pops.load rfl rfl rfl rfl rfl (by first | assumption | exact cload_of (by assumption) rfl) ?_ | refine pops.len rfl rfl rfl rfl rfl rfl rfl rfl (by first | exact SlA.len (by assumption) rfl | exact SlI.len (by assumption) rfl | exact SlS.len (by assumption) rfl | exact Sl.len (by assumption) rfl) ?_)
      refine pops.nil ?_
      repeat (first | refine kthenP.n ?_ | refine kthenP.r ?_ | refine kthenP.e ?_ | refine kblockP.n ?_ | refine kblockP.r ?_ | refine kblockP.e ?_ | refine kblockP.o rfl ?_ | refine Runs.seq ?_ | refine Runs.region ?_ | refine Runs.block ?_ | refine Runs.cond ?_ | refine Runs.skip ?_ | refine Runs.loop ?_ | refine Runs.exit ?_ | refine Runs.ret ?_)
      refine pcond.t rfl ?_
      repeat (first | refine kthenP.n ?_ | refine kthenP.r ?_ | refine kthenP.e ?_ | refine kblockP.n ?_ | refine kblockP.r ?_ | refine kblockP.e ?_ | refine kblockP.o rfl ?_ | refine Runs.seq ?_ | refine Runs.region ?_ | refine Runs.block ?_ | refine Runs.cond ?_ | refine Runs.skip ?_ | refine Runs.loop ?_ | refine Runs.exit ?_ | refine Runs.ret ?_)
      repeat (first | refine pops.bin rfl rfl rfl rfl rfl rfl (cbin_inc (by omega)) ?_ | refine pops.fd rfl rfl rfl rfl rfl rfl ?_ | refine pops.skip rfl rfl rfl ?_ | refine pops.load rfl rfl rfl rfl rfl (by first | assumption | exact cload_of (by assumption) rfl) ?_ | refine pops.len rfl rfl rfl rfl rfl rfl rfl rfl (by first | exact SlA.len (by assumption) rfl | exact SlI.len (by assumption) rfl | exact SlS.len (by assumption) rfl | exact Sl.len (by assumption) rfl) ?_)
      refine pops.cmp rfl rfl rfl rfl rfl (fun z => ?_) (fun z => ?_)
      · have z : ¬ p.subs.length = 1 := by simp at z; omega
        repeat (first | refine pops.bin rfl rfl rfl rfl rfl rfl (cbin_inc (by omega)) ?_ | refine pops.fl rfl rfl rfl rfl rfl ?_ | refine pops.skip rfl rfl rfl ?_ | refine pops.load rfl rfl rfl rfl rfl (by first | assumption | exact cload_of (by assumption) rfl) ?_ | refine pops.len rfl rfl rfl rfl rfl rfl rfl rfl (by first | exact SlA.len (by assumption) rfl | exact SlI.len (by assumption) rfl | exact SlS.len (by assumption) rfl | exact Sl.len (by assumption) rfl) ?_)
        refine pops.nil ?_
        repeat (first | refine kthenP.n ?_ | refine kthenP.r ?_ | refine kthenP.e ?_ | refine kblockP.n ?_ | refine kblockP.r ?_ | refine kblockP.e ?_ | refine kblockP.o rfl ?_ | refine Runs.seq ?_ | refine Runs.region ?_ | refine Runs.block ?_ | refine Runs.cond ?_ | refine Runs.skip ?_ | refine Runs.loop ?_ | refine Runs.exit ?_ | refine Runs.ret ?_)
        refine pcond.t rfl ?_
        repeat (first | refine kthenP.n ?_ | refine kthenP.r ?_ | refine kthenP.e ?_ | refine kblockP.n ?_ | refine kblockP.r ?_ | refine kblockP.e ?_ | refine kblockP.o rfl ?_ | refine Runs.seq ?_ | refine Runs.region ?_ | refine Runs.block ?_ | refine Runs.cond ?_ | refine Runs.skip ?_ | refine Runs.loop ?_ | refine Runs.exit ?_ | refine Runs.ret ?_)
        repeat (first | refine pops.bin rfl rfl rfl rfl rfl rfl (cbin_inc (by omega)) ?_ | refine pops.fl rfl rfl rfl rfl rfl ?_ | refine pops.skip rfl rfl rfl ?_ | refine pops.load rfl rfl rfl rfl rfl (by first | assumption | exact cload_of (by assumption) rfl) ?_ | refine pops.len rfl rfl rfl rfl rfl rfl rfl rfl (by first | exact SlA.len (by assumption) rfl | exact SlI.len (by assumption) rfl | exact SlS.len (by assumption) rfl | exact Sl.len (by assumption) rfl) ?_)
        refine pops.nil ?_
        repeat (first | refine kthenP.n ?_ | refine kthenP.r ?_ | refine kthenP.e ?_ | refine kblockP.n ?_ | refine kblockP.r ?_ | refine kblockP.e ?_ | refine kblockP.o rfl ?_ | refine Runs.seq ?_ | refine Runs.region ?_ | refine Runs.block ?_ | refine Runs.cond ?_ | refine Runs.skip ?_ | refine Runs.loop ?_ | refine Runs.exit ?_ | refine Runs.ret ?_)
        refine pleave.r rfl ?_
        refine ⟨?_, g03⟩
        have kb : kindB p = false := by unfold kindB; simp [k4, z]
        rw [kb]
        simp
      have z2 : p.subs.length = 1 := by simp at z; omega
      clear z
      refine pops.nil ?_
      repeat (first | refine kthenP.n ?_ | refine kthenP.r ?_ | refine kthenP.e ?_ | refine kblockP.n ?_ | refine kblockP.r ?_ | refine kblockP.e ?_ | refine kblockP.o rfl ?_ | refine Runs.seq ?_ | refine Runs.region ?_ | refine Runs.block ?_ | refine Runs.cond ?_ | refine Runs.skip ?_ | refine Runs.loop ?_ | refine Runs.exit ?_ | refine Runs.ret ?_)
      refine pcond.f rfl ?_
      repeat (first | refine kthenP.n ?_ | refine kthenP.r ?_ | refine kthenP.e ?_ | refine kblockP.n ?_ | refine kblockP.r ?_ | refine kblockP.e ?_ | refine kblockP.o rfl ?_ | refine Runs.seq ?_ | refine Runs.region ?_ | refine Runs.block ?_ | refine Runs.cond ?_ | refine Runs.skip ?_ | refine Runs.loop ?_ | refine Runs.exit ?_ | refine Runs.ret ?_)
      repeat (first | refine pops.bin rfl rfl rfl rfl rfl rfl (cbin_inc (by omega)) ?_ | refine pops.fd rfl rfl rfl rfl rfl rfl ?_ | refine pops.skip rfl rfl rfl ?_ | refine pops.load rfl rfl rfl rfl rfl (by first | assumption | exact cload_of (by assumption) rfl) ?_ | refine pops.len rfl rfl rfl rfl rfl rfl rfl rfl (by first | exact SlA.len (by assumption) rfl | exact SlI.len (by assumption) rfl | exact SlS.len (by assumption) rfl | exact Sl.len (by assumption) rfl) ?_)
      refine pops.cmp rfl rfl rfl rfl rfl (fun z => ?_) (fun z => ?_)
      · have z : p.classes.length = 0 := by have := of_decide_eq_true z; omega
        repeat (first | refine pops.bin rfl rfl rfl rfl rfl rfl (cbin_inc (by omega)) ?_ | refine pops.fl rfl rfl rfl rfl rfl ?_ | refine pops.skip rfl rfl rfl ?_ | refine pops.load rfl rfl rfl rfl rfl (by first | assumption | exact cload_of (by assumption) rfl) ?_ | refine pops.len rfl rfl rfl rfl rfl rfl rfl rfl (by first | exact SlA.len (by assumption) rfl | exact SlI.len (by assumption) rfl | exact SlS.len (by assumption) rfl | exact Sl.len (by assumption) rfl) ?_)
        refine pops.callG rfl rfl rfl rfl rfl fn_containsFuncP rfl rfl rfl (containsFuncP_calls (q := fun p => !patOk n L p) (cap := #[.pointer (some ⟨bn, 0, none⟩), .pointer (some ⟨bl, 0, none⟩)]) fn_valid48 hs fun p u h4 _ hwf4 g4 hu => pvalid1_calls (by omega) (ih (by omega)) hu (g4.at hwf3 hcn) (g4.at hwf3 hcl)) fun h5 hwf5 g5 => ?_
        repeat (first | refine pops.bin rfl rfl rfl rfl rfl rfl (cbin_inc (by omega)) ?_ | refine pops.fl rfl rfl rfl rfl rfl ?_ | refine pops.skip rfl rfl rfl ?_ | refine pops.load rfl rfl rfl rfl rfl (by first | assumption | exact cload_of (by assumption) rfl) ?_ | refine pops.len rfl rfl rfl rfl rfl rfl rfl rfl (by first | exact SlA.len (by assumption) rfl | exact SlI.len (by assumption) rfl | exact SlS.len (by assumption) rfl | exact Sl.len (by assumption) rfl) ?_)
        refine pops.nil ?_
        repeat (first | refine kthenP.n ?_ | refine kthenP.r ?_ | refine kthenP.e ?_ | refine kblockP.n ?_ | refine kblockP.r ?_ | refine kblockP.e ?_ | refine kblockP.o rfl ?_ | refine Runs.seq ?_ | refine Runs.region ?_ | refine Runs.block ?_ | refine Runs.cond ?_ | refine Runs.skip ?_ | refine Runs.loop ?_ | refine Runs.exit ?_ | refine Runs.ret ?_)
        refine pleave.r rfl ?_
        refine ⟨?_, g03.trans g5⟩
        have kb : kindB p = true := by unfold kindB; simp [k4, z2]
        rw [kb, decide_eq_true z]
        show CRes.ret (.bool (!(p.subs.any fun p => !patOk n L p))) = CRes.ret (.bool (true && true && p.subs.all (patOk n L)))
        rw [List.all_eq_not_any_not]
        simp
      · have z : ¬ p.classes.length = 0 := by have := of_decide_eq_false z; omega
        repeat (first | refine pops.bin rfl rfl rfl rfl rfl rfl (cbin_inc (by omega)) ?_ | refine pops.fl rfl rfl rfl rfl rfl ?_ | refine pops.skip rfl rfl rfl ?_ | refine pops.load rfl rfl rfl rfl rfl (by first | assumption | exact cload_of (by assumption) rfl) ?_ | refine pops.len rfl rfl rfl rfl rfl rfl rfl rfl (by first | exact SlA.len (by assumption) rfl | exact SlI.len (by assumption) rfl | exact SlS.len (by assumption) rfl | exact Sl.len (by assumption) rfl) ?_)
        refine pops.nil ?_
        repeat (first | refine kthenP.n ?_ | refine kthenP.r ?_ | refine kthenP.e ?_ | refine kblockP.n ?_ | refine kblockP.r ?_ | refine kblockP.e ?_ | refine kblockP.o rfl ?_ | refine Runs.seq ?_ | refine Runs.region ?_ | refine Runs.block ?_ | refine Runs.cond ?_ | refine Runs.skip ?_ | refine Runs.loop ?_ | refine Runs.exit ?_ | refine Runs.ret ?_)
        refine pleave.r rfl ?_
        refine ⟨?_, g03⟩
        rw [decide_eq_false z]
        simp
    have k4 := of_decide_eq_false k4
    repeat (first | refine pops.bin rfl rfl rfl rfl rfl rfl (cbin_inc (by omega)) ?_ | refine pops.fl rfl rfl rfl rfl rfl ?_ | refine pops.skip rfl rfl rfl ?_ | refine pops.load rfl rfl rfl rfl rfl (by first | assumption | exact cload_of (by assumption) rfl) ?_ | refine pops.len rfl rfl rfl rfl rfl rfl rfl rfl (by first | exact SlA.len (by assumption) rfl | exact SlI.len (by assumption) rfl | exact SlS.len (by assumption) rfl | exact Sl.len (by assumption) rfl) ?_)
    refine pops.nil ?_
    repeat (first | refine kthenP.n ?_ | refine kthenP.r ?_ | refine kthenP.e ?_ | refine kblockP.n ?_ | refine kblockP.r ?_ | refine kblockP.e ?_ | refine kblockP.o rfl ?_ | refine Runs.seq ?_ | refine Runs.region ?_ | refine Runs.block ?_ | refine Runs.cond ?_ | refine Runs.skip ?_ | refine Runs.loop ?_ | refine Runs.exit ?_ | refine Runs.ret ?_)
    refine pcond.f rfl ?_
    repeat (first | refine kthenP.n ?_ | refine kthenP.r ?_ | refine kthenP.e ?_ | refine kblockP.n ?_ | refine kblockP.r ?_ | refine kblockP.e ?_ | refine kblockP.o rfl ?_ | refine Runs.seq ?_ | refine Runs.region ?_ | refine Runs.block ?_ | refine Runs.cond ?_ | refine Runs.skip ?_ | refine Runs.loop ?_ | refine Runs.exit ?_ | refine Runs.ret ?_)
    repeat (first | refine pops.bin rfl rfl rfl rfl rfl rfl (cbin_inc (by omega)) ?_ | refine pops.fl rfl rfl rfl rfl rfl ?_ | refine pops.skip rfl rfl rfl ?_ | refine pops.load rfl rfl rfl rfl rfl (by first | assumption | exact cload_of (by assumption) rfl) ?_ | refine pops.len rfl rfl rfl rfl rfl rfl rfl rfl (by first | exact SlA.len (by assumption) rfl | exact SlI.len (by assumption) rfl | exact SlS.len (by assumption) rfl | exact Sl.len (by assumption) rfl) ?_)
    refine pops.nil ?_
    repeat (first | refine kthenP.n ?_ | refine kthenP.r ?_ | refine kthenP.e ?_ | refine kblockP.n ?_ | refine kblockP.r ?_ | refine kblockP.e ?_ | refine kblockP.o rfl ?_ | refine Runs.seq ?_ | refine Runs.region ?_ | refine Runs.block ?_ | refine Runs.cond ?_ | refine Runs.skip ?_ | refine Runs.loop ?_ | refine Runs.exit ?_ | refine Runs.ret ?_)
    refine pleave.r rfl ?_
    refine ⟨?_, g03⟩
    have kb : kindB p = false := by unfold kindB; simp [k2, k3, k4]
    rw [kb]
    simp
end Go.Proofs.YtnchhgjoiboibaaGreatDoor

set_option maxRecDepth 100000
set_option linter.unusedVariables false
set_option linter.unusedSimpArgs false
namespace Go.Proofs.YtnchhgjoiboibaaGreatDoor
open Go.Cx
variable {w : World} {h : CH}
theorem fn_parts : tab.fn 14 = some Tryz.f14 := by kernel_rfl
theorem parts_calls : ∀ (N : Nat), N ≤ 100000 → ∀ {h : CH} {v : Value} {p : Pat}, PatV tab kp h v p → partsOf p ≤ N → CalF (X w) 14 [v] h fun r h' => r = .ret (.int .i64 (partsOf p : Nat)) ∧ Gr h h' := by
  intro N
  induction N with
  | zero =>
    intro _ h v p hv hp
    exfalso
    cases p with
    | mk k c s => simp [partsOf] at hp
  | succ N ih =>
    intro hN h v p hv hp
    refine CalF.wf fun hwf => ?_
    obtain ⟨c, s, rfl, oc, os, hc, hs⟩ := hv.open
    have hpp : partsOf p = 1 + partsL p.subs := by cases p; simp [partsOf, Pat.subs]
    have ls := hs.lt
    refine CalF.intro fn_parts rfl (Nat.le_of_ble_eq_true rfl) ?_
    repeat (first | refine kthenP.n ?_ | refine kthenP.r ?_ | refine kthenP.e ?_ | refine kblockP.n ?_ | refine kblockP.r ?_ | refine kblockP.e ?_ | refine kblockP.o rfl ?_ | refine Runs.seq ?_ | refine Runs.region ?_ | refine Runs.block ?_ | refine Runs.cond ?_ | refine Runs.skip ?_ | refine Runs.loop ?_ | refine Runs.exit ?_ | refine Runs.ret ?_)
    refine pops.box (cs := [.int .i64 p.kind, c, s]) rfl rfl rfl rfl (by simp only [List.all_cons, List.all_nil, oc, os, Bool.and_true]; rfl) rfl rfl hwf fun b h1 hb hwf1 g1 hcb => ?_
    replace hs := PatsV.gr hwf g1 hs
    refine pops.fl rfl rfl rfl rfl rfl ?_
    refine pops.nil ?_
    repeat (first | refine kthenP.n ?_ | refine kthenP.r ?_ | refine kthenP.e ?_ | refine kblockP.n ?_ | refine kblockP.r ?_ | refine kblockP.e ?_ | refine kblockP.o rfl ?_ | refine Runs.seq ?_ | refine Runs.region ?_ | refine Runs.block ?_ | refine Runs.cond ?_ | refine Runs.skip ?_ | refine Runs.loop ?_ | refine Runs.exit ?_ | refine Runs.ret ?_)
    refine pops.fl rfl rfl rfl rfl rfl ?_
    refine pops.nil ?_
    repeat (first | refine kthenP.n ?_ | refine kthenP.r ?_ | refine kthenP.e ?_ | refine kblockP.n ?_ | refine kblockP.r ?_ | refine kblockP.e ?_ | refine kblockP.o rfl ?_ | refine Runs.seq ?_ | refine Runs.region ?_ | refine Runs.block ?_ | refine Runs.cond ?_ | refine Runs.skip ?_ | refine Runs.loop ?_ | refine Runs.exit ?_ | refine Runs.ret ?_)
    repeat (first | refine pops.bin rfl rfl rfl rfl rfl rfl (cbin_inc (by omega)) ?_ | refine pops.fl rfl rfl rfl rfl rfl ?_ | refine pops.skip rfl rfl rfl ?_ | refine pops.load rfl rfl rfl rfl rfl (by first | assumption | exact cload_of (by assumption) rfl) ?_ | refine pops.len rfl rfl rfl rfl rfl rfl rfl rfl (by first | exact SlA.len (by assumption) rfl | exact SlI.len (by assumption) rfl | exact SlS.len (by assumption) rfl | exact Sl.len (by assumption) rfl) ?_)
    refine pops.nil ?_
    repeat (first | refine kthenP.n ?_ | refine kthenP.r ?_ | refine kthenP.e ?_ | refine kblockP.n ?_ | refine kblockP.r ?_ | refine kblockP.e ?_ | refine kblockP.o rfl ?_ | refine Runs.seq ?_ | refine Runs.region ?_ | refine Runs.block ?_ | refine Runs.cond ?_ | refine Runs.skip ?_ | refine Runs.loop ?_ | refine Runs.exit ?_ | refine Runs.ret ?_)
    refine Loops.ind 5 (fun i : Nat => [(3, .int .i64 ((1 + partsL (p.subs.take i) : Nat) : Int)), (7, s), (8, .int .i64 (p.subs.length : Nat)), (9, .int .i64 (i : Nat))]) (fun i h' => i ≤ p.subs.length ∧ Gr h1 h') (fun i => p.subs.length - i) 0 (by decide) ⟨rfl, rfl, rfl, rfl, trivial⟩ ⟨Nat.zero_le _, Gr.refl _⟩ ?_
    rintro i z h' hwf' ⟨hi, g2⟩
    replace hs := PatsV.gr hwf1 g2 hs
    repeat (first | refine kthenP.n ?_ | refine kthenP.r ?_ | refine kthenP.e ?_ | refine kblockP.n ?_ | refine kblockP.r ?_ | refine kblockP.e ?_ | refine kblockP.o rfl ?_ | refine Runs.seq ?_ | refine Runs.region ?_ | refine Runs.block ?_ | refine Runs.cond ?_ | refine Runs.skip ?_ | refine Runs.loop ?_ | refine Runs.exit ?_ | refine Runs.ret ?_)
    repeat (first | refine pops.bin rfl rfl rfl rfl rfl rfl (cbin_inc (by omega)) ?_ | refine pops.fl rfl rfl rfl rfl rfl ?_ | refine pops.skip rfl rfl rfl ?_ | refine pops.load rfl rfl rfl rfl rfl (by first | assumption | exact cload_of (by assumption) rfl) ?_ | refine pops.len rfl rfl rfl rfl rfl rfl rfl rfl (by first | exact SlA.len (by assumption) rfl | exact SlI.len (by assumption) rfl | exact SlS.len (by assumption) rfl | exact Sl.len (by assumption) rfl) ?_)
    refine pops.nil ?_
    repeat (first | refine kthenP.n ?_ | refine kthenP.r ?_ | refine kthenP.e ?_ | refine kblockP.n ?_ | refine kblockP.r ?_ | refine kblockP.e ?_ | refine kblockP.o rfl ?_ | refine Runs.seq ?_ | refine Runs.region ?_ | refine Runs.block ?_ | refine Runs.cond ?_ | refine Runs.skip ?_ | refine Runs.loop ?_ | refine Runs.exit ?_ | refine Runs.ret ?_)
    refine pcond.d (p := (i : Int) < (p.subs.length : Nat)) rfl (fun hlt => ?_) (fun hge => ?_)
    · obtain ⟨q, hq⟩ : ∃ q, p.subs[i]? = some q := ⟨_, List.getElem?_eq_getElem (by omega)⟩
      have hqm := List.mem_of_getElem? hq
      have hqp := partsOf_mem hqm
      have hpt := partsL_take hq
      have hpl := partsL_le (l := p.subs) (i + 1)
      repeat (first | refine kthenP.n ?_ | refine kthenP.r ?_ | refine kthenP.e ?_ | refine kblockP.n ?_ | refine kblockP.r ?_ | refine kblockP.e ?_ | refine kblockP.o rfl ?_ | refine Runs.seq ?_ | refine Runs.region ?_ | refine Runs.block ?_ | refine Runs.cond ?_ | refine Runs.skip ?_ | refine Runs.loop ?_ | refine Runs.exit ?_ | refine Runs.ret ?_)
      refine pops.atA rfl rfl rfl rfl rfl rfl rfl hs hq fun a u ha hu => ?_
      refine pops.load rfl rfl rfl rfl rfl (by first | assumption | exact cload_of (by assumption) rfl) ?_
      have hu0 := hu
      obtain ⟨c2, s2, rfl, oc2, os2, _, _⟩ := hu.open
      refine pops.alloc rfl rfl rfl rfl rfl hwf' fun b2 h2 hb2 hwf2 g3 hcb2 => ?_
      refine pops.store (s := 3) (us := [.int .i64 q.kind, c2, s2]) (cs' := [.int .i64 q.kind, c2, s2]) rfl rfl rfl rfl rfl hcb2 rfl rfl (by simp only [List.all_cons, List.all_nil, oc2, os2, Bool.and_true]; rfl) rfl hwf2 fun h3 hwf3 u3 hc3 => ?_
      have g4 := g3.upd hb2 u3
      refine pops.nil ?_
      repeat (first | refine kthenP.n ?_ | refine kthenP.r ?_ | refine kthenP.e ?_ | refine kblockP.n ?_ | refine kblockP.r ?_ | refine kblockP.e ?_ | refine kblockP.o rfl ?_ | refine Runs.seq ?_ | refine Runs.region ?_ | refine Runs.block ?_ | refine Runs.cond ?_ | refine Runs.skip ?_ | refine Runs.loop ?_ | refine Runs.exit ?_ | refine Runs.ret ?_)
      refine pops.fl rfl rfl rfl rfl rfl ?_
      refine pops.load rfl rfl rfl rfl rfl (cload_of hc3 rfl) ?_
      refine pops.callG rfl rfl rfl rfl rfl fn_parts rfl rfl rfl (ih (by omega) (hu0.gr hwf' g4) (by omega)) fun h5 hwf5 g5 => ?_
      refine pops.bin rfl rfl rfl rfl rfl rfl (cbin_addN (by omega)) ?_
      repeat (first | refine pops.bin rfl rfl rfl rfl rfl rfl (cbin_inc (by omega)) ?_ | refine pops.fl rfl rfl rfl rfl rfl ?_ | refine pops.skip rfl rfl rfl ?_ | refine pops.load rfl rfl rfl rfl rfl (by first | assumption | exact cload_of (by assumption) rfl) ?_ | refine pops.len rfl rfl rfl rfl rfl rfl rfl rfl (by first | exact SlA.len (by assumption) rfl | exact SlI.len (by assumption) rfl | exact SlS.len (by assumption) rfl | exact Sl.len (by assumption) rfl) ?_)
      refine pops.nil ?_
      repeat (first | refine kthenP.n ?_ | refine kthenP.r ?_ | refine kthenP.e ?_ | refine kblockP.n ?_ | refine kblockP.r ?_ | refine kblockP.e ?_ | refine kblockP.o rfl ?_ | refine Runs.seq ?_ | refine Runs.region ?_ | refine Runs.block ?_ | refine Runs.cond ?_ | refine Runs.skip ?_ | refine Runs.loop ?_ | refine Runs.exit ?_ | refine Runs.ret ?_)
      repeat (first | refine pops.bin rfl rfl rfl rfl rfl rfl (cbin_inc (by omega)) ?_ | refine pops.fl rfl rfl rfl rfl rfl ?_ | refine pops.skip rfl rfl rfl ?_ | refine pops.load rfl rfl rfl rfl rfl (by first | assumption | exact cload_of (by assumption) rfl) ?_ | refine pops.len rfl rfl rfl rfl rfl rfl rfl rfl (by first | exact SlA.len (by assumption) rfl | exact SlI.len (by assumption) rfl | exact SlS.len (by assumption) rfl | exact Sl.len (by assumption) rfl) ?_)
      refine pops.nil ?_
      refine .n ⟨_, i + 1, rfl, ⟨?_, rfl, rfl, rfl, trivial⟩, (by show p.subs.length - (i + 1) < p.subs.length - i; omega), by omega, (g2.trans g4).trans g5⟩
      rw [hpt, ← Nat.add_assoc]
      rfl
    · repeat (first | refine kthenP.n ?_ | refine kthenP.r ?_ | refine kthenP.e ?_ | refine kblockP.n ?_ | refine kblockP.r ?_ | refine kblockP.e ?_ | refine kblockP.o rfl ?_ | refine Runs.seq ?_ | refine Runs.region ?_ | refine Runs.block ?_ | refine Runs.cond ?_ | refine Runs.skip ?_ | refine Runs.loop ?_ | refine Runs.exit ?_ | refine Runs.ret ?_)
      repeat (first | refine pops.bin rfl rfl rfl rfl rfl rfl (cbin_inc (by omega)) ?_ | refine pops.fl rfl rfl rfl rfl rfl ?_ | refine pops.skip rfl rfl rfl ?_ | refine pops.load rfl rfl rfl rfl rfl (by first | assumption | exact cload_of (by assumption) rfl) ?_ | refine pops.len rfl rfl rfl rfl rfl rfl rfl rfl (by first | exact SlA.len (by assumption) rfl | exact SlI.len (by assumption) rfl | exact SlS.len (by assumption) rfl | exact Sl.len (by assumption) rfl) ?_)
      refine pops.nil ?_
      repeat (first | refine kthenP.n ?_ | refine kthenP.r ?_ | refine kthenP.e ?_ | refine kblockP.n ?_ | refine kblockP.r ?_ | refine kblockP.e ?_ | refine kblockP.o rfl ?_ | refine Runs.seq ?_ | refine Runs.region ?_ | refine Runs.block ?_ | refine Runs.cond ?_ | refine Runs.skip ?_ | refine Runs.loop ?_ | refine Runs.exit ?_ | refine Runs.ret ?_)
      refine pleave.r rfl ?_
      refine ⟨?_, g1.trans g2⟩
      have : i = p.subs.length := by omega
      rw [hpp, this, List.take_length]
end Go.Proofs.YtnchhgjoiboibaaGreatDoor

set_option maxRecDepth 100000
set_option linter.unusedVariables false
set_option linter.unusedSimpArgs false
namespace Go.Proofs.YtnchhgjoiboibaaGreatDoor
open Go.Cx
variable {w : World} {h : CH}
theorem fn_Check : tab.fn 6 = some Tryz.f6 := by kernel_rfl
/-- Rules whose patterns have few parts. -/
def FewParts (l : List RuleD) : Prop := l.length ≤ 1000 ∧ ∀ r, r ∈ l → partsOf r.left ≤ 300 ∧ partsOf r.right ≤ 300
theorem Check_calls {v : Value} {r : RulesD} (hv : BreakV tab 9 kp 36 h v r) (hlen : ∀ s, s ∈ r.classes → s.data.toList.length < 9223372036854775808) (hfew : FewParts r.rules) :
    CalF (X w) 6 [v] h fun x h' => x = .ret (.int .i64 (checkR r)) ∧ Gr h h' := by
  refine CalF.wf fun hwf => ?_
  obtain ⟨c, s, rfl, oc, os, hc, hs⟩ := hv
  refine CalF.intro fn_Check rfl (Nat.le_of_ble_eq_true rfl) ?_
  repeat (first | refine kthenP.n ?_ | refine kthenP.r ?_ | refine kthenP.e ?_ | refine kblockP.n ?_ | refine kblockP.r ?_ | refine kblockP.e ?_ | refine kblockP.o rfl ?_ | refine Runs.seq ?_ | refine Runs.region ?_ | refine Runs.block ?_ | refine Runs.cond ?_ | refine Runs.skip ?_ | refine Runs.loop ?_ | refine Runs.exit ?_ | refine Runs.ret ?_)
  refine pops.box (cs := [c, s]) rfl rfl rfl rfl (by simp only [List.all_cons, List.all_nil, oc, os, Bool.and_true]) rfl rfl hwf fun b h1 hb hwf1 g1 hcb => ?_
  replace hc := Sl.gr hc hwf g1
  replace hs := RulesV.gr hwf g1 hs
  repeat (first | refine pops.bin rfl rfl rfl rfl rfl rfl (cbin_inc (by omega)) ?_ | refine pops.fl rfl rfl rfl rfl rfl ?_ | refine pops.skip rfl rfl rfl ?_ | refine pops.load rfl rfl rfl rfl rfl (by first | assumption | exact cload_of (by assumption) rfl) ?_ | refine pops.len rfl rfl rfl rfl rfl rfl rfl rfl (by first | exact SlA.len (by assumption) rfl | exact SlI.len (by assumption) rfl | exact SlS.len (by assumption) rfl | exact Sl.len (by assumption) rfl) ?_)
  refine pops.nil ?_
  repeat (first | refine kthenP.n ?_ | refine kthenP.r ?_ | refine kthenP.e ?_ | refine kblockP.n ?_ | refine kblockP.r ?_ | refine kblockP.e ?_ | refine kblockP.o rfl ?_ | refine Runs.seq ?_ | refine Runs.region ?_ | refine Runs.block ?_ | refine Runs.cond ?_ | refine Runs.skip ?_ | refine Runs.loop ?_ | refine Runs.exit ?_ | refine Runs.ret ?_)
  repeat (first | refine pops.bin rfl rfl rfl rfl rfl rfl (cbin_inc (by omega)) ?_ | refine pops.fl rfl rfl rfl rfl rfl ?_ | refine pops.skip rfl rfl rfl ?_ | refine pops.load rfl rfl rfl rfl rfl (by first | assumption | exact cload_of (by assumption) rfl) ?_ | refine pops.len rfl rfl rfl rfl rfl rfl rfl rfl (by first | exact SlA.len (by assumption) rfl | exact SlI.len (by assumption) rfl | exact SlS.len (by assumption) rfl | exact Sl.len (by assumption) rfl) ?_)
  refine pops.callV rfl rfl rfl rfl rfl fn_indices rfl rfl ((indices_calls hc hlen).monoW fun x h2 hwf2 hh => ?_)
  obtain ⟨⟨m, rfl⟩, g2⟩ := hh
  refine ⟨_, rfl, ?_⟩
  replace hcb := g2.at hwf1 hcb
  replace hc := Sl.gr hc hwf1 g2
  replace hs := RulesV.gr hwf1 g2 hs
  have g02 := g1.trans g2
  have ls := hs.lt
  repeat (first | refine pops.bin rfl rfl rfl rfl rfl rfl (cbin_inc (by omega)) ?_ | refine pops.fl rfl rfl rfl rfl rfl ?_ | refine pops.skip rfl rfl rfl ?_ | refine pops.load rfl rfl rfl rfl rfl (by first | assumption | exact cload_of (by assumption) rfl) ?_ | refine pops.len rfl rfl rfl rfl rfl rfl rfl rfl (by first | exact SlA.len (by assumption) rfl | exact SlI.len (by assumption) rfl | exact SlS.len (by assumption) rfl | exact Sl.len (by assumption) rfl) ?_)
  refine pops.nil ?_
  repeat (first | refine kthenP.n ?_ | refine kthenP.r ?_ | refine kthenP.e ?_ | refine kblockP.n ?_ | refine kblockP.r ?_ | refine kblockP.e ?_ | refine kblockP.o rfl ?_ | refine Runs.seq ?_ | refine Runs.region ?_ | refine Runs.block ?_ | refine Runs.cond ?_ | refine Runs.skip ?_ | refine Runs.loop ?_ | refine Runs.exit ?_ | refine Runs.ret ?_)
  unfold checkR
  cases hN : tt (NamesP r.classes) with
  | false =>
    repeat (first | refine pops.bin rfl rfl rfl rfl rfl rfl (cbin_inc (by omega)) ?_ | refine pops.fl rfl rfl rfl rfl rfl ?_ | refine pops.skip rfl rfl rfl ?_ | refine pops.load rfl rfl rfl rfl rfl (by first | assumption | exact cload_of (by assumption) rfl) ?_ | refine pops.len rfl rfl rfl rfl rfl rfl rfl rfl (by first | exact SlA.len (by assumption) rfl | exact SlI.len (by assumption) rfl | exact SlS.len (by assumption) rfl | exact Sl.len (by assumption) rfl) ?_)
    refine pops.nil ?_
    repeat (first | refine kthenP.n ?_ | refine kthenP.r ?_ | refine kthenP.e ?_ | refine kblockP.n ?_ | refine kblockP.r ?_ | refine kblockP.e ?_ | refine kblockP.o rfl ?_ | refine Runs.seq ?_ | refine Runs.region ?_ | refine Runs.block ?_ | refine Runs.cond ?_ | refine Runs.skip ?_ | refine Runs.loop ?_ | refine Runs.exit ?_ | refine Runs.ret ?_)
    refine pcond.t rfl ?_
    repeat (first | refine kthenP.n ?_ | refine kthenP.r ?_ | refine kthenP.e ?_ | refine kblockP.n ?_ | refine kblockP.r ?_ | refine kblockP.e ?_ | refine kblockP.o rfl ?_ | refine Runs.seq ?_ | refine Runs.region ?_ | refine Runs.block ?_ | refine Runs.cond ?_ | refine Runs.skip ?_ | refine Runs.loop ?_ | refine Runs.exit ?_ | refine Runs.ret ?_)
    repeat (first | refine pops.bin rfl rfl rfl rfl rfl rfl (cbin_inc (by omega)) ?_ | refine pops.fl rfl rfl rfl rfl rfl ?_ | refine pops.skip rfl rfl rfl ?_ | refine pops.load rfl rfl rfl rfl rfl (by first | assumption | exact cload_of (by assumption) rfl) ?_ | refine pops.len rfl rfl rfl rfl rfl rfl rfl rfl (by first | exact SlA.len (by assumption) rfl | exact SlI.len (by assumption) rfl | exact SlS.len (by assumption) rfl | exact Sl.len (by assumption) rfl) ?_)
    refine pops.nil ?_
    repeat (first | refine kthenP.n ?_ | refine kthenP.r ?_ | refine kthenP.e ?_ | refine kblockP.n ?_ | refine kblockP.r ?_ | refine kblockP.e ?_ | refine kblockP.o rfl ?_ | refine Runs.seq ?_ | refine Runs.region ?_ | refine Runs.block ?_ | refine Runs.cond ?_ | refine Runs.skip ?_ | refine Runs.loop ?_ | refine Runs.exit ?_ | refine Runs.ret ?_)
    refine pleave.r rfl ?_
    exact ⟨rfl, g02⟩
  | true =>
  have hN' := tt_iff.1 hN
  have hn1 : r.classes.length ≤ 60 := hN'.2.2.2
  simp only [cond_true]
  repeat (first | refine pops.bin rfl rfl rfl rfl rfl rfl (cbin_inc (by omega)) ?_ | refine pops.fl rfl rfl rfl rfl rfl ?_ | refine pops.skip rfl rfl rfl ?_ | refine pops.load rfl rfl rfl rfl rfl (by first | assumption | exact cload_of (by assumption) rfl) ?_ | refine pops.len rfl rfl rfl rfl rfl rfl rfl rfl (by first | exact SlA.len (by assumption) rfl | exact SlI.len (by assumption) rfl | exact SlS.len (by assumption) rfl | exact Sl.len (by assumption) rfl) ?_)
  refine pops.nil ?_
  repeat (first | refine kthenP.n ?_ | refine kthenP.r ?_ | refine kthenP.e ?_ | refine kblockP.n ?_ | refine kblockP.r ?_ | refine kblockP.e ?_ | refine kblockP.o rfl ?_ | refine Runs.seq ?_ | refine Runs.region ?_ | refine Runs.block ?_ | refine Runs.cond ?_ | refine Runs.skip ?_ | refine Runs.loop ?_ | refine Runs.exit ?_ | refine Runs.ret ?_)
  refine pcond.f rfl ?_
  repeat (first | refine kthenP.n ?_ | refine kthenP.r ?_ | refine kthenP.e ?_ | refine kblockP.n ?_ | refine kblockP.r ?_ | refine kblockP.e ?_ | refine kblockP.o rfl ?_ | refine Runs.seq ?_ | refine Runs.region ?_ | refine Runs.block ?_ | refine Runs.cond ?_ | refine Runs.skip ?_ | refine Runs.loop ?_ | refine Runs.exit ?_ | refine Runs.ret ?_)
  repeat (first | refine pops.bin rfl rfl rfl rfl rfl rfl (cbin_inc (by omega)) ?_ | refine pops.fl rfl rfl rfl rfl rfl ?_ | refine pops.skip rfl rfl rfl ?_ | refine pops.load rfl rfl rfl rfl rfl (by first | assumption | exact cload_of (by assumption) rfl) ?_ | refine pops.len rfl rfl rfl rfl rfl rfl rfl rfl (by first | exact SlA.len (by assumption) rfl | exact SlI.len (by assumption) rfl | exact SlS.len (by assumption) rfl | exact Sl.len (by assumption) rfl) ?_)
  refine pops.nil ?_
  repeat (first | refine kthenP.n ?_ | refine kthenP.r ?_ | refine kthenP.e ?_ | refine kblockP.n ?_ | refine kblockP.r ?_ | refine kblockP.e ?_ | refine kblockP.o rfl ?_ | refine Runs.seq ?_ | refine Runs.region ?_ | refine Runs.block ?_ | refine Runs.cond ?_ | refine Runs.skip ?_ | refine Runs.loop ?_ | refine Runs.exit ?_ | refine Runs.ret ?_)
  repeat (first | refine pops.bin rfl rfl rfl rfl rfl rfl (cbin_inc (by omega)) ?_ | refine pops.fl rfl rfl rfl rfl rfl ?_ | refine pops.skip rfl rfl rfl ?_ | refine pops.load rfl rfl rfl rfl rfl (by first | assumption | exact cload_of (by assumption) rfl) ?_ | refine pops.len rfl rfl rfl rfl rfl rfl rfl rfl (by first | exact SlA.len (by assumption) rfl | exact SlI.len (by assumption) rfl | exact SlS.len (by assumption) rfl | exact Sl.len (by assumption) rfl) ?_)
  refine pops.nil ?_
  repeat (first | refine kthenP.n ?_ | refine kthenP.r ?_ | refine kthenP.e ?_ | refine kblockP.n ?_ | refine kblockP.r ?_ | refine kblockP.e ?_ | refine kblockP.o rfl ?_ | refine Runs.seq ?_ | refine Runs.region ?_ | refine Runs.block ?_ | refine Runs.cond ?_ | refine Runs.skip ?_ | refine Runs.loop ?_ | refine Runs.exit ?_ | refine Runs.ret ?_)
  refine Loops.ind 7 (fun i : Nat => [(1, .pointer (some ⟨b, 0, none⟩)), (2, .int .i64 0), (5, .int .i64 (r.classes.length : Nat)), (6, .int .i64 (partsR (r.rules.take i) : Nat)), (21, s), (22, .int .i64 (r.rules.length : Nat)), (23, .int .i64 (i : Nat))])
    (fun i h' => i ≤ r.rules.length ∧ Gr h2 h' ∧ ∀ (j : Nat) q, j < i → r.rules[j]? = some q → ruleOk r.classes.length q = true) (fun i => r.rules.length - i) 0 (by decide) ⟨rfl, rfl, rfl, rfl, rfl, rfl, rfl, trivial⟩ ⟨Nat.zero_le _, Gr.refl _, fun j q hj => absurd hj (Nat.not_lt_zero j)⟩ ?_
  rintro i z h' hwf' ⟨hi, g3, hall⟩
  replace hcb := g3.at hwf2 hcb
  replace hs := RulesV.gr hwf2 g3 hs
  repeat (first | refine kthenP.n ?_ | refine kthenP.r ?_ | refine kthenP.e ?_ | refine kblockP.n ?_ | refine kblockP.r ?_ | refine kblockP.e ?_ | refine kblockP.o rfl ?_ | refine Runs.seq ?_ | refine Runs.region ?_ | refine Runs.block ?_ | refine Runs.cond ?_ | refine Runs.skip ?_ | refine Runs.loop ?_ | refine Runs.exit ?_ | refine Runs.ret ?_)
  repeat (first | refine pops.bin rfl rfl rfl rfl rfl rfl (cbin_inc (by omega)) ?_ | refine pops.fl rfl rfl rfl rfl rfl ?_ | refine pops.skip rfl rfl rfl ?_ | refine pops.load rfl rfl rfl rfl rfl (by first | assumption | exact cload_of (by assumption) rfl) ?_ | refine pops.len rfl rfl rfl rfl rfl rfl rfl rfl (by first | exact SlA.len (by assumption) rfl | exact SlI.len (by assumption) rfl | exact SlS.len (by assumption) rfl | exact Sl.len (by assumption) rfl) ?_)
  refine pops.nil ?_
  repeat (first | refine kthenP.n ?_ | refine kthenP.r ?_ | refine kthenP.e ?_ | refine kblockP.n ?_ | refine kblockP.r ?_ | refine kblockP.e ?_ | refine kblockP.o rfl ?_ | refine Runs.seq ?_ | refine Runs.region ?_ | refine Runs.block ?_ | refine Runs.cond ?_ | refine Runs.skip ?_ | refine Runs.loop ?_ | refine Runs.exit ?_ | refine Runs.ret ?_)
  refine pcond.d (p := (i : Int) < (r.rules.length : Nat)) rfl (fun hlt => ?_) (fun hge => ?_)
  · obtain ⟨q, hq⟩ : ∃ q, r.rules[i]? = some q := ⟨_, List.getElem?_eq_getElem (by omega)⟩
    have hqm := List.mem_of_getElem? hq
    obtain ⟨hp1, hp2⟩ := hfew.2 q hqm
    have hpt := partsR_take hq
    have hpl : partsR (r.rules.take (i + 1)) ≤ 600000 := by
      have := partsR_le (l := r.rules.take (i + 1)) (m := 600) (fun x hx => by have := hfew.2 x (List.mem_of_mem_take hx); omega)
      rw [List.length_take] at this
      have h3 := hfew.1
      have : min (i + 1) r.rules.length * 600 ≤ 1000 * 600 := Nat.mul_le_mul_right _ (by omega)
      omega
    have bad : ruleOk r.classes.length q = false → r.rules.all (ruleOk r.classes.length) = false := fun hb => by rw [List.all_eq_false]; exact ⟨q, hqm, by rw [hb]; decide⟩
    repeat (first | refine kthenP.n ?_ | refine kthenP.r ?_ | refine kthenP.e ?_ | refine kblockP.n ?_ | refine kblockP.r ?_ | refine kblockP.e ?_ | refine kblockP.o rfl ?_ | refine Runs.seq ?_ | refine Runs.region ?_ | refine Runs.block ?_ | refine Runs.cond ?_ | refine Runs.skip ?_ | refine Runs.loop ?_ | refine Runs.exit ?_ | refine Runs.ret ?_)
    refine pops.atA rfl rfl rfl rfl rfl rfl rfl hs hq fun a u ha hu => ?_
    refine pops.load rfl rfl rfl rfl rfl (by first | assumption | exact cload_of (by assumption) rfl) ?_
    obtain ⟨lc, ls', rc, rs, rfl, hone, hL, hR⟩ := hu
    simp only [Bool.and_eq_true] at hone
    refine pops.alloc rfl rfl rfl rfl rfl hwf' fun b2 h3 hb2 hwf3 g4 hcb2 => ?_
    refine pops.store (s := 7) (us := [.int .i64 q.action, .int .i64 q.left.kind, lc, ls', .int .i64 q.right.kind, rc, rs]) (cs' := [.int .i64 q.action, .int .i64 q.left.kind, lc, ls', .int .i64 q.right.kind, rc, rs]) rfl rfl rfl rfl rfl hcb2 rfl rfl (by simp only [List.all_cons, List.all_nil, hone.1.1.1, hone.1.1.2, hone.1.2, hone.2, Bool.and_true]; rfl) rfl hwf3 fun h4 hwf4 u4 hc4 => ?_
    have g5 := g4.upd hb2 u4
    replace hL := hL.gr hwf' g5
    replace hR := hR.gr hwf' g5
    replace hcb := g5.at hwf' hcb
    have g05 := (g02.trans g3).trans g5
    refine pops.nil ?_
    repeat (first | refine kthenP.n ?_ | refine kthenP.r ?_ | refine kthenP.e ?_ | refine kblockP.n ?_ | refine kblockP.r ?_ | refine kblockP.e ?_ | refine kblockP.o rfl ?_ | refine Runs.seq ?_ | refine Runs.region ?_ | refine Runs.block ?_ | refine Runs.cond ?_ | refine Runs.skip ?_ | refine Runs.loop ?_ | refine Runs.exit ?_ | refine Runs.ret ?_)
    refine pops.fl rfl rfl rfl rfl rfl ?_
    refine pops.load rfl rfl rfl rfl rfl (cload_of hc4 rfl) ?_
    refine pops.cmp rfl rfl rfl rfl rfl (fun q1 => ?_) (fun q1 => ?_)
    · have q1 := of_decide_eq_true q1
      repeat (first | refine pops.bin rfl rfl rfl rfl rfl rfl (cbin_inc (by omega)) ?_ | refine pops.fl rfl rfl rfl rfl rfl ?_ | refine pops.skip rfl rfl rfl ?_ | refine pops.load rfl rfl rfl rfl rfl (by first | assumption | exact cload_of (by assumption) rfl) ?_ | refine pops.len rfl rfl rfl rfl rfl rfl rfl rfl (by first | exact SlA.len (by assumption) rfl | exact SlI.len (by assumption) rfl | exact SlS.len (by assumption) rfl | exact Sl.len (by assumption) rfl) ?_)
      refine pops.nil ?_
      repeat (first | refine kthenP.n ?_ | refine kthenP.r ?_ | refine kthenP.e ?_ | refine kblockP.n ?_ | refine kblockP.r ?_ | refine kblockP.e ?_ | refine kblockP.o rfl ?_ | refine Runs.seq ?_ | refine Runs.region ?_ | refine Runs.block ?_ | refine Runs.cond ?_ | refine Runs.skip ?_ | refine Runs.loop ?_ | refine Runs.exit ?_ | refine Runs.ret ?_)
      refine pcond.t rfl ?_
      repeat (first | refine kthenP.n ?_ | refine kthenP.r ?_ | refine kthenP.e ?_ | refine kblockP.n ?_ | refine kblockP.r ?_ | refine kblockP.e ?_ | refine kblockP.o rfl ?_ | refine Runs.seq ?_ | refine Runs.region ?_ | refine Runs.block ?_ | refine Runs.cond ?_ | refine Runs.skip ?_ | refine Runs.loop ?_ | refine Runs.exit ?_ | refine Runs.ret ?_)
      repeat (first | refine pops.bin rfl rfl rfl rfl rfl rfl (cbin_inc (by omega)) ?_ | refine pops.fl rfl rfl rfl rfl rfl ?_ | refine pops.skip rfl rfl rfl ?_ | refine pops.load rfl rfl rfl rfl rfl (by first | assumption | exact cload_of (by assumption) rfl) ?_ | refine pops.len rfl rfl rfl rfl rfl rfl rfl rfl (by first | exact SlA.len (by assumption) rfl | exact SlI.len (by assumption) rfl | exact SlS.len (by assumption) rfl | exact Sl.len (by assumption) rfl) ?_)
      refine pops.nil ?_
      repeat (first | refine kthenP.n ?_ | refine kthenP.r ?_ | refine kthenP.e ?_ | refine kblockP.n ?_ | refine kblockP.r ?_ | refine kblockP.e ?_ | refine kblockP.o rfl ?_ | refine Runs.seq ?_ | refine Runs.region ?_ | refine Runs.block ?_ | refine Runs.cond ?_ | refine Runs.skip ?_ | refine Runs.loop ?_ | refine Runs.exit ?_ | refine Runs.ret ?_)
      refine pleave.r rfl ?_
      refine ⟨?_, g05⟩
      rw [bad (by unfold ruleOk; rw [decide_eq_false (by omega)]; rfl)]
      rfl
    have q1 := of_decide_eq_false q1
    refine pops.fl rfl rfl rfl rfl rfl ?_
    refine pops.fl rfl rfl rfl rfl rfl ?_
    refine pops.load rfl rfl rfl rfl rfl (cload_of hc4 rfl) ?_
    refine pops.cmp rfl rfl rfl rfl rfl (fun q2 => ?_) (fun q2 => ?_)
    · have q2 := of_decide_eq_true q2
      repeat (first | refine pops.bin rfl rfl rfl rfl rfl rfl (cbin_inc (by omega)) ?_ | refine pops.fl rfl rfl rfl rfl rfl ?_ | refine pops.skip rfl rfl rfl ?_ | refine pops.load rfl rfl rfl rfl rfl (by first | assumption | exact cload_of (by assumption) rfl) ?_ | refine pops.len rfl rfl rfl rfl rfl rfl rfl rfl (by first | exact SlA.len (by assumption) rfl | exact SlI.len (by assumption) rfl | exact SlS.len (by assumption) rfl | exact Sl.len (by assumption) rfl) ?_)
      refine pops.nil ?_
      repeat (first | refine kthenP.n ?_ | refine kthenP.r ?_ | refine kthenP.e ?_ | refine kblockP.n ?_ | refine kblockP.r ?_ | refine kblockP.e ?_ | refine kblockP.o rfl ?_ | refine Runs.seq ?_ | refine Runs.region ?_ | refine Runs.block ?_ | refine Runs.cond ?_ | refine Runs.skip ?_ | refine Runs.loop ?_ | refine Runs.exit ?_ | refine Runs.ret ?_)
      refine pcond.t rfl ?_
      repeat (first | refine kthenP.n ?_ | refine kthenP.r ?_ | refine kthenP.e ?_ | refine kblockP.n ?_ | refine kblockP.r ?_ | refine kblockP.e ?_ | refine kblockP.o rfl ?_ | refine Runs.seq ?_ | refine Runs.region ?_ | refine Runs.block ?_ | refine Runs.cond ?_ | refine Runs.skip ?_ | refine Runs.loop ?_ | refine Runs.exit ?_ | refine Runs.ret ?_)
      repeat (first | refine pops.bin rfl rfl rfl rfl rfl rfl (cbin_inc (by omega)) ?_ | refine pops.fl rfl rfl rfl rfl rfl ?_ | refine pops.skip rfl rfl rfl ?_ | refine pops.load rfl rfl rfl rfl rfl (by first | assumption | exact cload_of (by assumption) rfl) ?_ | refine pops.len rfl rfl rfl rfl rfl rfl rfl rfl (by first | exact SlA.len (by assumption) rfl | exact SlI.len (by assumption) rfl | exact SlS.len (by assumption) rfl | exact Sl.len (by assumption) rfl) ?_)
      refine pops.nil ?_
      repeat (first | refine kthenP.n ?_ | refine kthenP.r ?_ | refine kthenP.e ?_ | refine kblockP.n ?_ | refine kblockP.r ?_ | refine kblockP.e ?_ | refine kblockP.o rfl ?_ | refine Runs.seq ?_ | refine Runs.region ?_ | refine Runs.block ?_ | refine Runs.cond ?_ | refine Runs.skip ?_ | refine Runs.loop ?_ | refine Runs.exit ?_ | refine Runs.ret ?_)
      refine pleave.r rfl ?_
      refine ⟨?_, g05⟩
      rw [bad (by unfold ruleOk; rw [decide_eq_false (by omega)]; rfl)]
      rfl
    have q2 := of_decide_eq_false q2
    have hact : decide (1 ≤ q.action ∧ q.action ≤ 3) = true := decide_eq_true ⟨by omega, by omega⟩
    refine pops.fl rfl rfl rfl rfl rfl ?_
    refine pops.fl rfl rfl rfl rfl rfl ?_
    refine pops.fl rfl rfl rfl rfl rfl ?_
    refine pops.load rfl rfl rfl rfl rfl (cload_of hc4 rfl) ?_
    refine pops.fl rfl rfl rfl rfl rfl ?_
    refine pops.callG rfl rfl rfl rfl rfl fn_pvalid rfl rfl rfl (pvalid_calls (n := (r.classes.length : Int)) (by omega) (by omega) 16 (by omega) hL) fun h5 hwf5 g6 => ?_
    replace hc4 := g6.at hwf4 hc4
    replace hL := hL.gr hwf4 g6
    replace hR := hR.gr hwf4 g6
    replace hcb := g6.at hwf4 hcb
    cases hv1 : patOk (r.classes.length : Int) 16 q.left with
    | false =>
      repeat (first | refine pops.bin rfl rfl rfl rfl rfl rfl (cbin_inc (by omega)) ?_ | refine pops.fl rfl rfl rfl rfl rfl ?_ | refine pops.skip rfl rfl rfl ?_ | refine pops.load rfl rfl rfl rfl rfl (by first | assumption | exact cload_of (by assumption) rfl) ?_ | refine pops.len rfl rfl rfl rfl rfl rfl rfl rfl (by first | exact SlA.len (by assumption) rfl | exact SlI.len (by assumption) rfl | exact SlS.len (by assumption) rfl | exact Sl.len (by assumption) rfl) ?_)
      refine pops.nil ?_
      repeat (first | refine kthenP.n ?_ | refine kthenP.r ?_ | refine kthenP.e ?_ | refine kblockP.n ?_ | refine kblockP.r ?_ | refine kblockP.e ?_ | refine kblockP.o rfl ?_ | refine Runs.seq ?_ | refine Runs.region ?_ | refine Runs.block ?_ | refine Runs.cond ?_ | refine Runs.skip ?_ | refine Runs.loop ?_ | refine Runs.exit ?_ | refine Runs.ret ?_)
      refine pcond.t rfl ?_
      repeat (first | refine kthenP.n ?_ | refine kthenP.r ?_ | refine kthenP.e ?_ | refine kblockP.n ?_ | refine kblockP.r ?_ | refine kblockP.e ?_ | refine kblockP.o rfl ?_ | refine Runs.seq ?_ | refine Runs.region ?_ | refine Runs.block ?_ | refine Runs.cond ?_ | refine Runs.skip ?_ | refine Runs.loop ?_ | refine Runs.exit ?_ | refine Runs.ret ?_)
      repeat (first | refine pops.bin rfl rfl rfl rfl rfl rfl (cbin_inc (by omega)) ?_ | refine pops.fl rfl rfl rfl rfl rfl ?_ | refine pops.skip rfl rfl rfl ?_ | refine pops.load rfl rfl rfl rfl rfl (by first | assumption | exact cload_of (by assumption) rfl) ?_ | refine pops.len rfl rfl rfl rfl rfl rfl rfl rfl (by first | exact SlA.len (by assumption) rfl | exact SlI.len (by assumption) rfl | exact SlS.len (by assumption) rfl | exact Sl.len (by assumption) rfl) ?_)
      refine pops.nil ?_
      repeat (first | refine kthenP.n ?_ | refine kthenP.r ?_ | refine kthenP.e ?_ | refine kblockP.n ?_ | refine kblockP.r ?_ | refine kblockP.e ?_ | refine kblockP.o rfl ?_ | refine Runs.seq ?_ | refine Runs.region ?_ | refine Runs.block ?_ | refine Runs.cond ?_ | refine Runs.skip ?_ | refine Runs.loop ?_ | refine Runs.exit ?_ | refine Runs.ret ?_)
      refine pleave.r rfl ?_
      refine ⟨?_, g05.trans g6⟩
      rw [bad (by unfold ruleOk; rw [hv1, Bool.and_false]; rfl)]
      rfl
    | true =>
    refine pops.fl rfl rfl rfl rfl rfl ?_
    refine pops.fl rfl rfl rfl rfl rfl ?_
    refine pops.fl rfl rfl rfl rfl rfl ?_
    refine pops.fl rfl rfl rfl rfl rfl ?_
    refine pops.load rfl rfl rfl rfl rfl (cload_of hc4 rfl) ?_
    refine pops.fl rfl rfl rfl rfl rfl ?_
    refine pops.callG rfl rfl rfl rfl rfl fn_pvalid rfl rfl rfl (pvalid_calls (n := (r.classes.length : Int)) (by omega) (by omega) 16 (by omega) hR) fun h6 hwf6 g7 => ?_
    replace hc4 := g7.at hwf5 hc4
    replace hL := hL.gr hwf5 g7
    replace hR := hR.gr hwf5 g7
    replace hcb := g7.at hwf5 hcb
    cases hv2 : patOk (r.classes.length : Int) 16 q.right with
    | false =>
      repeat (first | refine pops.bin rfl rfl rfl rfl rfl rfl (cbin_inc (by omega)) ?_ | refine pops.fl rfl rfl rfl rfl rfl ?_ | refine pops.skip rfl rfl rfl ?_ | refine pops.load rfl rfl rfl rfl rfl (by first | assumption | exact cload_of (by assumption) rfl) ?_ | refine pops.len rfl rfl rfl rfl rfl rfl rfl rfl (by first | exact SlA.len (by assumption) rfl | exact SlI.len (by assumption) rfl | exact SlS.len (by assumption) rfl | exact Sl.len (by assumption) rfl) ?_)
      refine pops.nil ?_
      repeat (first | refine kthenP.n ?_ | refine kthenP.r ?_ | refine kthenP.e ?_ | refine kblockP.n ?_ | refine kblockP.r ?_ | refine kblockP.e ?_ | refine kblockP.o rfl ?_ | refine Runs.seq ?_ | refine Runs.region ?_ | refine Runs.block ?_ | refine Runs.cond ?_ | refine Runs.skip ?_ | refine Runs.loop ?_ | refine Runs.exit ?_ | refine Runs.ret ?_)
      refine pcond.t rfl ?_
      repeat (first | refine kthenP.n ?_ | refine kthenP.r ?_ | refine kthenP.e ?_ | refine kblockP.n ?_ | refine kblockP.r ?_ | refine kblockP.e ?_ | refine kblockP.o rfl ?_ | refine Runs.seq ?_ | refine Runs.region ?_ | refine Runs.block ?_ | refine Runs.cond ?_ | refine Runs.skip ?_ | refine Runs.loop ?_ | refine Runs.exit ?_ | refine Runs.ret ?_)
      repeat (first | refine pops.bin rfl rfl rfl rfl rfl rfl (cbin_inc (by omega)) ?_ | refine pops.fl rfl rfl rfl rfl rfl ?_ | refine pops.skip rfl rfl rfl ?_ | refine pops.load rfl rfl rfl rfl rfl (by first | assumption | exact cload_of (by assumption) rfl) ?_ | refine pops.len rfl rfl rfl rfl rfl rfl rfl rfl (by first | exact SlA.len (by assumption) rfl | exact SlI.len (by assumption) rfl | exact SlS.len (by assumption) rfl | exact Sl.len (by assumption) rfl) ?_)
      refine pops.nil ?_
      repeat (first | refine kthenP.n ?_ | refine kthenP.r ?_ | refine kthenP.e ?_ | refine kblockP.n ?_ | refine kblockP.r ?_ | refine kblockP.e ?_ | refine kblockP.o rfl ?_ | refine Runs.seq ?_ | refine Runs.region ?_ | refine Runs.block ?_ | refine Runs.cond ?_ | refine Runs.skip ?_ | refine Runs.loop ?_ | refine Runs.exit ?_ | refine Runs.ret ?_)
      refine pleave.r rfl ?_
      refine ⟨?_, (g05.trans g6).trans g7⟩
      rw [bad (by unfold ruleOk; rw [hv2, Bool.and_false])]
      rfl
    | true =>
    have hok : ruleOk r.classes.length q = true := by unfold ruleOk; rw [hact, hv1, hv2]; rfl
    repeat (first | refine pops.bin rfl rfl rfl rfl rfl rfl (cbin_inc (by omega)) ?_ | refine pops.fl rfl rfl rfl rfl rfl ?_ | refine pops.skip rfl rfl rfl ?_ | refine pops.load rfl rfl rfl rfl rfl (by first | assumption | exact cload_of (by assumption) rfl) ?_ | refine pops.len rfl rfl rfl rfl rfl rfl rfl rfl (by first | exact SlA.len (by assumption) rfl | exact SlI.len (by assumption) rfl | exact SlS.len (by assumption) rfl | exact Sl.len (by assumption) rfl) ?_)
    refine pops.nil ?_
    repeat (first | refine kthenP.n ?_ | refine kthenP.r ?_ | refine kthenP.e ?_ | refine kblockP.n ?_ | refine kblockP.r ?_ | refine kblockP.e ?_ | refine kblockP.o rfl ?_ | refine Runs.seq ?_ | refine Runs.region ?_ | refine Runs.block ?_ | refine Runs.cond ?_ | refine Runs.skip ?_ | refine Runs.loop ?_ | refine Runs.exit ?_ | refine Runs.ret ?_)
    refine pcond.f rfl ?_
    repeat (first | refine kthenP.n ?_ | refine kthenP.r ?_ | refine kthenP.e ?_ | refine kblockP.n ?_ | refine kblockP.r ?_ | refine kblockP.e ?_ | refine kblockP.o rfl ?_ | refine Runs.seq ?_ | refine Runs.region ?_ | refine Runs.block ?_ | refine Runs.cond ?_ | refine Runs.skip ?_ | refine Runs.loop ?_ | refine Runs.exit ?_ | refine Runs.ret ?_)
    refine PG.startA 10 1023 _ rfl rfl rfl rfl ?_
    refine PG.take (by decide +kernel) rfl rfl rfl rfl ?_
    refine PG.take (by decide +kernel) rfl rfl rfl rfl ?_
    refine PG.load (by decide +kernel) rfl rfl rfl rfl rfl (cload_of hc4 rfl) ?_
    refine PG.skip (by decide +kernel) ?_
    refine PG.take (by decide +kernel) rfl rfl rfl rfl ?_
    refine PG.load (by decide +kernel) rfl rfl rfl rfl rfl (cload_of hc4 rfl) ?_
    repeat refine PG.skip (by decide +kernel) ?_
    refine PG.nil ?_
    refine pd1.callG 3 rfl (by kernel_rfl) rfl rfl rfl rfl rfl fn_parts rfl rfl rfl (parts_calls 300 (by omega) hL hp1) fun h7 hwf7 g8 => ?_
    replace hc4 := g8.at hwf6 hc4
    replace hR := hR.gr hwf6 g8
    replace hcb := g8.at hwf6 hcb
    refine ⟨_, by (repeat (first | exact Reck.nil | (apply Reck.dropI; decide +kernel) | (apply Reck.keep; rfl) | (apply Reck.load; rfl; rfl; exact cload_of hc4 rfl))), ?_⟩
    repeat refine PG.skip (by decide +kernel) ?_
    refine PG.nil ?_
    refine pd1.callG 6 rfl (by kernel_rfl) rfl rfl rfl rfl rfl fn_parts rfl rfl rfl (parts_calls 300 (by omega) hR hp2) fun h8 hwf8 g9 => ?_
    replace hcb := g9.at hwf7 hcb
    refine ⟨_, by (repeat (first | exact Reck.nil | (apply Reck.dropI; decide +kernel) | (apply Reck.keep; rfl) | (apply Reck.load; rfl; rfl; first | assumption | exact cload_of (by assumption) rfl) | (apply Reck.same; rfl) | (apply Reck.inc; rfl; rfl; rfl; omega))), ?_⟩
    repeat refine PG.skip (by decide +kernel) ?_
    refine PG.take (by decide +kernel) rfl rfl rfl (cbin_addN (T := tab) (h := h8) (t := 3) (xo := .tmp 52) (yo := .tmp 55) (by omega)) ?_
    refine PG.take (by decide +kernel) rfl rfl rfl (cbin_addN (T := tab) (h := h8) (t := 3) (xo := .tmp 49) (yo := .tmp 56) (by omega)) ?_
    refine PG.take (by decide +kernel) rfl rfl rfl rfl ?_
    refine PG.nil ?_
    refine pd1.finA (by kernel_rfl) (by decide +kernel) ?_
    repeat (first | refine kthenP.n ?_ | refine kthenP.r ?_ | refine kthenP.e ?_ | refine kblockP.n ?_ | refine kblockP.r ?_ | refine kblockP.e ?_ | refine kblockP.o rfl ?_ | refine Runs.seq ?_ | refine Runs.region ?_ | refine Runs.block ?_ | refine Runs.cond ?_ | refine Runs.skip ?_ | refine Runs.loop ?_ | refine Runs.exit ?_ | refine Runs.ret ?_)
    repeat (first | refine pops.bin rfl rfl rfl rfl rfl rfl (cbin_inc (by omega)) ?_ | refine pops.fl rfl rfl rfl rfl rfl ?_ | refine pops.skip rfl rfl rfl ?_ | refine pops.load rfl rfl rfl rfl rfl (by first | assumption | exact cload_of (by assumption) rfl) ?_ | refine pops.len rfl rfl rfl rfl rfl rfl rfl rfl (by first | exact SlA.len (by assumption) rfl | exact SlI.len (by assumption) rfl | exact SlS.len (by assumption) rfl | exact Sl.len (by assumption) rfl) ?_)
    refine pops.nil ?_
    refine .n ⟨_, i + 1, rfl, ⟨rfl, rfl, rfl, ?_, rfl, rfl, rfl, trivial⟩, (by show r.rules.length - (i + 1) < r.rules.length - i; omega), by omega, ((g3.trans g5).trans (g6.trans g7)).trans (g8.trans g9), all_next hall hq hok⟩
    rw [hpt]
    rfl
  · repeat (first | refine kthenP.n ?_ | refine kthenP.r ?_ | refine kthenP.e ?_ | refine kblockP.n ?_ | refine kblockP.r ?_ | refine kblockP.e ?_ | refine kblockP.o rfl ?_ | refine Runs.seq ?_ | refine Runs.region ?_ | refine Runs.block ?_ | refine Runs.cond ?_ | refine Runs.skip ?_ | refine Runs.loop ?_ | refine Runs.exit ?_ | refine Runs.ret ?_)
    have hi' : i = r.rules.length := by omega
    subst hi'
    have hall' : r.rules.all (ruleOk r.classes.length) = true := List.all_eq_true.2 (all_end hall (Nat.le_refl _))
    rw [hall', List.take_length]
    simp only [cond_true]
    repeat (first | refine pops.bin rfl rfl rfl rfl rfl rfl (cbin_inc (by omega)) ?_ | refine pops.fd rfl rfl rfl rfl rfl rfl ?_ | refine pops.skip rfl rfl rfl ?_ | refine pops.load rfl rfl rfl rfl rfl (by first | assumption | exact cload_of (by assumption) rfl) ?_ | refine pops.len rfl rfl rfl rfl rfl rfl rfl rfl (by first | exact SlA.len (by assumption) rfl | exact SlI.len (by assumption) rfl | exact SlS.len (by assumption) rfl | exact Sl.len (by assumption) rfl) ?_)
    refine pops.cmp rfl rfl rfl rfl rfl (fun q1 => ?_) (fun q1 => ?_)
    · have q1 := of_decide_eq_true q1
      repeat (first | refine pops.bin rfl rfl rfl rfl rfl rfl (cbin_inc (by omega)) ?_ | refine pops.fl rfl rfl rfl rfl rfl ?_ | refine pops.skip rfl rfl rfl ?_ | refine pops.load rfl rfl rfl rfl rfl (by first | assumption | exact cload_of (by assumption) rfl) ?_ | refine pops.len rfl rfl rfl rfl rfl rfl rfl rfl (by first | exact SlA.len (by assumption) rfl | exact SlI.len (by assumption) rfl | exact SlS.len (by assumption) rfl | exact Sl.len (by assumption) rfl) ?_)
      refine pops.nil ?_
      repeat (first | refine kthenP.n ?_ | refine kthenP.r ?_ | refine kthenP.e ?_ | refine kblockP.n ?_ | refine kblockP.r ?_ | refine kblockP.e ?_ | refine kblockP.o rfl ?_ | refine Runs.seq ?_ | refine Runs.region ?_ | refine Runs.block ?_ | refine Runs.cond ?_ | refine Runs.skip ?_ | refine Runs.loop ?_ | refine Runs.exit ?_ | refine Runs.ret ?_)
      refine pcond.t rfl ?_
      repeat (first | refine kthenP.n ?_ | refine kthenP.r ?_ | refine kthenP.e ?_ | refine kblockP.n ?_ | refine kblockP.r ?_ | refine kblockP.e ?_ | refine kblockP.o rfl ?_ | refine Runs.seq ?_ | refine Runs.region ?_ | refine Runs.block ?_ | refine Runs.cond ?_ | refine Runs.skip ?_ | refine Runs.loop ?_ | refine Runs.exit ?_ | refine Runs.ret ?_)
      repeat (first | refine pops.bin rfl rfl rfl rfl rfl rfl (cbin_inc (by omega)) ?_ | refine pops.fl rfl rfl rfl rfl rfl ?_ | refine pops.skip rfl rfl rfl ?_ | refine pops.load rfl rfl rfl rfl rfl (by first | assumption | exact cload_of (by assumption) rfl) ?_ | refine pops.len rfl rfl rfl rfl rfl rfl rfl rfl (by first | exact SlA.len (by assumption) rfl | exact SlI.len (by assumption) rfl | exact SlS.len (by assumption) rfl | exact Sl.len (by assumption) rfl) ?_)
      refine pops.nil ?_
      repeat (first | refine kthenP.n ?_ | refine kthenP.r ?_ | refine kthenP.e ?_ | refine kblockP.n ?_ | refine kblockP.r ?_ | refine kblockP.e ?_ | refine kblockP.o rfl ?_ | refine Runs.seq ?_ | refine Runs.region ?_ | refine Runs.block ?_ | refine Runs.cond ?_ | refine Runs.skip ?_ | refine Runs.loop ?_ | refine Runs.exit ?_ | refine Runs.ret ?_)
      refine pleave.r rfl ?_
      refine ⟨?_, g02.trans g3⟩
      rw [decide_eq_false (by omega)]
      rfl
    have q1 := of_decide_eq_false q1
    repeat (first | refine pops.bin rfl rfl rfl rfl rfl rfl (cbin_inc (by omega)) ?_ | refine pops.fd rfl rfl rfl rfl rfl rfl ?_ | refine pops.skip rfl rfl rfl ?_ | refine pops.load rfl rfl rfl rfl rfl (by first | assumption | exact cload_of (by assumption) rfl) ?_ | refine pops.len rfl rfl rfl rfl rfl rfl rfl rfl (by first | exact SlA.len (by assumption) rfl | exact SlI.len (by assumption) rfl | exact SlS.len (by assumption) rfl | exact Sl.len (by assumption) rfl) ?_)
    refine pops.cmp rfl rfl rfl rfl rfl (fun q2 => ?_) (fun q2 => ?_)
    · have q2 := of_decide_eq_true q2
      repeat (first | refine pops.bin rfl rfl rfl rfl rfl rfl (cbin_inc (by omega)) ?_ | refine pops.fl rfl rfl rfl rfl rfl ?_ | refine pops.skip rfl rfl rfl ?_ | refine pops.load rfl rfl rfl rfl rfl (by first | assumption | exact cload_of (by assumption) rfl) ?_ | refine pops.len rfl rfl rfl rfl rfl rfl rfl rfl (by first | exact SlA.len (by assumption) rfl | exact SlI.len (by assumption) rfl | exact SlS.len (by assumption) rfl | exact Sl.len (by assumption) rfl) ?_)
      refine pops.nil ?_
      repeat (first | refine kthenP.n ?_ | refine kthenP.r ?_ | refine kthenP.e ?_ | refine kblockP.n ?_ | refine kblockP.r ?_ | refine kblockP.e ?_ | refine kblockP.o rfl ?_ | refine Runs.seq ?_ | refine Runs.region ?_ | refine Runs.block ?_ | refine Runs.cond ?_ | refine Runs.skip ?_ | refine Runs.loop ?_ | refine Runs.exit ?_ | refine Runs.ret ?_)
      refine pcond.t rfl ?_
      repeat (first | refine kthenP.n ?_ | refine kthenP.r ?_ | refine kthenP.e ?_ | refine kblockP.n ?_ | refine kblockP.r ?_ | refine kblockP.e ?_ | refine kblockP.o rfl ?_ | refine Runs.seq ?_ | refine Runs.region ?_ | refine Runs.block ?_ | refine Runs.cond ?_ | refine Runs.skip ?_ | refine Runs.loop ?_ | refine Runs.exit ?_ | refine Runs.ret ?_)
      repeat (first | refine pops.bin rfl rfl rfl rfl rfl rfl (cbin_inc (by omega)) ?_ | refine pops.fl rfl rfl rfl rfl rfl ?_ | refine pops.skip rfl rfl rfl ?_ | refine pops.load rfl rfl rfl rfl rfl (by first | assumption | exact cload_of (by assumption) rfl) ?_ | refine pops.len rfl rfl rfl rfl rfl rfl rfl rfl (by first | exact SlA.len (by assumption) rfl | exact SlI.len (by assumption) rfl | exact SlS.len (by assumption) rfl | exact Sl.len (by assumption) rfl) ?_)
      refine pops.nil ?_
      repeat (first | refine kthenP.n ?_ | refine kthenP.r ?_ | refine kthenP.e ?_ | refine kblockP.n ?_ | refine kblockP.r ?_ | refine kblockP.e ?_ | refine kblockP.o rfl ?_ | refine Runs.seq ?_ | refine Runs.region ?_ | refine Runs.block ?_ | refine Runs.cond ?_ | refine Runs.skip ?_ | refine Runs.loop ?_ | refine Runs.exit ?_ | refine Runs.ret ?_)
      refine pleave.r rfl ?_
      refine ⟨?_, g02.trans g3⟩
      rw [decide_eq_true (show r.rules.length ≤ 100 by omega), decide_eq_false (show ¬ partsR r.rules ≤ 4000 by omega)]
      rfl
    have q2 := of_decide_eq_false q2
    repeat (first | refine pops.bin rfl rfl rfl rfl rfl rfl (cbin_inc (by omega)) ?_ | refine pops.fl rfl rfl rfl rfl rfl ?_ | refine pops.skip rfl rfl rfl ?_ | refine pops.load rfl rfl rfl rfl rfl (by first | assumption | exact cload_of (by assumption) rfl) ?_ | refine pops.len rfl rfl rfl rfl rfl rfl rfl rfl (by first | exact SlA.len (by assumption) rfl | exact SlI.len (by assumption) rfl | exact SlS.len (by assumption) rfl | exact Sl.len (by assumption) rfl) ?_)
    refine pops.nil ?_
    repeat (first | refine kthenP.n ?_ | refine kthenP.r ?_ | refine kthenP.e ?_ | refine kblockP.n ?_ | refine kblockP.r ?_ | refine kblockP.e ?_ | refine kblockP.o rfl ?_ | refine Runs.seq ?_ | refine Runs.region ?_ | refine Runs.block ?_ | refine Runs.cond ?_ | refine Runs.skip ?_ | refine Runs.loop ?_ | refine Runs.exit ?_ | refine Runs.ret ?_)
    refine pcond.f rfl ?_
    repeat (first | refine kthenP.n ?_ | refine kthenP.r ?_ | refine kthenP.e ?_ | refine kblockP.n ?_ | refine kblockP.r ?_ | refine kblockP.e ?_ | refine kblockP.o rfl ?_ | refine Runs.seq ?_ | refine Runs.region ?_ | refine Runs.block ?_ | refine Runs.cond ?_ | refine Runs.skip ?_ | refine Runs.loop ?_ | refine Runs.exit ?_ | refine Runs.ret ?_)
    repeat (first | refine pops.bin rfl rfl rfl rfl rfl rfl (cbin_inc (by omega)) ?_ | refine pops.fl rfl rfl rfl rfl rfl ?_ | refine pops.skip rfl rfl rfl ?_ | refine pops.load rfl rfl rfl rfl rfl (by first | assumption | exact cload_of (by assumption) rfl) ?_ | refine pops.len rfl rfl rfl rfl rfl rfl rfl rfl (by first | exact SlA.len (by assumption) rfl | exact SlI.len (by assumption) rfl | exact SlS.len (by assumption) rfl | exact Sl.len (by assumption) rfl) ?_)
    refine pops.nil ?_
    repeat (first | refine kthenP.n ?_ | refine kthenP.r ?_ | refine kthenP.e ?_ | refine kblockP.n ?_ | refine kblockP.r ?_ | refine kblockP.e ?_ | refine kblockP.o rfl ?_ | refine Runs.seq ?_ | refine Runs.region ?_ | refine Runs.block ?_ | refine Runs.cond ?_ | refine Runs.skip ?_ | refine Runs.loop ?_ | refine Runs.exit ?_ | refine Runs.ret ?_)
    refine pleave.r rfl ?_
    refine ⟨?_, g02.trans g3⟩
    rw [decide_eq_true (show r.rules.length ≤ 100 by omega), decide_eq_true (show partsR r.rules ≤ 4000 by omega)]
    rfl
end Go.Proofs.YtnchhgjoiboibaaGreatDoor
